/- The table of acceptors and coordinators: as plain data, and in memory. -/
import Derived.Test.YtjmddkaokmdkbaaPcoD
import Derived.Test.YtjmddkaokmdkbaaTak
namespace Go.Proofs.Ytjmddkaokmdkbaa
open Go Go.RowKit Kf
set_option maxRecDepth 20000
/-! ### As plain data -/
structure Tb where
  parts : List Int
  votes : List Int
  many : Int
  kept : Nat → List Acc
  co : Nat → CC
  starts : Int
  post : List Msg
  value : Int
  above : Bool
  bad : Bool
def updN {α : Type} (f : Nat → α) (k : Nat) (x : α) : Nat → α := fun q => if q = k then x else f q
theorem updN_at {α : Type} {f : Nat → α} {k : Nat} {x : α} : updN f k x k = x := if_pos rfl
theorem updN_ne {α : Type} {f : Nat → α} {k q : Nat} {x : α} (h : q ≠ k) : updN f k x q = f q := if_neg h
def voteM (x : Tb) (k : Nat) (a : Int) : Msg := { Msg.zero with Kind := 10, From := 1 + ((k % 3 : Nat) : Int), To := a, Txn := 5, Part := x.parts.getD k 0, Value := x.votes.getD k 0 }
/-- the first n messages of a vote -/
def Tb.voteN (x : Tb) (k n : Nat) : Tb := { x with post := x.post ++ (List.range n).map fun (i : Nat) => voteM x k ((i : Int) + 1) }
def Tb.vote (x : Tb) (k : Nat) : Tb := x.voteN k x.many.toNat
def Tb.tellsN (x : Tb) (m : Msg) (n : Nat) : Tb := { x with post := x.post ++ (List.range n).map fun (i : Nat) => { m with To := ((i : Int) + 1) } }
def Tb.tells (x : Tb) (m : Msg) : Tb := x.tellsN m 3
def Tb.val1 (x : Tb) (k : Nat) : Tb :=
  if (x.co k).value = 0 then x else { x with bad := if (x.value ≠ 0 ∧ (x.co k).value ≠ x.value) ∨ ((x.co k).value ≠ 1 ∧ (x.co k).value ≠ 2) then true else x.bad, value := (x.co k).value }
def Tb.values (x : Tb) : Tb := ((x.val1 0).val1 1).val1 2
def Tb.less (x : Tb) (i : Nat) : Tb := { x with post := x.post.take i ++ x.post.drop (i + 1) }
def Tb.out1 (x : Tb) (m : Msg) : Tb := if m.Kind = 11 then x.tells m else if 1 ≤ m.To ∧ m.To ≤ 3 then { x with post := x.post ++ [m] } else x
def Tb.stepC (x : Tb) (k : Nat) (m : Msg) : Tb := { x with co := updN x.co k ((x.co k).step m).1, post := x.post ++ ((x.co k).step m).2 }
def Tb.took (x : Tb) (m : Msg) : Tb := { x with above := x.above || (decide (m.Kind = 10) && decide (0 < m.Ballot)), kept := updN x.kept m.To.toNat (takeA (x.kept m.To.toNat) m.To m).1 }
def Tb.takeM (x : Tb) (m : Msg) : Tb := (takeA (x.kept m.To.toNat) m.To m).2.1.foldl Tb.out1 (x.took m)
def Tb.come (x : Tb) (i : Nat) : Tb :=
  let m := x.post.getD i Msg.zero
  if m.Kind ≠ 8 ∧ m.Kind ≠ 10 then (x.less i).stepC (m.To - 1).toNat m else (x.less i).takeM m
def Tb.start (x : Tb) (k : Nat) : Tb :=
  { x with starts := x.starts + 1, co := updN x.co k ((x.co k).started (8 * (x.starts + 1) + (k : Int) + 1)), post := x.post ++ (x.co k).startM (8 * (x.starts + 1) + (k : Int) + 1) }
def Tb.made (x : Tb) (k : Nat) : Tb := { x with co := updN x.co k (CC.new ((k : Int) + 1) 5 x.many x.parts) }
/-! ### In memory -/
inductive TR where
  | tab | parts | votes | coords | post
  | kept (a : Nat)
  | co (k : Nat) (r : Rl)
def coF (G : Fp TR) (k : Nat) : Fp Rl := fun b => match G b with
  | some (.co j r) => if j = k then some r else none
  | _ => none
theorem coF_some {G : Fp TR} {k b : Nat} {r : Rl} (h : coF G k b = some r) : G b = some (.co k r) := by
  unfold coF at h
  split at h
  · rename_i j r' e
    split at h
    · rename_i hj; subst hj; injection h with h; subst h; exact e
    · cases h
  · cases h
theorem coF_of {G : Fp TR} {k b : Nat} {r : Rl} (h : G b = some (.co k r)) : coF G k b = some r := by
  unfold coF; rw [h]; exact if_pos rfl
theorem coF_none {G : Fp TR} {k b : Nat} (h : ∀ r, G b ≠ some (.co k r)) : coF G k b = none := by
  cases e : coF G k b with
  | none => rfl
  | some r => exact absurd (coF_some e) (h r)
theorem coF_on {G : Fp TR} {k b : Nat} (h : coF G k b ≠ none) : ∃ r, G b = some (.co k r) := by
  cases e : coF G k b with
  | none => exact absurd e h
  | some r => exact ⟨r, coF_some e⟩
abbrev Tb.cells (x : Tb) (vp vv vc vo : Value) (vk : Nat → Value) : List Value :=
  [vp, vv, i64 x.many, vk 0, vk 1, vk 2, vk 3, vk 4, vk 5, vk 6, vk 7, vc, i64 x.starts, vo, i64 x.value, .bool x.above, .bool x.bad]
abbrev ptrs (gk : Nat → Nat) (n : Nat) : List Value := (List.range n).map fun k => at_ (gk k)
structure TIn (w0 w : World) (G : Fp TR) (g : Nat) (x : Tb) (n : Nat) (vp vv vc vo : Value) (vk : Nat → Value) (gk : Nat → Nat) : Prop where
  since : Ext w0 w
  low : ∀ b, G b ≠ none → w0.heap.size ≤ b
  below : G.below w
  at_ : G g = some .tab
  obj : Blk w g 63 (x.cells vp vv vc vo vk)
  parts : RowF w G .parts 3 1 vp x.parts.length (x.parts.map i64)
  votes : RowF w G .votes 3 1 vv x.votes.length (x.votes.map i64)
  kept : ∀ a, a < 8 → RowF w G (.kept a) 102 5 (vk a) (x.kept a).length ((x.kept a).flatMap Acc.c)
  coords : RowF w G .coords 27 1 vc n (ptrs gk n)
  post : RowF w G .post 40 17 vo x.post.length (x.post.flatMap Msg.bare)
  co : ∀ k, k < n → CAt w (coF G k) (gk k) (x.co k)
/-- the table, whose blocks are G -/
def TG (w0 w : World) (G : Fp TR) (g : Nat) (x : Tb) (n : Nat) : Prop := ∃ vp vv vc vo vk gk, TIn w0 w G g x n vp vv vc vo vk gk
/-- what a call leaves of the table, and changes -/
def TP (w0 w w' : World) (G : Fp TR) (g : Nat) (x : Tb) (n : Nat) : Prop := ∃ G' : Fp TR, (∀ b, b < w.heap.size → G b = none → G' b = none) ∧ ChgS G.on w w' ∧ TG w0 w' G' g x n
def TAt (w0 w : World) (g : Nat) (x : Tb) : Prop := ∃ G, TG w0 w G g x 3
section
variable {w0 w w' w'' : World} {G G' : Fp TR} {g n : Nat} {x x' : Tb} {vp vv vc vo : Value} {vk : Nat → Value} {gk : Nat → Nat} {S : Nat → Prop}
theorem TG.at' (h : TG w0 w G g x 3) : TAt w0 w g x := ⟨G, h⟩
theorem TP.at' (h : TP w0 w w' G g x 3) : TAt w0 w' g x := by obtain ⟨G', _, _, h⟩ := h; exact ⟨G', h⟩
theorem TIn.ext (h : TIn w0 w G g x n vp vv vc vo vk gk) (k : Ext w w') : TIn w0 w' G g x n vp vv vc vo vk gk :=
  ⟨Ext.trans h.since k, h.low, Fp.below_le h.below k.size, h.at_, h.obj.ext k, h.parts.ext k, h.votes.ext k, fun a ha => (h.kept a ha).ext k, h.coords.ext k, h.post.ext k, fun i hi => (h.co i hi).ext k⟩
theorem TG.ext (h : TG w0 w G g x n) (k : Ext w w') : TG w0 w' G g x n := by
  obtain ⟨a, b, c, d, e, f, h⟩ := h; exact ⟨a, b, c, d, e, f, h.ext k⟩
theorem TAt.ext (h : TAt w0 w g x) (k : Ext w w') : TAt w0 w' g x := by obtain ⟨G, h⟩ := h; exact ⟨G, h.ext k⟩
theorem TG.since (h : TG w0 w G g x n) : Ext w0 w := by obtain ⟨_, _, _, _, _, _, h⟩ := h; exact h.since
theorem TAt.since (h : TAt w0 w g x) : Ext w0 w := by obtain ⟨_, h⟩ := h; exact h.since
theorem TG.below (h : TG w0 w G g x n) : G.below w := by obtain ⟨_, _, _, _, _, _, h⟩ := h; exact h.below
theorem TP.refl (h : TG w0 w G g x n) (k : Ext w w') : TP w0 w w' G g x n := ⟨G, fun _ _ e => e, ChgS.of_ext k, h.ext k⟩
theorem TP.trans (h : TP w0 w w' G g x n) (k : ∀ G', TG w0 w' G' g x n → TP w0 w' w'' G' g x' n) : TP w0 w w'' G g x' n := by
  obtain ⟨G1, h1, h2, h3⟩ := h
  obtain ⟨G2, k1, k2, k3⟩ := k G1 h3
  refine ⟨G2, fun b hb e => k1 b (Nat.lt_of_lt_of_le hb h2.size) (h1 b hb e), ChgS.trans h2 k2 (fun i hi => ?_), k3⟩
  by_cases hb : i < w.heap.size
  · exact .inl fun e => hi (h1 i hb e)
  · exact .inr (by omega)
theorem TP.ext (h : TP w0 w w' G g x n) (k : Ext w' w'') : TP w0 w w'' G g x n := h.trans fun _ hG => TP.refl hG k
theorem TP.pre {w1 : World} (k : Ext w w1) (h : TP w0 w1 w' G g x n) : TP w0 w w' G g x n := by
  obtain ⟨G1, h1, h2, h3⟩ := h
  exact ⟨G1, fun b hb e => h1 b (Nat.lt_of_lt_of_le hb k.size) e, ChgS.trans (ChgS.of_ext k) h2 (fun i hi => .inl hi), h3⟩
/-- a block of another's stays -/
theorem TP.blk {b e : Nat} {cs : List Value} (h : TP w0 w w' G g x n) (k : Blk w b e cs) (hb : G b = none) : Blk w' b e cs := by
  obtain ⟨_, _, h2, _⟩ := h; exact k.chgS h2 (fun q => q hb)
theorem on_of {b : Nat} {r : TR} (h : G b = some r) : G.on b := fun e => by rw [h] at e; cases e
theorem TIn.ge (h : TIn w0 w G g x n vp vv vc vo vk gk) {b : Nat} {r : TR} (e : G b = some r) : w0.heap.size ≤ b := h.low b (on_of e)
/-- rows and coordinators of other blocks -/
theorem row_keep {r : TR} {e : TypeId} {sz m : Nat} {v : Value} {cs : List Value} (h : RowF w G r e sz v m cs) (k : ChgS S w w') (hs : ∀ b, G b = some r → ¬ S b) (hsub : G.sub G') : RowF w' G' r e sz v m cs := (h.chgS k hs).sub hsub
theorem TIn.chg0 (h : TIn w0 w G g x n vp vv vc vo vk gk) (k : ChgS S w w') (hS : ∀ b, S b → G b = some .tab) : Ext w0 w' ∧ G.below w' ∧ RowF w' G .parts 3 1 vp x.parts.length (x.parts.map i64) ∧ RowF w' G .votes 3 1 vv x.votes.length (x.votes.map i64) ∧ (∀ a, a < 8 → RowF w' G (.kept a) 102 5 (vk a) (x.kept a).length ((x.kept a).flatMap Acc.c)) ∧ RowF w' G .coords 27 1 vc n (ptrs gk n) ∧ RowF w' G .post 40 17 vo x.post.length (x.post.flatMap Msg.bare) ∧ ∀ i, i < n → CAt w' (coF G i) (gk i) (x.co i) := by
  have q : ∀ {b r}, G b = some r → r ≠ .tab → ¬ S b := fun {b r} e hr hb => by rw [hS b hb] at e; injection e with e; exact hr e.symm
  refine ⟨ChgS.toExt h.since k (fun i hi => h.ge (hS i hi)), Fp.below_le h.below k.size, h.parts.chgS k (fun b e => q e (by simp)), h.votes.chgS k (fun b e => q e (by simp)), fun a ha => (h.kept a ha).chgS k (fun b e => q e (by simp)), h.coords.chgS k (fun b e => q e (by simp)), h.post.chgS k (fun b e => q e (by simp)), fun i hi => (h.co i hi).chgS k (fun b e => ?_)⟩
  obtain ⟨r, e⟩ := coF_on e
  exact q e (by simp)
/-- numbers of the table are written -/
theorem TIn.setN (h : TIn w0 w G g x n vp vv vc vo vk gk) (k : w.grownBy w' (some g)) (hg : Blk w' g 63 (x'.cells vp vv vc vo vk)) (e1 : x'.parts = x.parts) (e2 : x'.votes = x.votes) (e3 : x'.kept = x.kept) (e4 : x'.co = x.co) (e5 : x'.post = x.post) : TIn w0 w' G g x' n vp vv vc vo vk gk := by
  have hC : ChgS (fun b => b = g) w w' := (ChgS.refl _ w).row1 k (.inl rfl)
  obtain ⟨h1, h2, h3, h4, h5, h6, h7, h8⟩ := h.chg0 hC (fun b e => by rw [e]; exact h.at_)
  exact ⟨h1, h.low, h2, h.at_, hg, e1 ▸ h3, e2 ▸ h4, fun a ha => by rw [e3]; exact h5 a ha, h6, e5 ▸ h7, fun i hi => by rw [e4]; exact h8 i hi⟩
theorem TIn.setN_P (h : TIn w0 w G g x n vp vv vc vo vk gk) (k : w.grownBy w' (some g)) (h2 : TIn w0 w' G g x' n vp vv vc vo vk gk) : TP w0 w w' G g x' n :=
  ⟨G, fun _ _ e => e, (ChgS.refl _ w).row1 k (.inl (on_of h.at_)), ⟨_, _, _, _, _, _, h2⟩⟩
/-- a row of the table's is another one -/
theorem TIn.row {r : TR} {v : Value} (h : TIn w0 w G g x n vp vv vc vo vk gk) (hr : r = .parts ∨ r = .votes ∨ r = .post ∨ r = .coords ∨ ∃ a, r = .kept a) (hv : ∀ b, v.ownBlock = some b → b < w'.heap.size ∧ (G b = some r ∨ w.heap.size ≤ b)) (hC : ChgS (fun b => b = g ∨ G b = some r) w w') :
    G.sub (G.own v r) ∧ (∀ b, b < w.heap.size → G b = none → (G.own v r) b = none) ∧ ChgS G.on w w' ∧ Ext w0 w' ∧ (∀ b, (G.own v r) b ≠ none → w0.heap.size ≤ b) ∧ Fp.below (G.own v r) w' ∧ (∀ {q : TR} {e : TypeId} {sz m : Nat} {u : Value} {cs : List Value}, RowF w G q e sz u m cs → q ≠ r → q ≠ .tab → RowF w' (G.own v r) q e sz u m cs) ∧ ∀ i, i < n → CAt w' (coF (G.own v r) i) (gk i) (x.co i) := by
  have hco : ∀ i q, r ≠ .co i q := by rintro i q rfl; rcases hr with h | h | h | h | ⟨a, h⟩ <;> cases h
  have hv' : ∀ b, v.ownBlock = some b → G b = some r ∨ G b = none ∧ w.heap.size ≤ b := fun b e => by
    rcases (hv b e).2 with e | e
    · exact .inl e
    · exact .inr ⟨Fp.fresh h.below e, e⟩
  have hle := Fp.own_le (w := w) hv'
  have hE : Ext w0 w' := ChgS.toExt h.since hC (fun i hi => by rcases hi with rfl | e; exact h.ge h.at_; exact h.ge e)
  have hz0 := h.since.size
  have q : ∀ {b : Nat} {p : TR}, G b = some p → p ≠ r → p ≠ .tab → ¬ (b = g ∨ G b = some r) := by
    rintro b p e n1 n2 (rfl | e2)
    · rw [h.at_] at e; injection e with e; exact n2 e.symm
    · rw [e2] at e; injection e with e; exact n1 e.symm
  refine ⟨hle.sub, fun b hb e => ?_, hC.mono fun b e => ?_, hE, fun b e => ?_, Fp.own_below (Fp.below_le h.below hC.size) (fun b e => (hv b e).1), fun hrow n1 n2 => row_keep hrow hC (fun b e => q e n1 n2) hle.sub, fun i hi => ?_⟩
  · show (if v.ownBlock = some b then some r else G b) = none
    rw [if_neg]; exact e
    intro hb2
    rcases (hv b hb2).2 with e2 | e2
    · rw [e2] at e; cases e
    · omega
  · rcases e with rfl | e
    · exact on_of h.at_
    · exact on_of e
  · rcases hle.new b e with e | e
    · exact h.low b e
    · omega
  · have he : coF (G.own v r) i = coF G i := by
      funext b
      by_cases hb : v.ownBlock = some b
      · have e1 : (G.own v r) b = some r := Fp.own_at hb
        have e2 : coF G i b = none := coF_none fun q e => by
          rcases hv' b hb with e3 | ⟨e3, _⟩
          · rw [e3] at e; injection e with e; exact hco i q e
          · rw [e3] at e; cases e
        rw [e2]
        exact coF_none fun q e => by rw [e1] at e; injection e with e; exact hco i q e
      · unfold coF; rw [show (G.own v r) b = G b from if_neg hb]
    rw [he]
    refine (h.co i hi).chgS hC (fun b e => ?_)
    obtain ⟨q', e⟩ := coF_on e
    exact q e (fun e' => hco i q' e'.symm) (by simp)
theorem RowF.mkB {r : TR} {e : TypeId} {sz m B : Nat} {v : Value} {cs : List Value} (h : w.ownsRow B e sz v m cs) : RowF w (G.own v r) r e sz v m cs := RowF.mk' h
theorem TIn.setPost {v : Value} {l : List Msg} (h : TIn w0 w G g x n vp vv vc vo vk gk) (hg : Blk w' g 63 (x.cells vp vv vc v vk)) (ho : w'.ownsRow 0 40 17 v l.length (l.flatMap Msg.bare)) (hv : ∀ b, v.ownBlock = some b → vo.ownBlock = some b ∨ w.heap.size ≤ b) (hC : ChgS (fun b => b = g ∨ G b = some .post) w w') :
    TP w0 w w' G g { x with post := l } n := by
  obtain ⟨h1, h2, h3, h4, h5, h6, h7, h8⟩ := h.row (r := .post) (v := v) (.inr (.inr (.inl rfl))) (fun b e => ⟨(ho.lt b e).2, by rcases hv b e with q | q; exact .inl (h.post.fp b q); exact .inr q⟩) hC
  exact ⟨_, h2, h3, ⟨vp, vv, vc, v, vk, gk, h4, h5, h6, h1 _ _ h.at_, hg, h7 h.parts (by simp) (by simp), h7 h.votes (by simp) (by simp), fun a ha => h7 (h.kept a ha) (by simp) (by simp), h7 h.coords (by simp) (by simp), RowF.mk' ho, h8⟩⟩
theorem TIn.setKept {v : Value} {l : List Acc} {a : Nat} {B : Nat} (h : TIn w0 w G g x n vp vv vc vo vk gk) (hg : Blk w' g 63 (x'.cells vp vv vc vo (updN vk a v))) (e : x' = { x with kept := updN x.kept a l }) (ho : w'.ownsRow B 102 5 v l.length (l.flatMap Acc.c)) (hv : ∀ b, v.ownBlock = some b → w.heap.size ≤ b) (hC : ChgS (fun b => b = g) w w') :
    TP w0 w w' G g x' n := by
  subst e
  obtain ⟨h1, h2, h3, h4, h5, h6, h7, h8⟩ := h.row (r := .kept a) (v := v) (.inr (.inr (.inr (.inr ⟨a, rfl⟩)))) (fun b e => ⟨(ho.lt b e).2, .inr (hv b e)⟩) (hC.mono fun b e => .inl e)
  refine ⟨_, h2, h3, ⟨vp, vv, vc, vo, updN vk a v, gk, h4, h5, h6, h1 _ _ h.at_, hg, h7 h.parts (by simp) (by simp), h7 h.votes (by simp) (by simp), fun j hj => ?_, h7 h.coords (by simp) (by simp), h7 h.post (by simp) (by simp), h8⟩⟩
  by_cases e : j = a
  · subst e
    show RowF _ _ _ 102 5 (updN vk j v j) (updN x.kept j l j).length ((updN x.kept j l j).flatMap Acc.c)
    rw [updN_at, updN_at]; exact RowF.mk' ho
  · show RowF _ _ _ 102 5 (updN vk a v j) (updN x.kept a l j).length ((updN x.kept a l j).flatMap Acc.c)
    rw [updN_ne e, updN_ne e]; exact h7 (h.kept j hj) (by simpa using e) (by simp)
/-- a coordinator has been told something -/
theorem TIn.setCo {k : Nat} {c : CC} {r : Value} (h : TIn w0 w G g x n vp vv vc vo vk gk) (hk : k < n) (hc : CPost w w' (coF G k) (gk k) c r) (hr : ∀ b, r.ownBlock = some b → w.heap.size ≤ b) : ∃ G', (∀ b, b < w.heap.size → G b = none → G' b = none) ∧ ChgS G.on w w' ∧ TIn w0 w' G' g { x with co := updN x.co k c } n vp vv vc vo vk gk ∧ ∀ b, r.ownBlock = some b → G' b = none := by
  obtain ⟨F', f1, f2, f3, f4⟩ := hc
  have hin : ∀ {b}, (coF G k).on b → ∃ q, G b = some (.co k q) := fun {b} e => coF_on e
  let G' : Fp TR := fun b => match F' b with
    | some q => some (.co k q)
    | none => G b
  have g1 : ∀ {b q}, F' b = some q → G' b = some (.co k q) := fun {b q} e => by show (match F' b with | some q => _ | none => _) = _; rw [e]
  have g2 : ∀ {b}, F' b = none → G' b = G b := fun {b} e => by show (match F' b with | some q => _ | none => _) = _; rw [e]
  have hsub : G.sub G' := fun b q e => by
    cases e' : F' b with
    | none => rw [g2 e']; exact e
    | some q' =>
      rw [g1 e']
      rcases f1.new b (by rw [e']; simp) with h' | h'
      · obtain ⟨q2, e2⟩ := coF_on h'
        have := f1.sub b q2 (coF_of e2)
        rw [e'] at this; injection this with this; subst this
        rw [← e2, e]
      · have := Fp.lt h.below e; omega
  have hs : ∀ {b p}, G b = some p → (∀ q, p ≠ .co k q) → ¬ (coF G k).on b := fun {b p} e hp hb => by
    obtain ⟨q, e2⟩ := coF_on hb
    rw [e2] at e; injection e with e; exact hp q e.symm
  have hz := f3.size
  have hz0 := h.since.size
  refine ⟨G', fun b hb e => ?_, f3.mono fun b e => ?_, ⟨?_, fun b e => ?_, fun b e => ?_, hsub _ _ h.at_, h.obj.chgS f3 (hs h.at_ (by simp)), row_keep h.parts f3 (fun b e => hs e (by simp)) hsub, row_keep h.votes f3 (fun b e => hs e (by simp)) hsub, fun a ha => row_keep (h.kept a ha) f3 (fun b e => hs e (by simp)) hsub, row_keep h.coords f3 (fun b e => hs e (by simp)) hsub, row_keep h.post f3 (fun b e => hs e (by simp)) hsub, fun i hi => ?_⟩, fun b e => ?_⟩
  · cases e' : F' b with
    | none => rw [g2 e']; exact e
    | some q =>
      rcases f1.new b (by rw [e']; simp) with h' | h'
      · obtain ⟨q2, e2⟩ := coF_on h'; rw [e] at e2; cases e2
      · omega
  · obtain ⟨q, e⟩ := coF_on e; exact on_of e
  · exact ChgS.toExt h.since f3 (fun i hi => by obtain ⟨q, e⟩ := coF_on hi; exact h.ge e)
  · cases e' : F' b with
    | none => rw [g2 e'] at e; exact h.low b e
    | some q =>
      rcases f1.new b (by rw [e']; simp) with h' | h'
      · obtain ⟨q2, e2⟩ := coF_on h'; exact h.ge e2
      · omega
  · cases e' : F' b with
    | none => rw [g2 e'] at e; have := h.below b e; omega
    | some q => exact f2.below b (by rw [e']; simp)
  · by_cases hik : i = k
    · subst hik
      have e1 : coF G' i = F' := by
        funext b
        cases e' : F' b with
        | some q => exact coF_of (g1 e')
        | none =>
          refine coF_none fun q e2 => ?_
          rw [g2 e'] at e2
          rw [f1.sub b q (coF_of e2)] at e'; cases e'
      rw [e1]
      show CAt w' F' (gk i) (updN x.co i c i)
      rw [updN_at]; exact f2
    · have e1 : coF G' i = coF G i := by
        funext b
        cases e' : F' b with
        | none => unfold coF; rw [g2 e']
        | some q =>
          rw [show coF G' i b = none from coF_none fun q2 e2 => by rw [g1 e'] at e2; injection e2 with e2; injection e2 with e2 _; exact hik e2.symm]
          symm
          refine coF_none fun q2 e2 => ?_
          rcases f1.new b (by rw [e']; simp) with h' | h'
          · obtain ⟨q3, e3⟩ := coF_on h'; rw [e2] at e3; injection e3 with e3; injection e3 with e3 _; exact hik e3
          · have := Fp.lt h.below e2; omega
      rw [e1]
      show CAt w' _ (gk i) (updN x.co k c i)
      rw [updN_ne hik]
      refine (h.co i hi).chgS f3 (fun b e => ?_)
      obtain ⟨q, e⟩ := coF_on e
      exact hs e (fun q' e' => by injection e' with e' _; exact hik e')
  · rw [g2 (f4 b e)]
    exact Fp.fresh h.below (hr b e)
/-- a coordinator that is made anew -/
theorem TIn.newCo {k m : Nat} {c : CC} {F : Fp Rl} {gn : Nat} {v : Value} (h : TIn w0 w G g x n vp vv vc vo vk gk) (hF : CAt w' F gn c) (hnew : ∀ b, F b ≠ none → w.heap.size ≤ b) (hm : m = n ∧ k < n ∨ m = n + 1 ∧ k = n)
    (hg : Blk w' g 63 (x.cells vp vv v vo vk)) (ho : w'.ownsRow 0 27 1 v m (ptrs (updN gk k gn) m)) (hv : ∀ b, v.ownBlock = some b → vc.ownBlock = some b ∨ w.heap.size ≤ b ∧ F b = none) (hC : ChgS (fun b => b = g ∨ G b = some .coords) w w') :
    TP w0 w w' G g { x with co := updN x.co k c } m := by
  let G' : Fp TR := fun b => match F b with
    | some q => some (.co k q)
    | none => if v.ownBlock = some b then some .coords else match G b with
      | some (.co j q) => if j = k then none else some (.co j q)
      | y => y
  have g1 : ∀ {b q}, F b = some q → G' b = some (.co k q) := fun {b q} e => by show (match F b with | some q => _ | none => _) = _; rw [e]
  have hF0 : ∀ {b p}, G b = some p → F b = none := fun {b p} e => by
    cases e' : F b with
    | none => rfl
    | some q => have := hnew b (by rw [e']; simp); have := Fp.lt h.below e; omega
  have hv0 : ∀ {b}, v.ownBlock = some b → F b = none := fun {b} e => by
    rcases hv b e with q | ⟨_, q⟩
    · exact hF0 (h.coords.fp b q)
    · exact q
  have g2 : ∀ {b}, v.ownBlock = some b → G' b = some .coords := fun {b} e => by
    show (match F b with | some q => _ | none => _) = _
    rw [hv0 e]; exact if_pos e
  have g3 : ∀ {b p}, G b = some p → (∀ q, p ≠ .co k q) → G' b = some p := fun {b p} e hp => by
    show (match F b with | some q => _ | none => _) = _
    rw [hF0 e]
    dsimp only
    by_cases hvb : v.ownBlock = some b
    · rw [if_pos hvb]
      rcases hv b hvb with q | ⟨q, _⟩
      · rw [← h.coords.fp b q, e]
      · have := Fp.lt h.below e; omega
    · rw [if_neg hvb, e]
      cases p with
      | co j q => exact if_neg (fun e' => hp q (by rw [e']))
      | _ => rfl
  have g4 : ∀ {b}, F b = none → v.ownBlock ≠ some b → (G b = none ∨ ∃ q, G b = some (.co k q)) → G' b = none := fun {b} e hvb hn => by
    show (match F b with | some q => _ | none => _) = _
    rw [e]
    dsimp only
    rw [if_neg hvb]
    rcases hn with e2 | ⟨q, e2⟩
    · rw [e2]
    · rw [e2]; exact if_pos rfl
  have back : ∀ {b p}, G' b = some p → (∃ q, F b = some q ∧ p = .co k q) ∨ (v.ownBlock = some b ∧ p = .coords) ∨ (G b = some p ∧ ∀ q, p ≠ .co k q) := fun {b p} e => by
    cases e' : F b with
    | some q => rw [g1 e'] at e; injection e with e; exact .inl ⟨q, rfl, e.symm⟩
    | none =>
      by_cases hvb : v.ownBlock = some b
      · rw [g2 hvb] at e; injection e with e; exact .inr (.inl ⟨hvb, e.symm⟩)
      · by_cases hn : G b = none ∨ ∃ q, G b = some (.co k q)
        · rw [g4 e' hvb hn] at e; cases e
        · cases e2 : G b with
          | none => exact absurd (.inl e2) hn
          | some p2 =>
            have hp2 : ∀ q, p2 ≠ .co k q := fun q e3 => hn (.inr ⟨q, by rw [e2, e3]⟩)
            rw [g3 e2 hp2] at e; injection e with e; subst e
            exact .inr (.inr ⟨rfl, hp2⟩)
  have hq : ∀ {b : Nat} {p : TR}, G b = some p → p ≠ .coords → p ≠ .tab → ¬ (b = g ∨ G b = some .coords) := by
    rintro b p e n1 n2 (rfl | e2)
    · rw [h.at_] at e; injection e with e; exact n2 e.symm
    · rw [e2] at e; injection e with e; exact n1 e.symm
  have hz := hC.size
  have hz0 := h.since.size
  have keep : ∀ {q : TR} {e : TypeId} {sz j : Nat} {u : Value} {cs : List Value}, RowF w G q e sz u j cs → q ≠ .coords → q ≠ .tab → (∀ i r, q ≠ .co i r) → RowF w' G' q e sz u j cs := fun hrow n1 n2 n3 =>
    ⟨(hrow.chgS hC (fun b e => hq e n1 n2)).own, fun b hb => g3 (hrow.fp b hb) (n3 k)⟩
  refine ⟨G', fun b hb e => ?_, hC.mono fun b e => ?_, ⟨vp, vv, v, vo, vk, updN gk k gn, ?_, fun b e => ?_, fun b e => ?_, g3 h.at_ (by simp), hg, keep h.parts (by simp) (by simp) (by simp), keep h.votes (by simp) (by simp) (by simp), fun a ha => keep (h.kept a ha) (by simp) (by simp) (by simp), ⟨ho, fun b e => g2 e⟩, keep h.post (by simp) (by simp) (by simp), fun i hi => ?_⟩⟩
  · cases e' : F b with
    | some q => have := hnew b (by rw [e']; simp); omega
    | none =>
      refine g4 e' (fun hvb => ?_) (.inl e)
      rcases hv b hvb with q | ⟨q, _⟩
      · rw [h.coords.fp b q] at e; cases e
      · omega
  · rcases e with rfl | e
    · exact on_of h.at_
    · exact on_of e
  · exact ChgS.toExt h.since hC (fun i hi => by rcases hi with rfl | e; exact h.ge h.at_; exact h.ge e)
  · cases e' : G' b with
    | none => exact absurd e' e
    | some p =>
      rcases back e' with ⟨q, e2, _⟩ | ⟨e2, _⟩ | ⟨e2, _⟩
      · have := hnew b (by rw [e2]; simp); omega
      · rcases hv b e2 with q | ⟨q, _⟩
        · exact h.ge (h.coords.fp b q)
        · omega
      · exact h.ge e2
  · cases e' : G' b with
    | none => exact absurd e' e
    | some p =>
      rcases back e' with ⟨q, e2, _⟩ | ⟨e2, _⟩ | ⟨e2, _⟩
      · exact hF.below b (by rw [e2]; simp)
      · exact (ho.lt b e2).2
      · have := Fp.lt h.below e2; omega
  · by_cases hik : i = k
    · subst hik
      have e1 : coF G' i = F := by
        funext b
        cases e' : F b with
        | some q => exact coF_of (g1 e')
        | none =>
          refine coF_none fun q e2 => ?_
          rcases back e2 with ⟨q', e3, _⟩ | ⟨_, e3⟩ | ⟨_, e3⟩
          · rw [e'] at e3; cases e3
          · cases e3
          · exact e3 q rfl
      rw [e1]
      show CAt w' F (updN gk i gn i) (updN x.co i c i)
      rw [updN_at, updN_at]; exact hF
    · have hin : i < n := by rcases hm with ⟨h1, _⟩ | ⟨h1, h2⟩ <;> omega
      have e1 : coF G' i = coF G i := by
        funext b
        cases e2 : coF G i b with
        | some q => exact coF_of (g3 (coF_some e2) (fun q' e3 => by injection e3 with e3 _; exact hik e3))
        | none =>
          refine coF_none fun q e3 => ?_
          rcases back e3 with ⟨q', _, e4⟩ | ⟨_, e4⟩ | ⟨e4, _⟩
          · injection e4 with e4 _; exact hik e4
          · cases e4
          · rw [coF_of e4] at e2; cases e2
      rw [e1]
      show CAt w' _ (updN gk k gn i) (updN x.co k c i)
      rw [updN_ne hik, updN_ne hik]
      refine (h.co i hin).chgS hC (fun b e => ?_)
      obtain ⟨q, e⟩ := coF_on e
      exact hq e (by simp) (by simp)
end
end Go.Proofs.Ytjmddkaokmdkbaa
