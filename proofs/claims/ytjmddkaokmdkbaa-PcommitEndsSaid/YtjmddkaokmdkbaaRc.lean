/- The document's coordinator, as plain data, and in memory. -/
import Derived.Test.YtjmddkaokmdkbaaCo
namespace Go.Proofs.Ytjmddkaokmdkbaa
open Go Go.RowKit Kf

structure Hd where
  Part : Int
  From : Int
  Ballot : Int
  Index : Int
  Value : Int
abbrev Hd.ints (a : Hd) : List Int := [a.Part, a.From, a.Ballot, a.Index, a.Value]
abbrev Hd.c (a : Hd) : List Go.Value := [i64 a.Part, i64 a.From, i64 a.Ballot, i64 a.Index, i64 a.Value]
theorem Hd.c_len (a : Hd) : a.c.length = 5 := rfl
theorem Hd.c_one (a : Hd) : ∀ u ∈ a.c, u.oneCell' = true := by simp [Hd.c, Go.Value.oneCell']
theorem Hd.eq_iff {a b : Hd} : a = b ↔ a.ints = b.ints := by cases a; cases b; simp [Hd.ints]
instance : DecidableEq Hd := fun _ _ => decidable_of_iff _ Hd.eq_iff.symm
instance : Inhabited Hd := ⟨⟨0, 0, 0, 0, 0⟩⟩
theorem Hd.eqB (a b : Hd) : ([0, 1, 2, 3, 4].all fun i => a.ints.getD i 0 == b.ints.getD i 0) = decide (a = b) := by
  rw [show [0, 1, 2, 3, 4] = List.range 5 from rfl, all_eq (n := 5) (na := a.ints) (nb := b.ints) rfl rfl]
  exact decide_eq_decide.2 Hd.eq_iff.symm
theorem hd_get {l : List Hd} {k : Nat} (hk : k < l.length) {off : Nat} (ho : off < 5) : (l.flatMap Hd.c)[k * 5 + off]? = l[k].c[off]? := flat_get Hd.c_len hk ho
theorem hd_el {l : List Hd} {k : Nat} (hk : k < l.length) : ((l.flatMap Hd.c).drop (k * 5)).take 5 = l[k].c := flat_el Hd.c_len hk
theorem hd_le {w : World} {v : Value} {n sz : Nat} {cs : List Value} (h : Row w v n sz cs) : (n : Int) ≤ 9223372036854775807 := by
  obtain ⟨_, c, _, h1, h2, _⟩ := h.shape; unfold maxLen at h2; omega

/-- the document's coordinator -/
structure RC where
  me : Int
  txn : Int
  nac : Int
  parts : List Int
  acc : List Hd
  prom : List Hd
  prop : List Int
  st : Bool
  top : Int
  bal : Int
def RC.new (me txn nac : Int) (parts : List Int) : RC := ⟨me, txn, nac, parts, [], [], [], false, 0, 0⟩
abbrev RC.cells (c : RC) (vp va vr vo : Value) : List Value := [i64 c.me, i64 c.txn, i64 c.nac, vp, va, vr, vo, .bool c.st, i64 c.top, i64 c.bal]
structure RIn (w : World) (F : Fp Rl) (g : Nat) (c : RC) (vp va vr vo : Value) : Prop where
  below : F.below w
  at_ : F g = some .obj
  obj : Blk w g 49 (c.cells vp va vr vo)
  parts : RowF w F .parts 3 1 vp c.parts.length (c.parts.map i64)
  acc : RowF w F .acc 80 5 va c.acc.length (c.acc.flatMap Hd.c)
  prom : RowF w F .pr 80 5 vr c.prom.length (c.prom.flatMap Hd.c)
  prop : RowF w F .po 3 1 vo c.prop.length (c.prop.map i64)
def RAt (w : World) (F : Fp Rl) (g : Nat) (c : RC) : Prop := ∃ vp va vr vo, RIn w F g c vp va vr vo
section
variable {w w' : World} {F F' : Fp Rl} {g : Nat} {c : RC} {vp va vr vo : Value} {S : Nat → Prop}
theorem RIn.chgS (h : RIn w F g c vp va vr vo) (k : ChgS S w w') (hs : ∀ b, F b ≠ none → ¬ S b) : RIn w' F g c vp va vr vo := by
  have q : ∀ {b r}, F b = some r → ¬ S b := fun {b r} e => hs b (by rw [e]; simp)
  exact ⟨Fp.below_le h.below k.size, h.at_, h.obj.chgS k (q h.at_), h.parts.chgS k (fun b e => q e), h.acc.chgS k (fun b e => q e), h.prom.chgS k (fun b e => q e), h.prop.chgS k (fun b e => q e)⟩
theorem RAt.chgS (h : RAt w F g c) (k : ChgS S w w') (hs : ∀ b, F b ≠ none → ¬ S b) : RAt w' F g c := by
  obtain ⟨vp, va, vr, vo, h⟩ := h; exact ⟨vp, va, vr, vo, h.chgS k hs⟩
theorem RAt.ext (h : RAt w F g c) (k : Ext w w') : RAt w' F g c := h.chgS (ChgS.of_ext (S := fun _ => False) k) (fun _ _ e => e)
theorem RAt.below (h : RAt w F g c) : F.below w := by obtain ⟨vp, va, vr, vo, h⟩ := h; exact h.below
def RPost (w w' : World) (F : Fp Rl) (g : Nat) (c : RC) : Prop := ∃ F' : Fp Rl, F.le w F' ∧ RAt w' F' g c ∧ ChgS F.on w w'
theorem RPost.same (h : RAt w F g c) (k : Ext w w') : RPost w w' F g c := ⟨F, F.le_refl w, h.ext k, ChgS.of_ext k⟩
theorem RPost.pre {w1 : World} (x : Ext w w1) (k : RPost w1 w' F g c) : RPost w w' F g c := by
  obtain ⟨F', h1, h2, h3⟩ := k
  have hz := x.size
  exact ⟨F', ⟨h1.sub, fun b e => by rcases h1.new b e with h | h; exact .inl h; exact .inr (by omega)⟩, h2, ChgS.trans (ChgS.of_ext x) h3 (fun _ h => .inl h)⟩
/-- behind writes into the coordinator itself alone; the lists may stand in new memory -/
theorem R_fin {c' : RC} {Q : Rl → Prop} (h : RIn w F g c vp va vr vo) {va' vr' vo' : Value} (hg : Blk w' g 49 (c'.cells vp va' vr' vo')) (hp : c'.parts = c.parts)
    (hC : ChgS (fun b => b = g ∨ ∃ r, F b = some r ∧ Q r) w w') (q0 : ¬ Q .parts) (q1 : ¬ Q .obj)
    (ha : (¬ Q .acc ∧ va' = va ∧ c'.acc = c.acc) ∨ w'.ownsRow 0 80 5 va' c'.acc.length (c'.acc.flatMap Hd.c)) (ha2 : ∀ b, va'.ownBlock = some b → F b = some .acc ∨ F b = none ∧ w.heap.size ≤ b)
    (hr : (¬ Q .pr ∧ vr' = vr ∧ c'.prom = c.prom) ∨ w'.ownsRow 0 80 5 vr' c'.prom.length (c'.prom.flatMap Hd.c)) (hr2 : ∀ b, vr'.ownBlock = some b → F b = some .pr ∨ F b = none ∧ w.heap.size ≤ b)
    (ho : (¬ Q .po ∧ vo' = vo ∧ c'.prop = c.prop) ∨ w'.ownsRow 0 3 1 vo' c'.prop.length (c'.prop.map i64)) (ho2 : ∀ b, vo'.ownBlock = some b → F b = some .po ∨ F b = none ∧ w.heap.size ≤ b)
    (d1 : ∀ b, va'.ownBlock = some b → vr'.ownBlock ≠ some b) (d2 : ∀ b, va'.ownBlock = some b → vo'.ownBlock ≠ some b) (d3 : ∀ b, vr'.ownBlock = some b → vo'.ownBlock ≠ some b) : RPost w w' F g c' := by
  have l1 := Fp.own_le (w := w) ha2
  have hr3 : ∀ b, vr'.ownBlock = some b → (F.own va' .acc) b = some .pr ∨ (F.own va' .acc) b = none ∧ w.heap.size ≤ b := fun b e => by
    have e2 : (F.own va' .acc) b = F b := if_neg fun e3 => d1 b e3 e
    rw [e2]; exact hr2 b e
  have l2 := Fp.own_le (w := w) hr3
  have ho3 : ∀ b, vo'.ownBlock = some b → ((F.own va' .acc).own vr' .pr) b = some .po ∨ ((F.own va' .acc).own vr' .pr) b = none ∧ w.heap.size ≤ b := fun b e => by
    have e2 : ((F.own va' .acc).own vr' .pr) b = F b := by
      show (if _ then _ else (if _ then _ else _)) = _
      rw [if_neg fun e3 => d3 b e3 e, if_neg fun e3 => d2 b e3 e]
    rw [e2]; exact ho2 b e
  have l3 := Fp.own_le (w := w) ho3
  have hle := Fp.le_trans l1 (Fp.le_trans l2 l3 (Nat.le_refl _)) (Nat.le_refl _)
  have q : ∀ {b r}, F b = some r → r ≠ .obj → ¬ Q r → ¬ (b = g ∨ ∃ r, F b = some r ∧ Q r) := by
    rintro b r e n1 n2 (rfl | ⟨r', e2, hq⟩)
    · rw [h.at_] at e; injection e with e; exact n1 e.symm
    · rw [e2] at e; injection e with e; exact n2 (e ▸ hq)
  have A : w'.ownsRow 0 80 5 va' c'.acc.length (c'.acc.flatMap Hd.c) := by
    rcases ha with ⟨n, e1, e2⟩ | ha
    · rw [e1, e2]; exact (h.acc.chgS hC (fun b e => q e (by simp) n)).own
    · exact ha
  have R : w'.ownsRow 0 80 5 vr' c'.prom.length (c'.prom.flatMap Hd.c) := by
    rcases hr with ⟨n, e1, e2⟩ | hr
    · rw [e1, e2]; exact (h.prom.chgS hC (fun b e => q e (by simp) n)).own
    · exact hr
  have O : w'.ownsRow 0 3 1 vo' c'.prop.length (c'.prop.map i64) := by
    rcases ho with ⟨n, e1, e2⟩ | ho
    · rw [e1, e2]; exact (h.prop.chgS hC (fun b e => q e (by simp) n)).own
    · exact ho
  refine ⟨_, hle, ⟨vp, va', vr', vo', Fp.own_below (Fp.own_below (Fp.own_below (Fp.below_le h.below hC.size) (fun b e => (A.lt b e).2)) (fun b e => (R.lt b e).2)) (fun b e => (O.lt b e).2), hle.sub _ _ h.at_, hg, ?_, ⟨A, fun b e => l3.sub _ _ (l2.sub _ _ (Fp.own_at e))⟩, ⟨R, fun b e => l3.sub _ _ (Fp.own_at e)⟩, ⟨O, fun b e => Fp.own_at e⟩⟩, hC.mono fun b e => ?_⟩
  · rw [hp]; exact (h.parts.chgS hC (fun b e => q e (by simp) q0)).sub hle.sub
  · rcases e with rfl | ⟨r, e, _⟩
    · unfold Fp.on; rw [h.at_]; simp
    · unfold Fp.on; rw [e]; simp
end
theorem dis_own {ρ : Type} {F : Fp ρ} {r1 r2 : ρ} {w : World} {v1 v2 : Value} (h1 : ∀ b, v1.ownBlock = some b → F b = some r1 ∨ F b = none ∧ w.heap.size ≤ b) (h2 : ∀ b, v2.ownBlock = some b → F b = some r2 ∨ F b = none ∧ w.heap.size ≤ b) (hne : r1 ≠ r2)
    (hn : (∀ b, v1.ownBlock = some b → F b = some r1) ∨ (∀ b, v2.ownBlock = some b → F b = some r2) ∨ Apart v1 v2) : ∀ b, v1.ownBlock = some b → v2.ownBlock ≠ some b := fun b e1 e2 => by
  rcases hn with h | h | h
  · rcases h2 b e2 with e | e
    · exact Fp.ne (h b e1) e hne rfl
    · have := h b e1; rw [e.1] at this; cases this
  · rcases h1 b e1 with e | e
    · exact Fp.ne e (h b e2) hne rfl
    · have := h b e2; rw [e.1] at this; cases this
  · exact h b e1 e2
/-! ### What the document's coordinator does -/
def RC.cnt (c : RC) (p b v : Int) (n : Nat) : Nat := ((List.range n).filter fun (i : Nat) => decide ((⟨p, (i : Int) + 1, b, 0, v⟩ : Hd) ∈ c.acc)).length
def RC.has (c : RC) (p v : Int) (h : Hd) : Bool := decide (c.nac < 2 * (c.cnt p h.Ballot v c.nac.toNat : Int))
def RC.chosen (c : RC) (p v : Int) : Bool := c.acc.any (c.has p v)
abbrev RC.all (c : RC) (m : Msg) : List Msg := allM c.me c.txn c.bal c.nac m
def RC.started (c : RC) (b : Int) : RC := { c with st := true, bal := b, prom := [], prop := [] }
def RC.startM (c : RC) (b : Int) (l : List Int) : List Msg := l.flatMap fun p => if c.chosen p 1 = false ∧ c.chosen p 2 = false then (c.started b).all (asks p) else []
def RC.ofP (c : RC) (p : Int) : List Hd := c.prom.filter fun h => decide (h.Part = p)
def best1 (s : Hd × Bool) (h : Hd) : Hd × Bool := if (h.Value = 1 ∨ h.Value = 2) ∧ (s.2 = false ∨ s.1.Index < h.Index) then (h, true) else s
def bestV (l : List Hd) : Int := (l.foldl best1 (⟨0, 0, 0, 0, 2⟩, false)).1.Value
def hdP (m : Msg) : Hd := ⟨m.Part, m.From, 0, m.Index, m.Value⟩
def hdA (m : Msg) : Hd := ⟨m.Part, m.From, m.Ballot, 0, m.Value⟩
def RC.promise (c : RC) (m : Msg) : RC × List Msg :=
  if c.st = false ∨ m.Ballot ≠ c.bal ∨ m.Part ∈ c.prop then (c, []) else
  if (c.ofP m.Part).any (fun h => h.From == m.From) then (c, []) else
    let c1 := { c with prom := c.prom ++ [hdP m] }
    let of := c.ofP m.Part ++ [hdP m]
    if 2 * (of.length : Int) ≤ c.nac then (c1, []) else ({ c1 with prop := c.prop ++ [m.Part] }, c.all (says m.Part (bestV of)))
def RC.accept (c : RC) (m : Msg) : RC := if m.Kind = 11 ∧ (m.Value = 1 ∨ m.Value = 2) then { c with acc := c.acc ++ [hdA m] } else c
def RC.step (c : RC) (m : Msg) : RC × List Msg :=
  if m.Txn ≠ c.txn ∨ m.Part ∉ c.parts ∨ m.From < 1 ∨ c.nac < m.From ∨ (m.Kind ≠ 9 ∧ m.Kind ≠ 11) then (c, []) else
  if m.Ok = false then ({ c with top := max c.top m.Index }, []) else
  if m.Kind = 9 then c.promise m else (c.accept m, [])
def RC.valueFrom (c : RC) : Bool → List Int → Int
  | b, [] => if b then 1 else 0
  | b, p :: l => if c.chosen p 2 then 2 else c.valueFrom (b && c.chosen p 1) l
def RC.value (c : RC) : Int := c.valueFrom true c.parts
/-- the lists are not long -/
structure RC.ok (c : RC) : Prop where
  nac : 1 ≤ c.nac ∧ c.nac ≤ 7
  parts : c.parts.length ≤ 4
  acc : c.acc.length ≤ 1000
  prom : c.prom.length ≤ 1000
  prop : c.prop.length ≤ 1000
end Go.Proofs.Ytjmddkaokmdkbaa
