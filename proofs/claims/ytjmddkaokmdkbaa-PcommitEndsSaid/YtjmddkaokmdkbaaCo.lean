/- Coordinators, as plain data, and in memory. -/
import Derived.Test.YtjmddkaokmdkbaaFp
import Derived.Test.YtjmddkaokmdkbaaMsg
namespace Go.Proofs.Ytjmddkaokmdkbaa
open Go Go.RowKit Kf

/-- what a block is of a coordinator -/
inductive Rl where
  | obj | parts | acc | ch | pr | po
  | inn (k : KeyN 3)
  | prow (p : Int)
/-- a promise: from, index, value -/
abbrev P3 := Int × Int × Int
abbrev P3.c (p : P3) : List Value := [i64 p.1, i64 p.2.1, i64 p.2.2]
theorem P3.c_len (p : P3) : p.c.length = 3 := rfl
theorem P3.c_one (p : P3) : ∀ u ∈ p.c, u.oneCell' = true := by simp [P3.c, Go.Value.oneCell']
abbrev k3 (p n v : Int) : KeyN 3 := ⟨[p, n, v], rfl⟩
theorem k3_inj {p n v p' n' v' : Int} : k3 p n v = k3 p' n' v' ↔ p = p' ∧ n = n' ∧ v = v' := by simp [k3]

/-- the code's coordinator -/
structure CC where
  me : Int
  txn : Int
  nac : Int
  parts : List Int
  A : KeyN 3 → List Int
  ch : Int → Int
  st : Bool
  num : Int
  pr : Int → List P3
  po : Int → Int
  top : Int
def CC.new (me txn nac : Int) (parts : List Int) : CC := ⟨me, txn, nac, parts, fun _ => [], fun _ => 0, false, 0, fun _ => [], fun _ => 0, 0⟩
abbrev CC.cells (c : CC) (vp : Value) (ga gc : Nat) (vr vo : Value) : List Value := [i64 c.me, i64 c.txn, vp, i64 c.nac, mp_ ga, mp_ gc, .bool c.st, i64 c.num, vr, vo, i64 c.top]
/-- a map of numbers; what it has not is 0 -/
def IntB (w : World) (g : Nat) (f : Int → Int) : Prop := ∃ L : List (Int × Value), MapB i64 w g L ∧ ∀ k, (getM L k).getD (i64 0) = i64 (f k)
def AccB (w : World) (F : Fp Rl) (g : Nat) (A : KeyN 3 → List Int) : Prop :=
  ∃ (L : List (KeyN 3 × Value)) (G : KeyN 3 → Option Nat), MapB encN w g L ∧ (∀ k, getM L k = (G k).map mp_) ∧ (∀ k, G k = none → A k = []) ∧
    ∀ k gi, G k = some gi → F gi = some (.inn k) ∧ MapB i64 w gi ((A k).map fun f => (f, i64 1))
def PrB (w : World) (F : Fp Rl) (g : Nat) (pr : Int → List P3) : Prop :=
  ∃ (L : List (Int × Value)) (V : Int → Value), MapB i64 w g L ∧ (∀ k, (getM L k).getD nilS = V k) ∧ ∀ k, RowF w F (.prow k) 94 3 (V k) (pr k).length ((pr k).flatMap P3.c)
/-- what a coordinator that has started holds -/
def RunB (w : World) (F : Fp Rl) (c : CC) (vr vo : Value) : Prop :=
  c.st = true → ∃ gr go, vr = mp_ gr ∧ vo = mp_ go ∧ F gr = some .pr ∧ F go = some .po ∧ PrB w F gr c.pr ∧ IntB w go c.po
structure CIn (w : World) (F : Fp Rl) (g : Nat) (c : CC) (vp : Value) (ga gc : Nat) (vr vo : Value) : Prop where
  below : F.below w
  at_ : F g = some .obj
  obj : Blk w g 75 (c.cells vp ga gc vr vo)
  fa : F ga = some .acc
  fc : F gc = some .ch
  parts : RowF w F .parts 3 1 vp c.parts.length (c.parts.map i64)
  acc : AccB w F ga c.A
  ch : IntB w gc c.ch
  run : RunB w F c vr vo
def CAt (w : World) (F : Fp Rl) (g : Nat) (c : CC) : Prop := ∃ vp ga gc vr vo, CIn w F g c vp ga gc vr vo
section
variable {w w' : World} {F F' : Fp Rl} {g ga gc : Nat} {c : CC} {A : KeyN 3 → List Int} {f : Int → Int} {pr : Int → List P3} {S : Nat → Prop}
theorem IntB.chgS (h : IntB w g f) (k : ChgS S w w') (hs : ¬ S g) : IntB w' g f := by obtain ⟨L, h1, h2⟩ := h; exact ⟨L, h1.chgS k hs, h2⟩
theorem AccB.chgS (h : AccB w F g A) (k : ChgS S w w') (hs : ¬ S g) (hi : ∀ b q, F b = some (.inn q) → ¬ S b) : AccB w' F g A := by
  obtain ⟨L, G, h1, h2, h3, h4⟩ := h
  exact ⟨L, G, h1.chgS k hs, h2, h3, fun q gi e => ⟨(h4 q gi e).1, (h4 q gi e).2.chgS k (hi gi q (h4 q gi e).1)⟩⟩
theorem AccB.sub (h : AccB w F g A) (k : F.sub F') : AccB w F' g A := by
  obtain ⟨L, G, h1, h2, h3, h4⟩ := h
  exact ⟨L, G, h1, h2, h3, fun q gi e => ⟨k _ _ (h4 q gi e).1, (h4 q gi e).2⟩⟩
theorem PrB.chgS (h : PrB w F g pr) (k : ChgS S w w') (hs : ¬ S g) (hi : ∀ b q, F b = some (.prow q) → ¬ S b) : PrB w' F g pr := by
  obtain ⟨L, V, h1, h2, h3⟩ := h
  exact ⟨L, V, h1.chgS k hs, h2, fun q => (h3 q).chgS k (fun b hb => hi b q hb)⟩
theorem PrB.sub (h : PrB w F g pr) (k : F.sub F') : PrB w F' g pr := by
  obtain ⟨L, V, h1, h2, h3⟩ := h
  exact ⟨L, V, h1, h2, fun q => (h3 q).sub k⟩
theorem RunB.chgS {vr vo : Value} (h : RunB w F c vr vo) (k : ChgS S w w') (h1 : ∀ b, F b = some .pr → ¬ S b) (h2 : ∀ b, F b = some .po → ¬ S b) (h3 : ∀ b q, F b = some (.prow q) → ¬ S b) : RunB w' F c vr vo := fun e => by
  obtain ⟨gr, go, e1, e2, f1, f2, p1, p2⟩ := h e
  exact ⟨gr, go, e1, e2, f1, f2, p1.chgS k (h1 _ f1) h3, p2.chgS k (h2 _ f2)⟩
theorem RunB.sub {vr vo : Value} (h : RunB w F c vr vo) (k : F.sub F') : RunB w F' c vr vo := fun e => by
  obtain ⟨gr, go, e1, e2, f1, f2, p1, p2⟩ := h e
  exact ⟨gr, go, e1, e2, k _ _ f1, k _ _ f2, p1.sub k, p2⟩
theorem CIn.chgS {vp vr vo : Value} (h : CIn w F g c vp ga gc vr vo) (k : ChgS S w w') (hs : ∀ b, F b ≠ none → ¬ S b) : CIn w' F g c vp ga gc vr vo := by
  have q : ∀ {b r}, F b = some r → ¬ S b := fun {b r} e => hs b (by rw [e]; simp)
  exact ⟨Fp.below_le h.below k.size, h.at_, h.obj.chgS k (q h.at_), h.fa, h.fc, h.parts.chgS k (fun b e => q e), h.acc.chgS k (q h.fa) (fun b _ e => q e), h.ch.chgS k (q h.fc), h.run.chgS k (fun b e => q e) (fun b e => q e) (fun b _ e => q e)⟩
theorem CIn.dist {vp vr vo : Value} (h : CIn w F g c vp ga gc vr vo) : g ≠ ga ∧ g ≠ gc ∧ ga ≠ gc := ⟨Fp.ne h.at_ h.fa (by simp), Fp.ne h.at_ h.fc (by simp), Fp.ne h.fa h.fc (by simp)⟩
theorem CIn.lts {vp vr vo : Value} (h : CIn w F g c vp ga gc vr vo) : g < w.heap.size ∧ ga < w.heap.size ∧ gc < w.heap.size := ⟨Fp.lt h.below h.at_, Fp.lt h.below h.fa, Fp.lt h.below h.fc⟩
theorem CAt.chgS (h : CAt w F g c) (k : ChgS S w w') (hs : ∀ b, F b ≠ none → ¬ S b) : CAt w' F g c := by
  obtain ⟨vp, ga, gc, vr, vo, h⟩ := h
  exact ⟨vp, ga, gc, vr, vo, h.chgS k hs⟩
theorem CAt.below (h : CAt w F g c) : F.below w := by obtain ⟨vp, ga, gc, vr, vo, h⟩ := h; exact h.below
theorem CAt.ext (h : CAt w F g c) (k : Ext w w') : CAt w' F g c := h.chgS (ChgS.of_ext (S := fun _ => False) k) (fun _ _ e => e)
/-- what a call leaves of a coordinator, and changes -/
def CPost (w w' : World) (F : Fp Rl) (g : Nat) (c : CC) (r : Value) : Prop := ∃ F' : Fp Rl, F.le w F' ∧ CAt w' F' g c ∧ ChgS F.on w w' ∧ ∀ b, r.ownBlock = some b → F' b = none
theorem CPost.same (h : CAt w F g c) (k : Ext w w') : CPost w w' F g c nilS := ⟨F, F.le_refl w, h.ext k, ChgS.of_ext k, fun b e => by cases e⟩
theorem CPost.pre {w1 : World} {r : Value} (x : Ext w w1) (k : CPost w1 w' F g c r) : CPost w w' F g c r := by
  obtain ⟨F', h1, h2, h3, h4⟩ := k
  have hz := x.size
  exact ⟨F', ⟨h1.sub, fun b e => by rcases h1.new b e with h | h; exact .inl h; exact .inr (by omega)⟩, h2, ChgS.trans (ChgS.of_ext x) h3 (fun _ h => .inl h), h4⟩
end
/-! ### What the code does -/
def updK (A : KeyN 3 → List Int) (k : KeyN 3) (l : List Int) : KeyN 3 → List Int := fun q => if q = k then l else A q
def updI {α : Type} (f : Int → α) (k : Int) (x : α) : Int → α := fun q => if q = k then x else f q
theorem updI_at {α : Type} {f : Int → α} {k : Int} {x : α} : updI f k x k = x := if_pos rfl
theorem updI_ne {α : Type} {f : Int → α} {k q : Int} {x : α} (h : q ≠ k) : updI f k x q = f q := if_neg h
def addF (l : List Int) (f : Int) : List Int := if f ∈ l then l else l ++ [f]
theorem put_addF (l : List Int) (f : Int) : putM (l.map fun x => (x, i64 1)) f (i64 1) = (addF l f).map fun x => (x, i64 1) := by
  unfold addF
  induction l with
  | nil => rfl
  | cons a l ih =>
    rw [List.map_cons, putM]
    by_cases h : a = f
    · subst h; simp
    · simp only [if_neg h]
      rw [ih]
      by_cases h2 : f ∈ l
      · simp [h2]
      · have : ¬ f = a := fun e => h e.symm
        simp [h2, this]
def CC.accept (c : CC) (m : Msg) : CC :=
  if m.Value ≠ 1 ∧ m.Value ≠ 2 then c else
    let l := addF (c.A (k3 m.Part m.Ballot m.Value)) m.From
    { c with A := updK c.A (k3 m.Part m.Ballot m.Value) l, ch := if (c.nac : Int) < 2 * (l.length : Int) then updI c.ch m.Part (max (c.ch m.Part) m.Value) else c.ch }
/-- what is proposed: value, and at which index it was accepted -/
def pick1 (s : Int × Int) (p : P3) : Int × Int := if (p.2.2 = 1 ∨ p.2.2 = 2) ∧ (s.1 = 0 ∨ s.2 < p.2.1) then (p.2.2, p.2.1) else s
def pickV (l : List P3) : Int := let v := (l.foldl pick1 (0, 0)).1; if v = 0 then 2 else v
def allM (me txn num nac : Int) (m : Msg) : List Msg := (List.range nac.toNat).map fun (i : Nat) => { m with From := me, To := (i : Int) + 1, Txn := txn, Ballot := num }
abbrev CC.all (c : CC) (m : Msg) : List Msg := allM c.me c.txn c.num c.nac m
def asks (p : Int) : Msg := { Msg.zero with Kind := 8, Part := p }
def says (p v : Int) : Msg := { Msg.zero with Kind := 10, Part := p, Value := v }
def CC.started (c : CC) (b : Int) : CC := { c with st := true, num := b, pr := fun _ => [], po := fun _ => 0 }
def CC.startM (c : CC) (b : Int) : List Msg := c.parts.flatMap fun p => if c.ch p = 0 then (c.started b).all (asks p) else []
def CC.promise (c : CC) (m : Msg) : CC × List Msg :=
  if c.st = false ∨ m.Ballot ≠ c.num ∨ 0 < c.po m.Part then (c, []) else
  if (c.pr m.Part).any (fun p => p.1 == m.From) then (c, []) else
    let l := c.pr m.Part ++ [(m.From, m.Index, m.Value)]
    let c1 := { c with pr := updI c.pr m.Part l }
    if 2 * (l.length : Int) ≤ c.nac then (c1, []) else
      ({ c1 with po := updI c.po m.Part 1 }, c.all (says m.Part (pickV l)))
def CC.step (c : CC) (m : Msg) : CC × List Msg :=
  if m.Txn ≠ c.txn ∨ m.From < 1 ∨ c.nac < m.From ∨ m.Part ∉ c.parts then (c, []) else
  if m.Kind ≠ 11 ∧ m.Kind ≠ 9 then (c, []) else
  if m.Ok = false then ({ c with top := max c.top m.Index }, []) else
  if m.Kind = 11 then (c.accept m, []) else c.promise m
def valueFrom (ch : Int → Int) : Int → List Int → Int
  | v, [] => v
  | v, p :: l => if ch p = 2 then 2 else valueFrom ch (if ch p = 0 then 0 else v) l
def CC.value (c : CC) : Int := valueFrom c.ch 1 c.parts
/-- what is always so: the lists are short -/
structure CC.ok (c : CC) : Prop where
  nac : 1 ≤ c.nac ∧ c.nac ≤ 7
  A : ∀ k, (c.A k).Nodup ∧ ∀ f ∈ c.A k, 1 ≤ f ∧ f ≤ c.nac
  pr : ∀ p, ((c.pr p).map Prod.fst).Nodup ∧ ∀ x ∈ c.pr p, 1 ≤ x.1 ∧ x.1 ≤ c.nac
  parts : c.parts.length ≤ 4
theorem nodup_sub {α : Type} [DecidableEq α] : ∀ {l m : List α}, l.Nodup → (∀ x ∈ l, x ∈ m) → l.length ≤ m.length
  | [], _, _, _ => Nat.zero_le _
  | a :: l, m, h, hs => by
    rw [List.nodup_cons] at h
    have ha := hs a (by simp)
    have := nodup_sub (m := m.erase a) h.2 (fun x hx => (List.mem_erase_of_ne (fun (e : x = a) => h.1 (e ▸ hx))).2 (hs x (List.mem_cons_of_mem _ hx)))
    rw [List.length_erase_of_mem ha] at this
    have := List.length_pos_of_mem ha
    simp; omega
theorem nodup_le {l : List Int} {n : Int} (h : l.Nodup) (h2 : ∀ f ∈ l, 1 ≤ f ∧ f ≤ n) : (l.length : Int) ≤ max n 0 := by
  have hs : (l.map Int.toNat).Nodup := by
    rw [List.Nodup, List.pairwise_map]
    refine h.imp_of_mem ?_
    intro a b ha hb hne e
    have := h2 a ha
    have := h2 b hb
    omega
  have h3 : ∀ x ∈ l.map Int.toNat, x ∈ (List.range n.toNat).map (· + 1) := by
    intro x hx
    obtain ⟨f, hf, rfl⟩ := List.mem_map.1 hx
    have := h2 f hf
    exact List.mem_map.2 ⟨f.toNat - 1, by simp; omega, by omega⟩
  have := nodup_sub hs h3
  simp at this
  omega
theorem CC.ok.lenA {c : CC} (h : c.ok) (k : KeyN 3) : ((c.A k).length : Int) ≤ 7 := by
  have := nodup_le (h.A k).1 (h.A k).2; have := h.nac; omega
theorem CC.ok.lenP {c : CC} (h : c.ok) (p : Int) : ((c.pr p).length : Int) ≤ 7 := by
  have h1 := nodup_le (h.pr p).1 (n := c.nac) (fun f hf => by obtain ⟨x, hx, rfl⟩ := List.mem_map.1 hf; exact (h.pr p).2 x hx)
  have := h.nac; rw [List.length_map] at h1; omega
/-! ### What the walks leave -/
section
variable {w w' : World} {F : Fp Rl} {g ga gc : Nat} {c : CC} {vp vr vo : Value}
/-- a map that has what it had, and a number more -/
theorem IntB.put {L : List (Int × Value)} {f : Int → Int} {k x : Int} (h : MapB i64 w' g (putM L k (i64 x))) (hL : ∀ k, (getM L k).getD (i64 0) = i64 (f k)) : IntB w' g (updI f k x) :=
  ⟨_, h, fun q => by
    rw [getM_put]
    unfold updI
    by_cases e : q = k
    · subst e; simp
    · rw [if_neg (fun e' => e e'.symm), if_neg e]; exact hL q⟩
theorem acc_fin {k : KeyN 3} {gi : Nat} {l : List Int} {f : Int → Int} {L L' : List (KeyN 3 × Value)} {G : KeyN 3 → Option Nat}
    (h : CIn w F g c vp ga gc vr vo) (hG : ∀ k, getM L k = (G k).map mp_) (hG0 : ∀ k, G k = none → c.A k = []) (hGi : ∀ k gi, G k = some gi → F gi = some (.inn k) ∧ MapB i64 w gi ((c.A k).map fun f => (f, i64 1)))
    (k1 : MapB encN w' ga L') (k2 : ∀ q, getM L' q = if k = q then some (mp_ gi) else getM L q) (k3 : G k = some gi ∨ G k = none ∧ w.heap.size ≤ gi)
    (k4 : MapB i64 w' gi (l.map fun x => (x, i64 1))) (k5 : IntB w' gc f) (hC : ChgS (fun b => b = ga ∨ b = gc ∨ F b = some (.inn k)) w w') :
    CPost w w' F g { c with A := updK c.A k l, ch := f } nilS := by
  have hgi : F gi = some (.inn k) ∨ F gi = none ∧ w.heap.size ≤ gi := by
    rcases k3 with e | ⟨_, e⟩
    · exact .inl (hGi k gi e).1
    · exact .inr ⟨Fp.fresh h.below e, e⟩
  have hle := Fp.put_le (w := w) hgi
  have hsub := hle.sub
  have q : ∀ {b r}, F b = some r → r ≠ .acc → r ≠ .ch → r ≠ .inn k → ¬ (b = ga ∨ b = gc ∨ F b = some (.inn k)) := by
    rintro b r e n1 n2 n3 (rfl | rfl | e2)
    · rw [h.fa] at e; injection e with e; exact n1 e.symm
    · rw [h.fc] at e; injection e with e; exact n2 e.symm
    · rw [e2] at e; injection e with e; exact n3 e.symm
  refine ⟨F.put gi (.inn k), hle, ⟨vp, ga, gc, vr, vo, Fp.put_below (Fp.below_le h.below hC.size) k4.lt, hsub _ _ h.at_, h.obj.chgS hC (q h.at_ (by simp) (by simp) (by simp)), hsub _ _ h.fa, hsub _ _ h.fc, (h.parts.chgS hC (fun b e => q e (by simp) (by simp) (by simp))).sub hsub,
    ⟨L', fun r => if k = r then some gi else G r, k1, fun r => ?_, fun r hr => ?_, fun r gj hr => ?_⟩, k5, fun e => ?_⟩, hC.mono fun b e => ?_, fun b e => by cases e⟩
  · rw [k2 r]; by_cases e : k = r
    · simp [e]
    · simp [e, hG]
  · replace hr : (if k = r then some gi else G r) = none := hr
    split at hr
    · cases hr
    · rename_i hne
      show updK c.A k l r = []
      unfold updK
      rw [if_neg (fun e => hne e.symm)]; exact hG0 r hr
  · replace hr : (if k = r then some gi else G r) = some gj := hr
    split at hr
    · rename_i e; subst e
      injection hr with hr; subst hr
      refine ⟨Fp.put_at, ?_⟩
      show MapB i64 w' gi ((updK c.A k l k).map _)
      unfold updK; rw [if_pos rfl]; exact k4
    · rename_i hne
      obtain ⟨e1, e2⟩ := hGi r gj hr
      refine ⟨hsub _ _ e1, ?_⟩
      show MapB i64 w' gj ((updK c.A k l r).map _)
      unfold updK; rw [if_neg (fun e => hne e.symm)]
      exact e2.chgS hC (q e1 (by simp) (by simp) (by simpa using fun e => hne e.symm))
  · obtain ⟨gr, go, e1, e2, f1, f2, p1, p2⟩ := h.run e
    exact ⟨gr, go, e1, e2, hsub _ _ f1, hsub _ _ f2, (p1.chgS hC (q f1 (by simp) (by simp) (by simp)) (fun b _ e => q e (by simp) (by simp) (by simp))).sub hsub, p2.chgS hC (q f2 (by simp) (by simp) (by simp))⟩
  · rcases e with rfl | rfl | e
    · unfold Fp.on; rw [h.fa]; simp
    · unfold Fp.on; rw [h.fc]; simp
    · unfold Fp.on; rw [e]; simp
/-- a coordinator that is started -/
theorem start_fin {gr go : Nat} {b : Int} {r : Value} (h : CIn w F g c vp ga gc vr vo) (hg : Blk w' g 75 ((c.started b).cells vp ga gc (mp_ gr) (mp_ go))) (h1 : MapB (i64) w' gr []) (h2 : MapB i64 w' go [])
    (n1 : w.heap.size ≤ gr) (n2 : w.heap.size ≤ go) (hne : gr ≠ go) (hC : ChgS (fun b => b = g) w w') (hr : ∀ b, r.ownBlock = some b → w.heap.size ≤ b ∧ b ≠ gr ∧ b ≠ go) : CPost w w' F g (c.started b) r := by
  have l1 := Fp.put_le (F := F) (w := w) (g := gr) (r := .pr) (.inr ⟨Fp.fresh h.below n1, n1⟩)
  have e2 : (F.put gr .pr) go = none := by rw [Fp.put_ne hne.symm]; exact Fp.fresh h.below n2
  have l2 := Fp.put_le (F := F.put gr .pr) (w := w) (g := go) (r := .po) (.inr ⟨e2, n2⟩)
  have hle := Fp.le_trans l1 l2 (Nat.le_refl _)
  have hsub := hle.sub
  have q : ∀ {b r}, F b = some r → r ≠ .obj → ¬ b = g := by
    rintro b r e n rfl
    rw [h.at_] at e; injection e with e; exact n e.symm
  refine ⟨_, hle, ⟨vp, ga, gc, mp_ gr, mp_ go, Fp.put_below (Fp.put_below (Fp.below_le h.below hC.size) h1.lt) h2.lt, hsub _ _ h.at_, hg, hsub _ _ h.fa, hsub _ _ h.fc, (h.parts.chgS hC (fun b e => q e (by simp))).sub hsub,
    (h.acc.chgS hC (q h.fa (by simp)) (fun b _ e => q e (by simp))).sub hsub, h.ch.chgS hC (q h.fc (by simp)), fun _ => ⟨gr, go, rfl, rfl, l2.sub _ _ Fp.put_at, Fp.put_at, ?_, ?_⟩⟩, hC.mono fun b e => ?_, fun b e => ?_⟩
  · exact ⟨[], fun _ => nilS, h1, fun k => rfl, fun k => RowF.nil _ _ _ _ _⟩
  · exact ⟨[], h2, fun k => rfl⟩
  · subst e; unfold Fp.on; rw [h.at_]; simp
  · obtain ⟨q1, q2, q3⟩ := hr b e
    rw [Fp.put_ne q3, Fp.put_ne q2]; exact Fp.fresh h.below q1
/-- a coordinator with a promise more, and perhaps a part more that it has proposed of -/
theorem prom_fin {gr go : Nat} {p : Int} {v r : Value} {l : List P3} {f : Int → Int} {L : List (Int × Value)} {V : Int → Value}
    (h : CIn w F g c vp ga gc (mp_ gr) (mp_ go)) (fr : F gr = some .pr) (fo : F go = some .po) (hL : ∀ k, (getM L k).getD nilS = V k) (hV : ∀ k, RowF w F (.prow k) 94 3 (V k) (c.pr k).length ((c.pr k).flatMap P3.c))
    (k1 : MapB i64 w' gr (putM L p v)) (k2 : w'.ownsRow 0 94 3 v l.length (l.flatMap P3.c)) (k3 : ∀ b, v.ownBlock = some b → F b = some (.prow p) ∨ w.heap.size ≤ b) (k4 : IntB w' go f)
    (hC : ChgS (fun b => b = gr ∨ b = go ∨ F b = some (.prow p)) w w') (hr : ∀ b, r.ownBlock = some b → w.heap.size ≤ b ∧ v.ownBlock ≠ some b) : CPost w w' F g { c with pr := updI c.pr p l, po := f } r := by
  have hv : ∀ b, v.ownBlock = some b → F b = some (.prow p) ∨ F b = none ∧ w.heap.size ≤ b := fun b e => by
    rcases k3 b e with e | e
    · exact .inl e
    · exact .inr ⟨Fp.fresh h.below e, e⟩
  have hle := Fp.own_le (w := w) hv
  have hsub := hle.sub
  have q : ∀ {b r}, F b = some r → r ≠ .pr → r ≠ .po → r ≠ .prow p → ¬ (b = gr ∨ b = go ∨ F b = some (.prow p)) := by
    rintro b r e n1 n2 n3 (rfl | rfl | e2)
    · rw [fr] at e; injection e with e; exact n1 e.symm
    · rw [fo] at e; injection e with e; exact n2 e.symm
    · rw [e2] at e; injection e with e; exact n3 e.symm
  refine ⟨_, hle, ⟨vp, ga, gc, mp_ gr, mp_ go, Fp.own_below (Fp.below_le h.below hC.size) (fun b e => (k2.lt b e).2), hsub _ _ h.at_, h.obj.chgS hC (q h.at_ (by simp) (by simp) (by simp)), hsub _ _ h.fa, hsub _ _ h.fc, (h.parts.chgS hC (fun b e => q e (by simp) (by simp) (by simp))).sub hsub,
    (h.acc.chgS hC (q h.fa (by simp) (by simp) (by simp)) (fun b _ e => q e (by simp) (by simp) (by simp))).sub hsub, h.ch.chgS hC (q h.fc (by simp) (by simp) (by simp)), fun _ => ⟨gr, go, rfl, rfl, hsub _ _ fr, hsub _ _ fo, ⟨_, fun k => if p = k then v else V k, k1, fun k => ?_, fun k => ?_⟩, k4⟩⟩, hC.mono fun b e => ?_, fun b e => ?_⟩
  · show _ = if p = k then v else V k
    rw [getM_put]; split
    · rfl
    · exact hL k
  · show RowF w' _ _ 94 3 (if p = k then v else V k) (updI c.pr p l k).length ((updI c.pr p l k).flatMap P3.c)
    unfold updI
    by_cases e : p = k
    · subst e
      rw [if_pos rfl, if_pos rfl]
      exact RowF.mk' k2
    · rw [if_neg e, if_neg (fun e' => e e'.symm)]
      exact ((hV k).chgS hC (fun b e1 => q e1 (by simp) (by simp) (by simpa using fun e' => e e'.symm))).sub hsub
  · rcases e with rfl | rfl | e
    · unfold Fp.on; rw [fr]; simp
    · unfold Fp.on; rw [fo]; simp
    · unfold Fp.on; rw [e]; simp
  · obtain ⟨q1, q2⟩ := hr b e
    show (if _ then _ else _) = _
    rw [if_neg q2]; exact Fp.fresh h.below q1
theorem top_fin {x : Int} (h : CIn w F g c vp ga gc vr vo) (hg : Blk w' g 75 (CC.cells { c with top := x } vp ga gc vr vo)) (hC : ChgS (fun b => b = g) w w') : CPost w w' F g { c with top := x } nilS := by
  have q : ∀ {b r}, F b = some r → r ≠ .obj → ¬ b = g := by
    rintro b r e n rfl
    rw [h.at_] at e; injection e with e; exact n e.symm
  refine ⟨F, F.le_refl w, ⟨vp, ga, gc, vr, vo, Fp.below_le h.below hC.size, h.at_, hg, h.fa, h.fc, h.parts.chgS hC (fun b e => q e (by simp)), h.acc.chgS hC (q h.fa (by simp)) (fun b _ e => q e (by simp)), h.ch.chgS hC (q h.fc (by simp)), h.run.chgS hC (fun b e => q e (by simp)) (fun b e => q e (by simp)) (fun b _ e => q e (by simp))⟩, hC.mono fun b e => ?_, fun b e => by cases e⟩
  subst e; unfold Fp.on; rw [h.at_]; simp
end
end Go.Proofs.Ytjmddkaokmdkbaa
