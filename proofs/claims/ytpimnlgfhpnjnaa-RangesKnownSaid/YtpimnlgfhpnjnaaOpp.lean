/- Operations, as plain mathematics. -/
import Derived.Test.YtpimnlgfhpnjnaaWrs
import Derived.Test.YtpimnlgfhpnjnaaPk
namespace Go.Proofs.Ytpimnlgfhpnjnaa.Op
open Go Go.RowKit Kf
set_option maxRecDepth 20000

/-- an operation: its 13 numbers in the order of its cells, its lists, its bytes -/
structure Od where
  n : List Int
  P : List Int
  R : List Int
  W : List Wr
  D : List UInt8
/-- the cells of an operation -/
abbrev oc (n : List Int) (vP vR vW vD : Value) : List Value :=
  [i64 (n.getD 0 0), i64 (n.getD 1 0), i64 (n.getD 2 0), i64 (n.getD 3 0), i64 (n.getD 4 0), i64 (n.getD 5 0), i64 (n.getD 6 0), i64 (n.getD 7 0), i64 (n.getD 8 0), i64 (n.getD 9 0), i64 (n.getD 10 0), i64 (n.getD 11 0), i64 (n.getD 12 0), vP, vR, vW, vD]
/-- an operation's lists may be read -/
structure OpAt (w : World) (vP vR vW vD : Value) (o : Od) : Prop where
  len : o.n.length = 13
  inn : ∀ k, -9223372036854775808 ≤ o.n.getD k 0 ∧ o.n.getD k 0 ≤ 9223372036854775807
  P : Ints w vP o.P
  R : Ints w vR o.R
  W : Wrs w vW o.W
  D : Bytes w vD o.D
theorem OpAt.ext {w w' : World} {vP vR vW vD : Value} {o : Od} (h : OpAt w vP vR vW vD o) (g : Ext w w') : OpAt w' vP vR vW vD o :=
  ⟨h.len, h.inn, Row.ext h.P g, Row.ext h.R g, h.W.ext g, Row.ext h.D g⟩
theorem Wrs.one {w : World} {v : Value} {l : List Wr} (h : Wrs w v l) : v.oneCell' = true := by obtain ⟨E, _, h, _⟩ := h; exact Row.one h
theorem OpAt.ones {w : World} {vP vR vW vD : Value} {o : Od} (h : OpAt w vP vR vW vD o) (n : List Int) : ∀ u ∈ oc n vP vR vW vD, u.oneCell' = true := by
  intro u hu
  simp only [oc, List.mem_cons, List.not_mem_nil, or_false] at hu
  rcases hu with rfl | rfl | rfl | rfl | rfl | rfl | rfl | rfl | rfl | rfl | rfl | rfl | rfl | rfl | rfl | rfl | rfl
  all_goals first | rfl | exact Row.one h.P | exact Row.one h.R | exact h.W.one | exact Row.one h.D
theorem oc_set {n : List Int} {vP vR vW vD : Value} {a : Nat} (x : Int) (hn : n.length = 13) (ha : a < 13) : (oc n vP vR vW vD).set a (i64 x) = oc (n.set a x) vP vR vW vD := by
  match n, hn with
  | [n0, n1, n2, n3, n4, n5, n6, n7, n8, n9, n10, n11, n12], _ =>
    match a, ha with
    | 0, _ | 1, _ | 2, _ | 3, _ | 4, _ | 5, _ | 6, _ | 7, _ | 8, _ | 9, _ | 10, _ | 11, _ | 12, _ => rfl
theorem oc_get {n : List Int} {vP vR vW vD : Value} {a : Nat} (hn : n.length = 13) (ha : a < 13) : (oc n vP vR vW vD)[a]? = some (i64 (n.getD a 0)) := by
  match n, hn with
  | [n0, n1, n2, n3, n4, n5, n6, n7, n8, n9, n10, n11, n12], _ =>
    match a, ha with
    | 0, _ | 1, _ | 2, _ | 3, _ | 4, _ | 5, _ | 6, _ | 7, _ | 8, _ | 9, _ | 10, _ | 11, _ | 12, _ => rfl
/-- the cells of the numbers that a kind has, in order -/
def offs (k : Int) : Option (List Nat) :=
  if k = 1 then some [3, 4, 5, 8] else if k = 2 then some [3, 4, 5, 9, 6, 7] else if k = 3 then some [3, 10] else if k = 4 then some [9, 5, 8]
  else if k = 5 ∨ k = 6 then some [5, 6, 7] else if k = 7 ∨ k = 10 then some [5] else if k = 8 then some [] else if k = 9 then some [11, 12, 6, 7] else if k = 11 then some [12, 10] else none
theorem offs_cases {k : Int} {L : List Nat} (h : offs k = some L) : (k = 1 ∧ L = [3, 4, 5, 8]) ∨ (k = 2 ∧ L = [3, 4, 5, 9, 6, 7]) ∨ (k = 3 ∧ L = [3, 10]) ∨ (k = 4 ∧ L = [9, 5, 8]) ∨ (k = 5 ∧ L = [5, 6, 7]) ∨ (k = 6 ∧ L = [5, 6, 7]) ∨ (k = 7 ∧ L = [5]) ∨ (k = 10 ∧ L = [5]) ∨ (k = 8 ∧ L = []) ∨ (k = 9 ∧ L = [11, 12, 6, 7]) ∨ (k = 11 ∧ L = [12, 10]) := by
  unfold offs at h
  repeat' split at h
  all_goals first | cases h; done | (injection h with h; subst h; rename_i h1; first | (subst h1; simp; done) | (rcases h1 with rfl | rfl <;> simp))
theorem offs_in {k : Int} {L : List Nat} (h : offs k = some L) {j : Nat} (hj : j < L.length) : 3 ≤ L[j] ∧ L[j] < 13 := by
  have : L.all (fun a => decide (3 ≤ a ∧ a < 13)) = true := by
    rcases offs_cases h with h | h | h | h | h | h | h | h | h | h | h <;> (obtain ⟨_, rfl⟩ := h; rfl)
  exact of_decide_eq_true (List.all_eq_true.1 this _ (List.getElem_mem hj))
theorem offs_len {k : Int} {L : List Nat} (h : offs k = some L) : L.length ≤ 6 := by
  rcases offs_cases h with h | h | h | h | h | h | h | h | h | h | h <;> (obtain ⟨_, rfl⟩ := h; decide)
theorem offs_isSome (k : Int) : (offs k).isSome = decide (1 ≤ k ∧ k ≤ 11) := by
  unfold offs
  repeat' split
  all_goals (symm; first | exact decide_eq_true (by omega) | exact decide_eq_false (by omega))
/-- places as pointers into a block -/
abbrev pts (g : Nat) (L : List Nat) : List Value := L.map fun a => .pointer (some ⟨g, a, none⟩)
theorem pts_flat (g : Nat) (L : List Nat) : (pts g L).flatMap (fun v => v.cells.toList) = pts g L := by
  induction L with
  | nil => rfl
  | cons a L ih => simp only [pts, List.map_cons, List.flatMap_cons] at ih ⊢; rw [ih]; rfl
theorem pts_get {g : Nat} {L : List Nat} {j : Nat} (h : j < L.length) : (pts g L)[j]? = some (.pointer (some ⟨g, L[j], none⟩)) := by simp [pts, h]

/-- numbers set to nought -/
def zeroed (n : List Int) (L : List Nat) : List Int := L.foldl (fun m a => m.set a 0) n
theorem zeroed_len (L : List Nat) : ∀ n, (zeroed n L).length = n.length := by
  induction L with
  | nil => intro n; rfl
  | cons a L ih => intro n; show (zeroed (n.set a 0) L).length = _; rw [ih]; simp
theorem zeroed_get (L : List Nat) : ∀ (n : List Int) (a : Nat), (zeroed n L).getD a 0 = if a ∈ L then 0 else n.getD a 0 := by
  induction L with
  | nil => intro n a; simp [zeroed]
  | cons b L ih =>
    intro n a
    show (zeroed (n.set b 0) L).getD a 0 = _
    rw [ih]
    by_cases h : a ∈ L
    · rw [if_pos h, if_pos (List.mem_cons_of_mem _ h)]
    · rw [if_neg h]
      by_cases hb : a = b
      · subst hb
        rw [if_pos (List.mem_cons_self ..)]
        simp only [List.getD_eq_getElem?_getD, List.getElem?_set]
        simp
        split <;> rfl
      · rw [if_neg (by simp [h, hb])]
        simp only [List.getD_eq_getElem?_getD, List.getElem?_set_ne (fun e => hb e.symm)]
theorem zeroed_snoc {n : List Int} {L : List Nat} {j : Nat} (h : j < L.length) : zeroed n (L.take (j + 1)) = (zeroed n (L.take j)).set L[j] 0 := by
  unfold zeroed
  rw [List.take_add_one, List.getElem?_eq_getElem h, Option.toList_some, List.foldl_append]
  rfl
/-- `|` of two numbers, and when it is nought -/
def orI (a b : Int) : Int := IntKind.i64.wrap ((BitVec.ofInt 64 a ||| BitVec.ofInt 64 b).toNat : Int)
theorem orI_in (a b : Int) : -9223372036854775808 ≤ orI a b ∧ orI a b ≤ 9223372036854775807 := by
  unfold orI
  generalize ((BitVec.ofInt 64 a ||| BitVec.ofInt 64 b).toNat : Int) = z
  rw [IntKind.wrap_i64]; omega
theorem ofInt_zero {a : Int} (h : -9223372036854775808 ≤ a ∧ a ≤ 9223372036854775807) (e : BitVec.ofInt 64 a = 0#64) : a = 0 := by
  have : (BitVec.ofInt 64 a).toNat = 0 := by rw [e]; rfl
  rw [BitVec.toNat_ofInt] at this
  omega
theorem orI_zero {a b : Int} (ha : -9223372036854775808 ≤ a ∧ a ≤ 9223372036854775807) (hb : -9223372036854775808 ≤ b ∧ b ≤ 9223372036854775807) : orI a b = 0 ↔ a = 0 ∧ b = 0 := by
  constructor
  · intro h
    have h1 : (BitVec.ofInt 64 a ||| BitVec.ofInt 64 b) = 0#64 := by
      apply BitVec.eq_of_toNat_eq
      unfold orI at h
      generalize BitVec.ofInt 64 a ||| BitVec.ofInt 64 b = z at h
      have hz := z.isLt
      rw [IntKind.wrap_i64] at h
      show z.toNat = 0
      omega
    have h2 := BitVec.or_eq_zero_iff.1 h1
    exact ⟨ofInt_zero ha h2.1, ofInt_zero hb h2.2⟩
  · rintro ⟨rfl, rfl⟩; rfl
/-- does it hold that nothing is set but what a kind has? -/
def Od.k (o : Od) : Int := o.n.getD 0 0
abbrev Od.g (o : Od) (a : Nat) : Int := o.n.getD a 0
def offL (k : Int) : List Nat := (offs k).getD []
def Od.bareP (o : Od) : Prop := (∀ a, a < 10 → (a + 3) ∉ offL (o.g 0) → o.g (a + 3) = 0) ∧ (o.P.length + o.R.length + o.W.length = 0 ∨ o.g 0 = 2) ∧ (o.D.length = 0 ∨ o.g 0 = 6)
def Od.spanP (o : Od) : Prop := (o.g 0 = 2 ∧ o.g 9 = 0 → o.g 6 = 0 ∧ o.g 7 = 0) ∧ (¬(o.g 0 = 2 ∧ o.g 9 = 0) ∧ (o.g 0 = 2 ∨ o.g 0 = 5 ∨ o.g 0 = 6 ∨ o.g 0 = 9) → 0 ≤ o.g 6 ∧ o.g 6 < o.g 7 ∧ o.g 7 ≤ 64)
abbrev inM (v : Int) : Prop := 0 ≤ v ∧ v ≤ 1099511627776
def Od.placedP (o : Od) : Prop := (0 ≤ o.g 1 ∧ o.g 1 ≤ 4) ∧ (inM (o.g 2) ∧ inM (o.g 3) ∧ inM (o.g 4) ∧ inM (o.g 5) ∧ inM (o.g 9)) ∧ (o.g 0 = 1 ∨ o.g 0 = 2 ∨ o.g 0 = 3 → 1 ≤ o.g 3) ∧ (o.g 0 = 4 → 1 ≤ o.g 9) ∧
  (o.g 0 = 9 → (1 ≤ o.g 11 ∧ o.g 11 ≤ 4) ∧ (1 ≤ o.g 12 ∧ o.g 12 ≤ 4)) ∧ (o.g 0 = 11 → 1 ≤ o.g 12 ∧ o.g 12 ≤ 7) ∧ (o.g 0 = 3 ∨ o.g 0 = 11 → 1 ≤ o.g 10 ∧ o.g 10 ≤ 2) ∧ (0 ≤ o.g 8 ∧ o.g 8 ≤ 63) ∧ o.spanP ∧ (o.g 0 ≠ 2 ∨ 0 < o.P.length)
abbrev allP (l : List Int) (a b : Int) : Prop := ∀ v ∈ l, a ≤ v ∧ v ≤ b
abbrev riseP (l : List Int) : Prop := ∀ j, j < l.length - 1 → l.getD j 0 < l.getD (j + 1) 0
abbrev Od.bl (o : Od) : List Int := o.W.map (·.Block)
abbrev sizeP (l : List Wr) : Prop := ∀ x ∈ l, x.Data.length = 4
instance (o : Od) : Decidable o.bareP := by unfold Od.bareP; exact inferInstance
instance (o : Od) : Decidable o.spanP := by unfold Od.spanP; exact inferInstance
instance (o : Od) : Decidable o.placedP := by
  unfold Od.placedP
  exact @instDecidableAnd _ _ inferInstance (@instDecidableAnd _ _ inferInstance (@instDecidableAnd _ _ inferInstance (@instDecidableAnd _ _ inferInstance (@instDecidableAnd _ _ inferInstance (@instDecidableAnd _ _ inferInstance (@instDecidableAnd _ _ inferInstance (@instDecidableAnd _ _ inferInstance (@instDecidableAnd _ _ inferInstance inferInstance))))))))
instance (l : List Int) (a b : Int) : Decidable (allP l a b) := by unfold allP; exact inferInstance
instance (l : List Int) : Decidable (riseP l) := by unfold riseP; exact inferInstance
/-- what is wrong with an operation -/
def chk (o : Od) : Int :=
  if ¬ (1 ≤ o.g 0 ∧ o.g 0 ≤ 11) then 13 else if ¬ o.bareP then 14 else if 4 < o.P.length ∨ 16 < o.R.length ∨ 8 < o.W.length then 17 else if 32768 < o.D.length then 2
  else if ¬ (o.placedP ∧ allP o.P 1 4 ∧ allP o.R 0 63 ∧ allP o.bl 0 63) then 3 else if ¬ sizeP o.W then 21 else if ¬ (riseP o.P ∧ riseP o.R ∧ riseP o.bl) then 15 else 0
/-- no list is too long -/
structure Od.small (o : Od) : Prop where
  P : o.P.length ≤ 1000000
  R : o.R.length ≤ 1000000
  W : o.W.length ≤ 1000000
  D : o.D.length ≤ 1000000
  WD : ∀ x ∈ o.W, x.Data.length ≤ 1000000
theorem offL_eq {k : Int} {L : List Nat} (h : offs k = some L) : offL k = L := by unfold offL; rw [h]; rfl
theorem offs_end {I : Nat → World → Prop} {kd : Int} {w w' : World} (h1 : ∀ L, offs kd = some L → I L.length w') (h2 : offs kd = none → Ext w w') (h0 : I 0 w) (hI : ∀ j w1 w2, I j w1 → Ext w1 w2 → I j w2) : I (offL kd).length w' := by
  cases h : offs kd with
  | none => unfold offL; rw [h]; exact hI _ _ _ h0 (h2 h)
  | some L => rw [offL_eq h]; exact h1 L h
theorem zeroed_end (n : List Int) (k : Int) (a : Nat) : (zeroed n ((offL k).take (offL k).length)).getD a 0 = if a ∈ offL k then 0 else n.getD a 0 := by
  rw [List.take_length, zeroed_get]
theorem zeroed_in {n : List Int} {L : List Nat} (h : ∀ k, -9223372036854775808 ≤ n.getD k 0 ∧ n.getD k 0 ≤ 9223372036854775807) (a : Nat) : -9223372036854775808 ≤ (zeroed n L).getD a 0 ∧ (zeroed n L).getD a 0 ≤ 9223372036854775807 := by
  rw [zeroed_get]; split
  · omega
  · exact h a
/-- what bare asks of the numbers -/
theorem bare_or {n : List Int} {k : Int} (h : ∀ a, -9223372036854775808 ≤ n.getD a 0 ∧ n.getD a 0 ≤ 9223372036854775807) (z : List Int) (hz : z = zeroed n ((offL k).take (offL k).length)) :
    orI (orI (orI (orI (orI (orI (orI (orI (orI (z.getD 3 0) (z.getD 4 0)) (z.getD 5 0)) (z.getD 9 0)) (z.getD 6 0)) (z.getD 7 0)) (z.getD 8 0)) (z.getD 10 0)) (z.getD 11 0)) (z.getD 12 0) = 0 ↔ ∀ a, a < 10 → (a + 3) ∉ offL k → n.getD (a + 3) 0 = 0 := by
  have hg : ∀ a, z.getD a 0 = if a ∈ offL k then 0 else n.getD a 0 := fun a => by rw [hz]; exact zeroed_end n k a
  have hin : ∀ a, -9223372036854775808 ≤ z.getD a 0 ∧ z.getD a 0 ≤ 9223372036854775807 := fun a => by rw [hz]; exact zeroed_in h a
  rw [orI_zero (orI_in _ _) (hin _), orI_zero (orI_in _ _) (hin _), orI_zero (orI_in _ _) (hin _), orI_zero (orI_in _ _) (hin _), orI_zero (orI_in _ _) (hin _), orI_zero (orI_in _ _) (hin _), orI_zero (orI_in _ _) (hin _), orI_zero (orI_in _ _) (hin _), orI_zero (hin _) (hin _)]
  have key : (∀ a, a < 10 → (a + 3) ∉ offL k → n.getD (a + 3) 0 = 0) ↔ ∀ a, a < 10 → z.getD (a + 3) 0 = 0 := by
    constructor
    · intro hh a ha
      rw [hg]; split
      · rfl
      · exact hh a ha ‹_›
    · intro hh a ha hn
      have := hh a ha
      rwa [hg, if_neg hn] at this
  rw [key]
  constructor
  · rintro ⟨⟨⟨⟨⟨⟨⟨⟨⟨h3, h4⟩, h5⟩, h9⟩, h6⟩, h7⟩, h8⟩, h10⟩, h11⟩, h12⟩ a ha
    match a, ha with
    | 0, _ => exact h3
    | 1, _ => exact h4
    | 2, _ => exact h5
    | 3, _ => exact h6
    | 4, _ => exact h7
    | 5, _ => exact h8
    | 6, _ => exact h9
    | 7, _ => exact h10
    | 8, _ => exact h11
    | 9, _ => exact h12
  · intro hh
    exact ⟨⟨⟨⟨⟨⟨⟨⟨⟨hh 0 (by omega), hh 1 (by omega)⟩, hh 2 (by omega)⟩, hh 6 (by omega)⟩, hh 3 (by omega)⟩, hh 4 (by omega)⟩, hh 5 (by omega)⟩, hh 7 (by omega)⟩, hh 8 (by omega)⟩, hh 9 (by omega)⟩
theorem ok_t {A : Prop} {p : Nat → Prop} {j : Nat} {d1 : Decidable (p j)} {d2 : Decidable (A ∧ ∀ i, i < j + 1 → p i)} (h : A ∧ ∀ i, i < j → p i) : decide (p j) = decide (A ∧ ∀ i, i < j + 1 → p i) :=
  decide_eq_decide.2 ⟨fun hp => ⟨h.1, fun i hi => by rcases Nat.lt_succ_iff_lt_or_eq.1 hi with hi | rfl; exact h.2 i hi; exact hp⟩, fun q => q.2 j (Nat.lt_succ_self j)⟩
theorem ok_f {A : Prop} {p : Nat → Prop} {j : Nat} {d2 : Decidable (A ∧ ∀ i, i < j + 1 → p i)} (h : ¬ (A ∧ ∀ i, i < j → p i)) : false = decide (A ∧ ∀ i, i < j + 1 → p i) :=
  (decide_eq_false fun q => h ⟨q.1, fun i hi => q.2 i (by omega)⟩).symm
end Go.Proofs.Ytpimnlgfhpnjnaa.Op
