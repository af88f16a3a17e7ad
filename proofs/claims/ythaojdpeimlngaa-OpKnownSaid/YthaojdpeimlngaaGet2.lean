/- How long what is read may be. -/
import Derived.Test.YthaojdpeimlngaaGet
namespace Go.Proofs.Ythaojdpeimlngaa
open Go Go.RowKit Kf
set_option maxRecDepth 20000
theorem int_rng (s : Pk.RS) : -9223372036854775808 ≤ s.int.1 ∧ s.int.1 ≤ 9223372036854775807 := by
  unfold Pk.RS.int
  split
  · show (-9223372036854775808 : Int) ≤ 0 ∧ (0 : Int) ≤ _; omega
  · show -9223372036854775808 ≤ Pk.dec _ ∧ Pk.dec _ ≤ _
    unfold Pk.dec
    rw [IntKind.wrap_i64]; omega
theorem int_le (s : Pk.RS) : s.int.2.left.length ≤ s.left.length := by
  unfold Pk.RS.int
  split
  · exact Nat.zero_le _
  · show (s.left.drop 8).length ≤ _; simp
theorem take_le (s : Pk.RS) (n : Int) : (s.take n).1.length ≤ s.left.length ∧ (s.take n).2.left.length ≤ s.left.length := by
  unfold Pk.RS.take
  split
  · exact ⟨Nat.zero_le _, Nat.zero_le _⟩
  · constructor
    · show (s.left.take _).length ≤ _; simp; omega
    · show (s.left.drop _).length ≤ _; simp
theorem blob_le (s : Pk.RS) : s.blob.1.length ≤ s.left.length ∧ s.blob.2.left.length ≤ s.left.length := by
  have h := take_le s.int.2 s.int.1
  have := int_le s
  exact ⟨Nat.le_trans h.1 this, Nat.le_trans h.2 this⟩
theorem many_le (s : Pk.RS) (n : Nat) : (s.many n).1.length = n ∧ (s.many n).2.left.length ≤ s.left.length := by
  induction n with
  | zero => exact ⟨rfl, Nat.le_refl _⟩
  | succ n ih =>
    constructor
    · show ((s.many n).1 ++ [(s.many n).2.int.1]).length = _; simp [ih.1]
    · exact Nat.le_trans (int_le _) ih.2
theorem ints_le (s : Pk.RS) : s.ints.1.length ≤ s.left.length ∧ s.ints.2.left.length ≤ s.left.length := by
  unfold Pk.RS.ints
  split
  · exact ⟨Nat.zero_le _, Nat.zero_le _⟩
  · rename_i h
    have hm := many_le s.int.2 s.int.1.toNat
    have hi := int_le s
    constructor
    · rw [hm.1]; omega
    · exact Nat.le_trans hm.2 hi
theorem rdW_le (s : Pk.RS) (k : Nat) : (rdW s k).2.left.length ≤ s.left.length ∧ ∀ x ∈ (rdW s k).1, x.Data.length ≤ s.left.length := by
  induction k with
  | zero => exact ⟨Nat.le_refl _, fun x hx => by cases hx⟩
  | succ k ih =>
    have hi := int_le (rdW s k).2
    have hb := blob_le (rdW s k).2.int.2
    constructor
    · show ((rdW s k).2.int.2.blob.2).left.length ≤ _; omega
    · intro x hx
      rcases List.mem_append.1 (show x ∈ (rdW s k).1 ++ [⟨(rdW s k).2.int.1, (rdW s k).2.int.2.blob.1⟩] from hx) with hx | hx
      · exact ih.2 x hx
      · rw [List.mem_singleton] at hx; subst hx
        show ((rdW s k).2.int.2.blob.1).length ≤ _; omega
theorem getN_le (L : List Nat) : ∀ n s, (getN n s L).2.left.length ≤ s.left.length := by
  induction L with
  | nil => intro n s; exact Nat.le_refl _
  | cons a L ih => intro n s; exact Nat.le_trans (ih _ _) (int_le s)
theorem set_rng {n : List Int} {a : Nat} {x : Int} (h : ∀ k, -9223372036854775808 ≤ n.getD k 0 ∧ n.getD k 0 ≤ 9223372036854775807) (hx : -9223372036854775808 ≤ x ∧ x ≤ 9223372036854775807) (k : Nat) : -9223372036854775808 ≤ (n.set a x).getD k 0 ∧ (n.set a x).getD k 0 ≤ 9223372036854775807 := by
  simp only [List.getD_eq_getElem?_getD, List.getElem?_set]
  split
  · split
    · exact hx
    · exact ⟨by decide, by decide⟩
  · have := h k
    rwa [List.getD_eq_getElem?_getD] at this
theorem getN_rng (L : List Nat) : ∀ n s, (∀ k, -9223372036854775808 ≤ n.getD k 0 ∧ n.getD k 0 ≤ 9223372036854775807) → ∀ k, -9223372036854775808 ≤ (getN n s L).1.getD k 0 ∧ (getN n s L).1.getD k 0 ≤ 9223372036854775807 := by
  induction L with
  | nil => intro n s h; exact h
  | cons a L ih => intro n s h; exact ih _ _ (set_rng h (int_rng s))
theorem getN_zero (L : List Nat) (hL : ∀ a ∈ L, 3 ≤ a) : ∀ n s, (getN n s L).1.getD 0 0 = n.getD 0 0 := by
  induction L with
  | nil => intro n s; rfl
  | cons a L ih =>
    intro n s
    show (getN _ _ L).1.getD 0 0 = _
    rw [ih fun x hx => hL x (List.mem_cons_of_mem _ hx)]
    simp only [List.getD_eq_getElem?_getD, List.getElem?_set_ne (show a ≠ 0 by have := hL a (List.mem_cons_self ..); omega)]
theorem offL_ge (k : Int) : ∀ a ∈ offL k, 3 ≤ a := by
  intro a ha
  unfold offL at ha
  cases h : offs k with
  | none => rw [h] at ha; cases ha
  | some L =>
    rw [h] at ha
    obtain ⟨j, hj, rfl⟩ := List.getElem_of_mem (show a ∈ L from ha)
    exact (offs_in h hj).1
/-- the numbers of an operation as they are first read -/
def n0 (l : List UInt8) : List Int := [(⟨l, false⟩ : Pk.RS).int.1, (⟨l, false⟩ : Pk.RS).int.2.int.1, (⟨l, false⟩ : Pk.RS).int.2.int.2.int.1, 0, 0, 0, 0, 0, 0, 0, 0, 0, 0]
def s3 (l : List UInt8) : Pk.RS := (⟨l, false⟩ : Pk.RS).int.2.int.2.int.2
theorem s3_le (l : List UInt8) : (s3 l).left.length ≤ l.length := by
  have h1 := int_le (⟨l, false⟩ : Pk.RS)
  have h2 := int_le (⟨l, false⟩ : Pk.RS).int.2
  have h3 := int_le (⟨l, false⟩ : Pk.RS).int.2.int.2
  exact Nat.le_trans h3 (Nat.le_trans h2 h1)
theorem n0_rng (l : List UInt8) (k : Nat) : -9223372036854775808 ≤ (n0 l).getD k 0 ∧ (n0 l).getD k 0 ≤ 9223372036854775807 := by
  have z : (-9223372036854775808 : Int) ≤ 0 ∧ (0 : Int) ≤ 9223372036854775807 := by omega
  unfold n0
  match k with
  | 0 => exact int_rng _
  | 1 => exact int_rng _
  | 2 => exact int_rng _
  | 3 | 4 | 5 | 6 | 7 | 8 | 9 | 10 | 11 | 12 => exact z
  | k + 13 => exact z
theorem got_none {l : List UInt8} (h : offs ((n0 l).getD 0 0) = none) : got l = (noOp, 4) := by
  have h : offs (⟨l, false⟩ : Pk.RS).int.1 = none := h
  unfold got
  simp only [h]
theorem got_some {l : List UInt8} {L : List Nat} (h : offs ((n0 l).getD 0 0) = some L) : got l = fin1 (getB (getN (n0 l) (s3 l) L).1 (getN (n0 l) (s3 l) L).2) := by
  have h : offs (⟨l, false⟩ : Pk.RS).int.1 = some L := h
  unfold got
  simp only [h]
  rfl
end Go.Proofs.Ythaojdpeimlngaa
