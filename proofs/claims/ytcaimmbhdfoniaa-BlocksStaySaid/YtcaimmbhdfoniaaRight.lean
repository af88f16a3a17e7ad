/- What Right and RightKept say. -/
import Derived.Test.YtcaimmbhdfoniaaBlkE
namespace Go.Proofs.Ytcaimmbhdfoniaa
open Go Go.RowKit Kf

abbrev eachB (x : Bl) : Prop := 0 ≤ x.No ∧ x.No < 64 ∧ x.Data.length = 4 ∧ x.Data ≠ zero4
def rightB (l : List Bl) : Bool := (l.all fun x => decide (eachB x)) && decide (SortB l)
theorem rightB_iff {l : List Bl} : rightB l = true ↔ RightB l := by
  unfold rightB
  rw [Bool.and_eq_true, List.all_eq_true, decide_eq_true_eq]
  exact ⟨fun h => ⟨h.2, fun x hx => of_decide_eq_true (h.1 x hx)⟩, fun h => ⟨fun x hx => decide_eq_true (h.each x hx), h.sort⟩⟩
theorem rightB_no {l : List Bl} (h : rightB l = false) : ¬ RightB l := fun e => by rw [rightB_iff.2 e] at h; cases h
theorem adj_pair {α : Type} {R : α → α → Prop} (ht : ∀ {a b c}, R a b → R b c → R a c) {l : List α} (h : ∀ j (hj : j + 1 < l.length), R (l[j]'(by omega)) l[j + 1]) : l.Pairwise R := by
  rw [List.pairwise_iff_getElem]
  intro i j hi hj hij
  obtain ⟨d, rfl⟩ : ∃ d, j = i + 1 + d := ⟨j - i - 1, by omega⟩
  induction d with
  | zero => exact h i hj
  | succ d ih => exact ht (ih (by omega) (by omega)) (h (i + 1 + d) hj)
theorem bad_each {E : List BV} {k : Nat} (hk : k < E.length) (h : ¬ eachB E[k].1) : rightB (E.map Prod.fst) = false := by
  cases hh : rightB (E.map Prod.fst)
  · rfl
  · exact absurd ((rightB_iff.1 hh).each _ (List.mem_map.2 ⟨_, List.getElem_mem hk, rfl⟩)) h
theorem bad_sort {E : List BV} {k : Nat} (hk : k < E.length) (h0 : 0 < k) (h : ¬ (E[k - 1]'(by omega)).1.No < E[k].1.No) : rightB (E.map Prod.fst) = false := by
  cases hh : rightB (E.map Prod.fst)
  · rfl
  · have := List.pairwise_iff_getElem.1 (rightB_iff.1 hh).sort (k - 1) k (by rw [List.length_map]; omega) (by rw [List.length_map]; omega) (by omega)
    simp only [List.getElem_map] at this
    exact absurd this h
theorem good_all {E : List BV} (h1 : ∀ j (hj : j < E.length), eachB E[j].1) (h2 : ∀ j (hj : j + 1 < E.length), (E[j]'(by omega)).1.No < E[j + 1].1.No) : rightB (E.map Prod.fst) = true := by
  rw [rightB_iff]
  refine ⟨adj_pair (fun h k => by omega) fun j hj => by simp only [List.getElem_map]; exact h2 j (by simpa using hj), fun x hx => ?_⟩
  obtain ⟨e, he, rfl⟩ := List.mem_map.1 hx
  obtain ⟨j, hj, rfl⟩ := List.getElem_of_mem he
  exact h1 j hj
abbrev eachK (x : Kp) : Prop := 0 ≤ x.No ∧ x.No < 64 ∧ x.Data.length = 4
def right5 (l : List Kp) : Bool := decide (l.length ≤ 500) && ((l.all fun x => decide (eachK x)) && decide (SortK l))
theorem right5_iff {l : List Kp} : right5 l = true ↔ l.length ≤ 500 ∧ RightK l := by
  unfold right5
  rw [Bool.and_eq_true, Bool.and_eq_true, List.all_eq_true, decide_eq_true_eq, decide_eq_true_eq]
  exact ⟨fun h => ⟨h.1, h.2.2, fun x hx => of_decide_eq_true (h.2.1 x hx)⟩, fun h => ⟨h.1, fun x hx => decide_eq_true (h.2.each x hx), h.2.sort⟩⟩
theorem bad5 {l : List Kp} (h : ¬ l.length ≤ 500) : right5 l = false := by
  cases hh : right5 l
  · rfl
  · exact absurd (right5_iff.1 hh).1 h
theorem badK_each {E : List KV} {k : Nat} (hk : k < E.length) (h : ¬ eachK E[k].1) : right5 (E.map Prod.fst) = false := by
  cases hh : right5 (E.map Prod.fst)
  · rfl
  · exact absurd ((right5_iff.1 hh).2.each _ (List.mem_map.2 ⟨_, List.getElem_mem hk, rfl⟩)) h
theorem badK_sort {E : List KV} {k : Nat} (hk : k < E.length) (h0 : 0 < k) (h : ¬ KLt (E[k - 1]'(by omega)).1 E[k].1) : right5 (E.map Prod.fst) = false := by
  cases hh : right5 (E.map Prod.fst)
  · rfl
  · have := List.pairwise_iff_getElem.1 (right5_iff.1 hh).2.sort (k - 1) k (by rw [List.length_map]; omega) (by rw [List.length_map]; omega) (by omega)
    simp only [List.getElem_map] at this
    exact absurd this h
theorem goodK_all {E : List KV} (h0 : E.length ≤ 500) (h1 : ∀ j (hj : j < E.length), eachK E[j].1) (h2 : ∀ j (hj : j + 1 < E.length), KLt (E[j]'(by omega)).1 E[j + 1].1) : right5 (E.map Prod.fst) = true := by
  rw [right5_iff]
  refine ⟨by simpa using h0, adj_pair (fun h k => by unfold KLt at *; omega) fun j hj => by simp only [List.getElem_map]; exact h2 j (by simpa using hj), fun x hx => ?_⟩
  obtain ⟨e, he, rfl⟩ := List.mem_map.1 hx
  obtain ⟨j, hj, rfl⟩ := List.getElem_of_mem he
  exact h1 j hj
/-- what the statements ask always -/
abbrev four : List UInt8 := [1, 2, 3, 4]
abbrev kB1 : List Bl := [⟨5, four⟩]
abbrev kK1 : List Kp := [⟨7, 4, zero4⟩, ⟨7, 5, four⟩]
theorem kB1_eq : setB [] 5 four = kB1 := by decide
theorem kK1_eq : keepK [] 7 4 6 kB1 = kK1 := by decide
theorem kB0_eq : setB kB1 5 zero4 = [] := by decide
theorem kB1_right : RightB kB1 := kB1_eq ▸ set_right RightB.nil
theorem kK1_right : RightK kK1 := kK1_eq ▸ keep_right RightK.nil kB1_right
theorem kK1_dat : ∀ x ∈ kK1, x.Data.length ≤ 1000000 := fun x hx => by have := (kK1_right.each x hx).2.2; omega
end Go.Proofs.Ytcaimmbhdfoniaa
