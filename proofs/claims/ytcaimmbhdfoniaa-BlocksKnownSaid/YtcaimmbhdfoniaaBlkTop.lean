/- More of blocks as plain data: parts and joins. -/
import Derived.Test.YtcaimmbhdfoniaaBlkN
namespace Go.Proofs.Ytcaimmbhdfoniaa
open Go Go.RowKit Kf

section
variable {l : List Bl} {lo hi lo2 hi2 : Int}
theorem inB_right (h : RightB l) : RightB (inB lo hi l) := right_filter h
theorem outB_right (h : RightB l) : RightB (outB lo hi l) := right_filter h
theorem inB_get {n : Int} : getB (inB lo hi l) n = if inSp lo hi n = true then getB l n else zero4 := get_filter (p := inSp lo hi)
theorem outB_get {n : Int} : getB (outB lo hi l) n = if inSp lo hi n = true then zero4 else getB l n := by
  have := get_filter (p := fun n => !inSp lo hi n) (l := l) (n := n)
  unfold outB
  rw [this]
  cases inSp lo hi n <;> rfl
theorem part_len : (inB lo hi l).length + (outB lo hi l).length = l.length := by
  unfold inB outB
  induction l with
  | nil => rfl
  | cons x l ih =>
    rw [List.filter_cons, List.filter_cons]
    cases inSp lo hi x.No <;> simp <;> omega
theorem join_part1 (h : RightB l) : joinB (inB lo hi l) (outB lo hi l) = l := right_ext (join_right (inB_right h) _) h fun n _ => by
  rw [join_get (outB_right h), outB_get, inB_get]
  by_cases hi' : inSp lo hi (n : Int) = true
  · simp [hi']
  · simp only [hi', if_false, Bool.false_eq_true]
    split
    · rename_i e; exact e.symm
    · rfl
theorem join_part2 (h : RightB l) : joinB (outB lo hi l) (inB lo hi l) = l := right_ext (join_right (outB_right h) _) h fun n _ => by
  rw [join_get (inB_right h), outB_get, inB_get]
  by_cases hi' : inSp lo hi (n : Int) = true
  · simp only [hi', if_true]
    split
    · rename_i e; exact e.symm
    · rfl
  · simp [hi']
theorem join_part3 (h : RightB l) : joinB l (inB lo hi l) = l := right_ext (join_right h _) h fun n _ => by
  rw [join_get (inB_right h), inB_get]
  by_cases hi' : inSp lo hi (n : Int) = true
  · simp [hi']
  · simp [hi']
theorem in_in : inB lo2 hi2 (inB lo hi l) = inB (max lo lo2) (min hi hi2) l := by
  unfold inB
  rw [List.filter_filter]
  congr 1
  funext x
  unfold inSp
  rw [Bool.eq_iff_iff]
  simp only [Bool.and_eq_true, decide_eq_true_eq]
  omega
theorem in_out : inB lo hi (outB lo hi l) = [] := by
  unfold inB outB
  rw [List.filter_filter, List.filter_eq_nil_iff]
  intro x _
  cases inSp lo hi x.No <;> simp
theorem right_dat (h : RightB l) : ∀ x ∈ l, x.Data.length ≤ 1000000 := fun x hx => by have := (h.each x hx).2.2.1; omega
theorem right_le (h : RightB l) : l.length ≤ 1000000 := by have := right_len h; omega
theorem rightK_dat {k : List Kp} (h : RightK k) : ∀ x ∈ k, x.Data.length ≤ 1000000 := fun x hx => by have := (h.each x hx).2.2; omega
theorem has_some {k : List Kp} {s n : Int} (h : SortK k) : hasK k s n = (kepO k s n).isSome := by
  cases hh : hasK k s n
  · rw [kepO_none hh]; rfl
  · obtain ⟨h1, h2⟩ := (hasK_iff h).1 hh
    rw [kep_at h h1 h2]; rfl
end
end Go.Proofs.Ytcaimmbhdfoniaa
