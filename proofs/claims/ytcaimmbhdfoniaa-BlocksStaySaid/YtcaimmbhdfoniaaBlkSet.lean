/- For BlocksSet, BlocksStay and BlocksKnown: arrays, and more plain laws. -/
import Derived.Test.YtcaimmbhdfoniaaBlkT
namespace Go.Proofs.Ytcaimmbhdfoniaa
open Go Go.RowKit Kf

section
variable {P : Program} {f : Fr} {w : World} {dst : Option Tmp} {ty t e : TypeId} {pos : String} {aft : Array Edge} {gd : Option (Nat × Bool)} {x y : Operand} {g k m sz : Nat} {kd : IntKind}
/-- an element of an array in a block of its own -/
theorem X.idxArr (hx : ev f x = at_ g) (hy : ev f y = .int kd (k : Int)) (hk : k < m) (ht : P.underlying t = some (.array m e)) (hs : ∀ w, (sizeOf e).run P w = .ok sz w) :
    (execOp (ev f) ⟨dst, .indexAddr t x y, ty, pos, aft, gd⟩).run P w = .ok (.value (.pointer (some ⟨g, k * sz, none⟩))) w := by
  have h1 : (k : Int) < (m : Int) := by omega
  simp [execOp, hx, hy, Instr.indexAt, asIntOf, Instr.sureAddr, run_underlying ht, hs, Result.andThen, Addr.add_lit, hk]
end
theorem getD_some {cs : List Value} {k : Nat} (h : k < cs.length) : cs[k * 1]? = some (cs.getD k undef) := by
  rw [Nat.mul_one, List.getD_eq_getElem?_getD, List.getElem?_eq_getElem h]; rfl
/-- what the array holds -/
structure Want (w : World) (cs : List Value) (f : Nat → List UInt8) : Prop where
  len : cs.length = 64
  data : ∀ n, n < 64 → Bytes w (cs.getD n undef) (f n)
  four : ∀ n, n < 64 → f n = [] ∨ (f n).length = 4
abbrev wantV (f : Nat → List UInt8) (n : Nat) : List UInt8 := if f n = [] then zero4 else f n
theorem Want.nil (w : World) : Want w (List.replicate 64 (.slice none 0 0)) (fun _ => []) :=
  ⟨List.length_replicate, fun n hn => by rw [List.getD_eq_getElem?_getD, List.getElem?_replicate, if_pos hn]; exact nil_bytes w, fun n _ => .inl rfl⟩
theorem Want.set {w : World} {cs : List Value} {f : Nat → List UInt8} {m : Nat} {dv : Value} {d : List UInt8} (h : Want w cs f) (_hm : m < 64) (hd : Bytes w dv d) (h4 : d.length = 4) : Want w (cs.set (m * 1) dv) (fun n => if n = m then d else f n) := by
  have hl := h.len
  rw [Nat.mul_one]
  refine ⟨by rw [List.length_set]; exact hl, fun n hn => ?_, fun n hn => ?_⟩
  · rw [getD_set (by omega)]
    split
    · exact hd
    · exact h.data n hn
  · show (if n = m then d else f n) = [] ∨ (if n = m then d else f n).length = 4
    split
    · exact .inr h4
    · exact h.four n hn
/-- the set list says what the array says -/
def Says (l : List Bl) (f : Nat → List UInt8) : Prop := ∀ n : Nat, n < 64 → getB l (n : Int) = wantV f n
theorem Says.nil : Says [] (fun _ => []) := fun n _ => rfl
theorem Says.set {l : List Bl} {f : Nat → List UInt8} {m : Nat} {d : List UInt8} (h : Says l f) (hok : okB (m : Int) d = true) : Says (setB l (m : Int) d) (fun n => if n = m then d else f n) := fun n hn => by
  have h4 := (of_decide_eq_true hok).2.2
  rw [set_get]
  by_cases e : n = m
  · subst e
    rw [if_pos ⟨hok, rfl⟩]
    show d = if (if n = n then d else f n) = [] then zero4 else (if n = n then d else f n)
    rw [if_pos rfl, if_neg (fun e => by rw [e] at h4; simp at h4)]
  · rw [if_neg (fun h => e (by have := h.2; omega)), h n hn]
    show wantV f n = if (if n = m then d else f n) = [] then zero4 else (if n = m then d else f n)
    rw [if_neg e]
theorem Says.no {l : List Bl} {f : Nat → List UInt8} {no : Int} {d : List UInt8} (h : Says l f) (hok : okB no d = false) : Says (setB l no d) f := by rw [set_no hok]; exact h
/-- set anew from above down to z -/
def Anew (S A : List Bl) (z : Int) : Prop := ∀ n : Nat, n < 64 → getB A (n : Int) = if z < (n : Int) then getB S (n : Int) else zero4
theorem Anew.nil {S : List Bl} : Anew S [] 63 := fun n hn => by rw [if_neg (by omega)]; rfl
theorem Anew.set {S A : List Bl} {j : Nat} (h : Anew S A (j : Int)) (hS : RightB S) (hj : j < 64) : Anew S (setB A (j : Int) (getB S (j : Int))) ((j : Int) - 1) := fun n hn => by
  have hok : okB (j : Int) (getB S (j : Int)) = true := decide_eq_true ⟨by omega, by omega, getB_len hS⟩
  rw [set_get, hok]
  by_cases e : n = j
  · subst e; rw [if_pos ⟨rfl, rfl⟩, if_pos (by omega)]
  · rw [if_neg (fun h => e (by have := h.2; omega)), h n hn]
    by_cases h2 : (j : Int) < (n : Int)
    · rw [if_pos h2, if_pos (by omega)]
    · rw [if_neg h2, if_neg (by omega)]
theorem Anew.all {S A : List Bl} {z : Int} (h : Anew S A z) (hz : z < 0) (hS : RightB S) (hA : RightB A) : S = A := right_ext hS hA fun n hn => by rw [h n hn, if_pos (by omega)]
/-- keeping of another snapshot -/
theorem keep_other {kk : List Kp} {s s' lo hi n : Int} {bl : List Bl} (h : s' ≠ s) : kepO (keepK kk s' lo hi bl) s n = kepO kk s n := by
  rw [keep_get, if_neg (fun e => h e.1.symm)]
theorem keep_len9 {kk : List Kp} {s : Int} {bl : List Bl} {lo : Int} (_h : 0 ≤ lo) : (keepK kk s lo (lo + 9) bl).length ≤ kk.length + 9 :=
  Nat.le_trans (keepC_len _) (Nat.add_le_add_left (by show (min (lo + 9) 64 - max 0 lo).toNat ≤ 9; omega) _)
def insB (lo hi z : Int) : Bool := decide (0 ≤ z ∧ z < 64 ∧ lo ≤ z ∧ z < hi)
theorem keep_ins {s lo hi z : Int} {bl : List Bl} : kepO (keepK [] s lo hi bl) s z = if insB lo hi z = true then some (getB bl z) else none := by
  rw [keep_get]
  unfold insB inSp
  simp only [true_and, decide_eq_true_eq]
  split <;> rfl
theorem tmod_nat (a b : Nat) : Int.tmod (a : Int) (b : Int) = ((a % b : Nat) : Int) := rfl
theorem keepC_sort {kk : List Kp} {s : Int} {bl : List Bl} {a : Nat} (h : SortK kk) : ∀ c, SortK (keepC kk s bl a c)
  | 0 => h
  | c + 1 => putK_sort (keepC_sort h c)
theorem keepC_len0 {s : Int} {bl : List Bl} {a : Nat} : ∀ c, (keepC [] s bl a c).length = c
  | 0 => rfl
  | c + 1 => by
    have hs := keepC_sort (kk := []) (s := s) (bl := bl) (a := a) List.Pairwise.nil c
    have hn : hasK (keepC [] s bl a c) s ((a + c : Nat) : Int) = false := by
      rw [has_some hs, keepC_get, if_neg (by omega)]; rfl
    rw [keepC, putK_ins hs hn]
    have h1 := keepC_len0 (s := s) (bl := bl) (a := a) c
    have h2 := cntK_le (l := keepC [] s bl a c) (s := s) (n := ((a + c : Nat) : Int))
    simp only [List.length_append, List.length_take, List.length_drop, List.length_singleton]
    omega
/-- BlocksKnown's list -/
abbrev n3 : List Int := [9, 3, 5]
def kL (i : Nat) : List Bl := (n3.take i).foldl (fun l n => setB l n four) []
theorem kL_step {i : Nat} (h : i < 3) : kL (i + 1) = setB (kL i) (n3.getD i 0) four := by
  match i, h with
  | 0, _ => rfl
  | 1, _ => rfl
  | 2, _ => rfl
theorem kL_right {i : Nat} (h : i ≤ 3) : RightB (kL i) := by
  have : ∀ i, i < 4 → rightB (kL i) = true := by decide
  exact rightB_iff.1 (this i (by omega))
theorem kL3 : kL 3 = [⟨3, four⟩, ⟨5, four⟩, ⟨9, four⟩] := by decide
abbrev ends : List Int := [-9223372036854775808, -1, 0, 1, 63, 64, 65, 9223372036854775807]
theorem ends_in (j : Nat) : -9223372036854775808 ≤ ends.getD j 0 ∧ ends.getD j 0 ≤ 9223372036854775807 := by
  by_cases h : j < ends.length
  · have hm : ends.getD j 0 ∈ ends := by rw [List.getD_eq_getElem?_getD, List.getElem?_eq_getElem h]; exact List.getElem_mem h
    have : ∀ x ∈ ends, -9223372036854775808 ≤ x ∧ x ≤ 9223372036854775807 := by decide
    exact this _ hm
  · rw [List.getD_eq_getElem?_getD, List.getElem?_eq_none (by omega)]; decide
theorem ends_zero (j : Nat) : getB (kL 3) (ends.getD j 0) = zero4 := by
  by_cases h : j < ends.length
  · have hm : ends.getD j 0 ∈ ends := by rw [List.getD_eq_getElem?_getD, List.getElem?_eq_getElem h]; exact List.getElem_mem h
    have : ∀ x ∈ ends, getB (kL 3) x = zero4 := by decide
    exact this _ hm
  · rw [List.getD_eq_getElem?_getD, List.getElem?_eq_none (by omega)]; decide
end Go.Proofs.Ytcaimmbhdfoniaa
