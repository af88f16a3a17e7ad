/- What bytes are as an operation, as plain mathematics. -/
import Derived.Test.YthaojdpeimlngaaPut
namespace Go.Proofs.Ythaojdpeimlngaa
open Go Go.RowKit Kf
set_option maxRecDepth 20000
/-- numbers read one by one into their places -/
def getN (n : List Int) (s : Pk.RS) : List Nat → List Int × Pk.RS
  | [] => (n, s)
  | a :: L => getN (n.set a s.int.1) s.int.2 L
theorem getN_append (L M : List Nat) : ∀ n s, getN n s (L ++ M) = getN (getN n s L).1 (getN n s L).2 M := by
  induction L with
  | nil => intro n s; rfl
  | cons a L ih => intro n s; exact ih _ _
theorem getN_snoc {n : List Int} {s : Pk.RS} {L : List Nat} {j : Nat} (h : j < L.length) : getN n s (L.take (j + 1)) = ((getN n s (L.take j)).1.set L[j] (getN n s (L.take j)).2.int.1, (getN n s (L.take j)).2.int.2) := by
  rw [List.take_add_one, List.getElem?_eq_getElem h, Option.toList_some, getN_append]
  rfl
theorem getN_len (L : List Nat) : ∀ n s, (getN n s L).1.length = n.length := by
  induction L with
  | nil => intro n s; rfl
  | cons a L ih => intro n s; show (getN _ _ L).1.length = _; rw [ih]; simp
/-- so many writes, one behind the other -/
def rdW (s : Pk.RS) : Nat → List Wr × Pk.RS
  | 0 => ([], s)
  | k + 1 => let r := rdW s k; (r.1 ++ [⟨r.2.int.1, r.2.int.2.blob.1⟩], r.2.int.2.blob.2)
theorem rdW_len (s : Pk.RS) (k : Nat) : (rdW s k).1.length = k := by
  induction k with
  | zero => rfl
  | succ k ih => simp [rdW, ih]
theorem dead_int {s : Pk.RS} (h : s.bad = true) : s.int = (0, .dead) := by unfold Pk.RS.int; rw [if_pos (.inl h)]
theorem dead_blob {s : Pk.RS} (h : s.bad = true) : s.blob = ([], .dead) := by
  unfold Pk.RS.blob; rw [dead_int h]; unfold Pk.RS.take; rw [if_pos (.inl rfl)]
/-- a reader that is bad stays so -/
theorem rdW_bad {s : Pk.RS} {j : Nat} (h : (rdW s j).2.bad = true) : ∀ k, j ≤ k → (rdW s k).2.bad = true := by
  intro k hk
  induction k with
  | zero => obtain rfl : j = 0 := by omega
            exact h
  | succ k ih =>
    by_cases hj : j = k + 1
    · subst hj; exact h
    · have := ih (by omega)
      show ((rdW s k).2.int.2.blob.2).bad = true
      rw [dead_int this, dead_blob rfl]; rfl
def noOp : Od := ⟨[0, 0, 0, 0, 0, 0, 0, 0, 0, 0, 0, 0, 0], [], [], [], []⟩
/-- the lists of an OpPrepare; none: they are none -/
def getL (n : List Int) (s : Pk.RS) : Option (Od × Pk.RS) :=
  let p := s.ints; let r := p.2.ints; let c := r.2.int
  if c.1 < 0 ∨ (c.2.left.length / 8 : Nat) < c.1 ∨ (rdW c.2 c.1.toNat).2.bad = true then none
  else some (⟨n, p.1, r.1, (rdW c.2 c.1.toNat).1, []⟩, (rdW c.2 c.1.toNat).2)
/-- all that an operation of a kind has -/
def getB (n : List Int) (s : Pk.RS) : Option (Od × Pk.RS) :=
  if n.getD 0 0 = 2 then getL n s else if n.getD 0 0 = 6 then some (⟨n, [], [], [], s.blob.1⟩, s.blob.2) else some (⟨n, [], [], [], []⟩, s)
def fin1 : Option (Od × Pk.RS) → Od × Int
  | none => (noOp, 4)
  | some (o, s) => if s.err ≠ 0 then (noOp, s.err) else if chk o ≠ 0 then (noOp, chk o) else (o, 0)
/-- the operation that bytes are -/
def got (l : List UInt8) : Od × Int :=
  let i1 := (⟨l, false⟩ : Pk.RS).int; let i2 := i1.2.int; let i3 := i2.2.int
  match offs i1.1 with
  | none => (noOp, 4)
  | some L => let r := getN [i1.1, i2.1, i3.1, 0, 0, 0, 0, 0, 0, 0, 0, 0, 0] i3.2 L; fin1 (getB r.1 r.2)
end Go.Proofs.Ythaojdpeimlngaa
