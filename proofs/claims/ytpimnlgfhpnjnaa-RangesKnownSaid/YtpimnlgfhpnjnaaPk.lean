/- Numbers, bits and lists as bytes, as plain mathematics. -/
import Derived.Test.YtpimnlgfhpnjnaaBits
import Derived.Test.YtpimnlgfhpnjnaaStr
namespace Go.Proofs.Ytpimnlgfhpnjnaa.Pk
open Go Go.RowKit Kf

/-- the 64 bits of a number -/
def bits (v : Int) : Nat := (v % 18446744073709551616).toNat
def byteAt (u i : Nat) : UInt8 := UInt8.ofNat (u / 256 ^ i)
def enc (v : Int) : List UInt8 := [byteAt (bits v) 7, byteAt (bits v) 6, byteAt (bits v) 5, byteAt (bits v) 4, byteAt (bits v) 3, byteAt (bits v) 2, byteAt (bits v) 1, byteAt (bits v) 0]
theorem enc_len (v : Int) : (enc v).length = 8 := rfl
def num (l : List UInt8) : Nat := l.foldl (fun v x => v * 256 + x.toNat) 0
def dec (l : List UInt8) : Int := IntKind.i64.wrap (num l : Int)
def blob (p : List UInt8) : List UInt8 := enc p.length ++ p
def ints (l : List Int) : List UInt8 := enc l.length ++ l.flatMap enc

/-- of a list of n numbers so far -/
def intsOf (n : Nat) (l : List Int) : List UInt8 := enc n ++ l.flatMap enc
theorem intsOf_snoc (n : Nat) (l : List Int) (x : Int) : intsOf n (l ++ [x]) = intsOf n l ++ enc x := by simp [intsOf]
theorem intsOf_self (l : List Int) : intsOf l.length l = ints l := rfl
theorem flat_len (l : List Int) : (l.flatMap enc).length = 8 * l.length := by
  induction l with
  | nil => rfl
  | cons x l ih => simp only [List.flatMap_cons, List.length_append, ih, enc_len, List.length_cons]; omega
theorem ints_len (l : List UInt8) (n : Nat) (m : List Int) : (l ++ intsOf n m).length = l.length + 8 + 8 * m.length := by
  simp only [intsOf, List.length_append, flat_len, enc_len]; omega
theorem bits_lt (v : Int) : bits v < 18446744073709551616 := by unfold bits; omega
theorem wrap_u64 (v : Int) : IntKind.u64.wrap v = (bits v : Int) := by
  have : IntKind.u64.wrap v = v % 18446744073709551616 := by
    unfold IntKind.wrap; rfl
  rw [this]; unfold bits; omega
/-- one byte of a number, as the program takes it -/
theorem shr_byte (v : Int) (i : Nat) (hi : i < 8) : IntKind.u8.wrap ((IntKind.u64.wrap v).fdiv (2 ^ (min ((8 * (i : Int))).toNat IntKind.u64.bits))) = ((byteAt (bits v) i).toNat : Int) := by
  have e : min ((8 * (i : Int))).toNat IntKind.u64.bits = 8 * i := by
    show min ((8 * (i : Int))).toNat 64 = 8 * i
    omega
  rw [e, wrap_u64, Int.fdiv_eq_ediv_of_nonneg _ (Int.le_of_lt (Int.pow_pos (by decide)))]
  have e2 : (bits v : Int) / 2 ^ (8 * i) = ((bits v / 256 ^ i : Nat) : Int) := by
    rw [Int.natCast_ediv, Int.natCast_pow, show ((256 : Nat) : Int) = 2 ^ 8 from rfl, ← Int.pow_mul]
  rw [e2, IntKind.wrap_u8]
  unfold byteAt
  rw [UInt8.toNat_ofNat']
  omega
theorem enc_drop (v : Int) (k : Nat) (hk : k < 8) : (enc v).take (k + 1) = (enc v).take k ++ [byteAt (bits v) (7 - k)] := by
  unfold enc
  match k, hk with
  | 0, _ | 1, _ | 2, _ | 3, _ | 4, _ | 5, _ | 6, _ | 7, _ => rfl
theorem num_append (a : List UInt8) (x : UInt8) : num (a ++ [x]) = num a * 256 + x.toNat := by unfold num; rw [List.foldl_append]; rfl
theorem snoc_ind {α : Type} {P : List α → Prop} (h0 : P []) (h1 : ∀ a x, P a → P (a ++ [x])) (l : List α) : P l := by
  generalize hn : l.length = n
  induction n generalizing l with
  | zero => rw [List.eq_nil_of_length_eq_zero hn]; exact h0
  | succ n ih =>
    rcases List.eq_nil_or_concat l with rfl | ⟨a, x, rfl⟩
    · simp at hn
    · rw [List.concat_eq_append] at hn ⊢
      exact h1 a x (ih a (by simpa using hn))
theorem num_lt : ∀ (l : List UInt8), num l < 256 ^ l.length := by
  intro l
  induction l using snoc_ind with
  | h0 => decide
  | h1 a x ih =>
    rw [num_append, List.length_append, List.length_singleton, Nat.pow_succ]
    have := x.toNat_lt
    omega
theorem num_enc (v : Int) : num (enc v) = bits v := by
  have h := bits_lt v
  unfold enc num byteAt
  generalize bits v = u at h
  simp only [List.foldl_cons, List.foldl_nil, UInt8.toNat_ofNat']
  omega
theorem wrap_i64 (n : Nat) (h : n < 18446744073709551616) : IntKind.i64.wrap (n : Int) = if n < 9223372036854775808 then (n : Int) else (n : Int) - 18446744073709551616 := by
  rw [IntKind.wrap_i64]
  split <;> omega
theorem dec_enc {v : Int} (h : -9223372036854775808 ≤ v ∧ v ≤ 9223372036854775807) : dec (enc v) = v := by
  unfold dec
  rw [num_enc, wrap_i64 _ (bits_lt v)]
  unfold bits
  split <;> omega
theorem dec_in (l : List UInt8) : -9223372036854775808 ≤ dec l ∧ dec l ≤ 9223372036854775807 := by
  unfold dec
  rw [IntKind.wrap_i64]
  omega
theorem num_inj {a b : List UInt8} (hl : a.length = b.length) (h : num a = num b) : a = b := by
  induction a using snoc_ind generalizing b with
  | h0 => exact (List.eq_nil_of_length_eq_zero hl.symm).symm
  | h1 a x ih =>
    rcases List.eq_nil_or_concat b with rfl | ⟨b', y, rfl⟩
    · simp at hl
    · rw [List.concat_eq_append] at h hl ⊢
      rw [num_append, num_append] at h
      have hx := x.toNat_lt
      have hy := y.toNat_lt
      have e1 : x.toNat = y.toNat := by omega
      have e2 : num a = num b' := by omega
      rw [ih (by simpa using hl) e2, UInt8.toNat_inj.1 e1]
theorem enc_dec {l : List UInt8} (h : l.length = 8) : enc (dec l) = l := by
  refine num_inj h.symm ?_
  rw [num_enc]
  have h2 := num_lt l
  rw [h] at h2
  unfold dec
  rw [wrap_i64 _ h2]
  unfold bits
  split <;> omega

/-! ### Byte by byte, from below -/
def upper (u : Nat) : Nat → Nat
  | 0 => u
  | k + 1 => upper u k / 256
def low (u : Nat) : Nat → List UInt8
  | 0 => []
  | k + 1 => low u k ++ [UInt8.ofNat (upper u k % 256)]
theorem upper_eq (u : Nat) : ∀ k, upper u k = u / 256 ^ k
  | 0 => by simp [upper]
  | k + 1 => by rw [upper, upper_eq u k, Nat.div_div_eq_div_mul, Nat.pow_succ]
theorem upper_le (u : Nat) : ∀ k, upper u k ≤ u
  | 0 => Nat.le_refl _
  | k + 1 => Nat.le_trans (Nat.div_le_self _ _) (upper_le u k)
theorem low_len (u : Nat) : ∀ k, (low u k).length = k
  | 0 => rfl
  | k + 1 => by rw [low, List.length_append, low_len u k]; rfl
theorem low_at (u : Nat) : ∀ k i, i < k → (low u k).getD i 0 = byteAt u i
  | k + 1, i, h => by
    have hl := low_len u k
    by_cases hi : i < k
    · have := low_at u k i hi
      rw [List.getD_eq_getElem?_getD] at this ⊢
      rw [low, List.getElem?_append_left (by omega)]
      exact this
    · have : i = k := by omega
      subst this
      rw [low, List.getD_eq_getElem?_getD, List.getElem?_append_right (by omega), hl, Nat.sub_self]
      show UInt8.ofNat _ = _
      apply UInt8.toNat_inj.1
      unfold byteAt
      rw [UInt8.toNat_ofNat', UInt8.toNat_ofNat', upper_eq]
      omega
theorem remU (x : Nat) : ((x : Int)).tmod 256 = ((x % 256 : Nat) : Int) := by
  rw [Int.tmod_eq_emod_of_nonneg (by omega)]; omega
theorem quoU {x : Nat} (h : x < 18446744073709551616) : IntKind.u64.wrap (((x : Int)).tdiv 256) = ((x / 256 : Nat) : Int) := by
  rw [Int.tdiv_eq_ediv_of_nonneg (by omega), wu64 (by omega)]; omega
theorem low8 (x : Nat) : IntKind.u8.wrap (((x % 256 : Nat) : Int)) = ((UInt8.ofNat (x % 256)).toNat : Int) := by
  rw [IntKind.wrap_u8, UInt8.toNat_ofNat']; omega
theorem enc_at (v : Int) (i : Nat) (hi : i < 8) : (enc v).getD i 0 = byteAt (bits v) (7 - i) := by
  match i, hi with
  | 0, _ | 1, _ | 2, _ | 3, _ | 4, _ | 5, _ | 6, _ | 7, _ => rfl

/-! ### A reader: what is left, and whether it is bad -/
structure RS where
  left : List UInt8
  bad : Bool
def RS.ok (s : RS) : Prop := s.bad = true → s.left = []
def RS.dead : RS := ⟨[], true⟩
/-- the next n bytes -/
def RS.take (s : RS) (n : Int) : List UInt8 × RS := if s.bad = true ∨ n < 0 ∨ s.left.length < n then ([], .dead) else (s.left.take n.toNat, ⟨s.left.drop n.toNat, false⟩)
def RS.int (s : RS) : Int × RS := if s.bad = true ∨ s.left.length < 8 then (0, .dead) else (dec (s.left.take 8), ⟨s.left.drop 8, false⟩)
def RS.blob (s : RS) : List UInt8 × RS := s.int.2.take s.int.1
def RS.many (s : RS) : Nat → List Int × RS
  | 0 => ([], s)
  | n + 1 => let r := (s.many n); (r.1 ++ [r.2.int.1], r.2.int.2)
def RS.ints (s : RS) : List Int × RS :=
  if s.int.2.bad = true ∨ s.int.1 < 0 ∨ (s.int.2.left.length / 8 : Nat) < s.int.1 then ([], .dead) else s.int.2.many s.int.1.toNat
def RS.err (s : RS) : Int := if s.bad = true then 4 else if 0 < s.left.length then 2 else 0
end Go.Proofs.Ytpimnlgfhpnjnaa.Pk
