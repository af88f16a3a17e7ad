/- Frames as plain mathematics: what is put, what is read. -/
import Derived.Test.YtccbpfbcaogcnaaCrc
import Derived.Test.YtccbpfbcaogcnaaBits
namespace Go.Proofs.Ytccbpfbcaogcnaa.Frm
open Go Go.RowKit Kf

def four (n : Nat) : List UInt8 := [UInt8.ofNat (n / 16777216), UInt8.ofNat (n / 65536), UInt8.ofNat (n / 256), UInt8.ofNat n]
def num (l : List UInt8) : Nat := l.foldl (fun v x => v * 256 + x.toNat) 0
def sumOf (p : List UInt8) : BitVec 32 := Crc.more (Crc.of (four p.length)) p
def head (p : List UInt8) : List UInt8 := four p.length ++ four (sumOf p).toNat
/-- bytes and an error's number -/
def put (p : List UInt8) : List UInt8 × Int := if p.length ≤ 65536 then (head p ++ p, 0) else ([], 2)
/-- payload, how many bytes went by, an error's number -/
def get (b : List UInt8) : List UInt8 × Nat × Int :=
  if b.length < 8 then ([], 0, 1)
  else if 65536 < num (b.take 4) then ([], 0, 2)
  else if b.length < 8 + num (b.take 4) then ([], 0, 1)
  else if head ((b.drop 8).take (num (b.take 4))) = b.take 8 then ((b.drop 8).take (num (b.take 4)), 8 + num (b.take 4), 0)
  else ([], 0, 5)

theorem byteShr (n : Nat) (k : IntKind) (s : Int) (hk : s.toNat ≤ k.bits) : IntKind.u8.wrap ((n : Int).fdiv (2 ^ (min s.toNat k.bits))) = ((UInt8.ofNat (n / 2 ^ s.toNat)).toNat : Int) := by
  rw [Nat.min_eq_left hk, Int.fdiv_eq_ediv_of_nonneg _ (Int.le_of_lt (Int.pow_pos (by decide)))]
  have e2 : (n : Int) / 2 ^ s.toNat = ((n / 2 ^ s.toNat : Nat) : Int) := by rw [Int.natCast_ediv, Int.natCast_pow]; rfl
  rw [e2, IntKind.wrap_u8, UInt8.toNat_ofNat']
  omega
theorem byteLow (n : Nat) : IntKind.u8.wrap (n : Int) = ((UInt8.ofNat n).toNat : Int) := by
  rw [IntKind.wrap_u8, UInt8.toNat_ofNat']; omega
theorem conv64 (x : UInt8) : IntKind.i64.wrap (x.toNat : Int) = (x.toNat : Int) := by
  have := x.toNat_lt; exact w64 (by omega)
theorem shl64 (x : UInt8) (s : Int) (hs : s.toNat ≤ 24) : IntKind.i64.wrap ((x.toNat : Int) * 2 ^ (min s.toNat IntKind.i64.bits)) = ((x.toNat * 2 ^ s.toNat : Nat) : Int) := by
  have e : min s.toNat IntKind.i64.bits = s.toNat := Nat.min_eq_left (by show _ ≤ 64; omega)
  have h1 : x.toNat < 256 := x.toNat_lt
  have h2 : 2 ^ s.toNat ≤ 2 ^ 24 := Nat.pow_le_pow_right (by decide) hs
  have h3 : x.toNat * 2 ^ s.toNat ≤ 256 * 2 ^ 24 := Nat.mul_le_mul (by omega) h2
  rw [e]
  have e2 : (x.toNat : Int) * 2 ^ s.toNat = ((x.toNat * 2 ^ s.toNat : Nat) : Int) := by rw [Int.natCast_mul, Int.natCast_pow]; rfl
  rw [e2]
  exact w64 (by omega)
theorem or64 (a b i : Nat) (h : b < 2 ^ i) (hs : a * 2 ^ i + b < 4611686018427387904) :
    IntKind.i64.wrap (BitVec.ofInt IntKind.i64.bits ((a * 2 ^ i : Nat) : Int) ||| BitVec.ofInt IntKind.i64.bits (b : Int)).toNat = ((a * 2 ^ i + b : Nat) : Int) := by
  show IntKind.i64.wrap ((BitVec.ofInt 64 ((a * 2 ^ i : Nat) : Int) ||| BitVec.ofInt 64 (b : Int) : BitVec 64).toNat : Int) = _
  rw [BitVec.toNat_or, BitVec.ofInt_natCast, BitVec.ofInt_natCast, BitVec.toNat_ofNat, BitVec.toNat_ofNat, Nat.mod_eq_of_lt (by omega), Nat.mod_eq_of_lt (by omega), ← Nat.shiftLeft_eq, ← Nat.shiftLeft_add_eq_or_of_lt h, Nat.shiftLeft_eq]
  exact w64 (by omega)

theorem num_four4 (a b c d : UInt8) : num [a, b, c, d] = ((a.toNat * 256 + b.toNat) * 256 + c.toNat) * 256 + d.toNat := by simp [num]
theorem four_num4 (a b c d : UInt8) : four (num [a, b, c, d]) = [a, b, c, d] := by
  have ha : a.toNat < 256 := a.toNat_lt
  have hb : b.toNat < 256 := b.toNat_lt
  have hc : c.toNat < 256 := c.toNat_lt
  have hd : d.toNat < 256 := d.toNat_lt
  rw [num_four4]
  unfold four
  have e : ∀ (x : UInt8) (n : Nat), n % 256 = x.toNat → UInt8.ofNat n = x := fun x n h => by
    apply UInt8.toNat_inj.1
    rw [UInt8.toNat_ofNat']
    omega
  rw [e a _ (by omega), e b _ (by omega), e c _ (by omega), e d _ (by omega)]
theorem len4 {l : List UInt8} (h : l.length = 4) : ∃ a b c d, l = [a, b, c, d] := by
  match l, h with
  | [a, b, c, d], _ => exact ⟨a, b, c, d, rfl⟩
theorem four_num {l : List UInt8} (h : l.length = 4) : four (num l) = l := by
  obtain ⟨a, b, c, d, rfl⟩ := len4 h
  exact four_num4 a b c d
theorem num_four {n : Nat} (h : n < 4294967296) : num (four n) = n := by
  unfold four
  rw [num_four4]
  simp only [UInt8.toNat_ofNat']
  omega
theorem num_lt {l : List UInt8} (h : l.length = 4) : num l < 4294967296 := by
  obtain ⟨a, b, c, d, rfl⟩ := len4 h
  have ha : a.toNat < 256 := a.toNat_lt
  have hb : b.toNat < 256 := b.toNat_lt
  have hc : c.toNat < 256 := c.toNat_lt
  have hd : d.toNat < 256 := d.toNat_lt
  rw [num_four4]; omega
theorem four_len (n : Nat) : (four n).length = 4 := rfl
theorem head_len (p : List UInt8) : (head p).length = 8 := rfl
theorem four_inj {m n : Nat} (hm : m < 4294967296) (hn : n < 4294967296) (h : four m = four n) : m = n := by
  rw [← num_four hm, ← num_four hn, h]

/-- the sum's place: head is what stands there, just if its number is the sum -/
theorem head_eq {b p : List UInt8} (hb : 8 ≤ b.length) (hp : p.length = num (b.take 4)) : head p = b.take 8 ↔ num ((b.drop 4).take 4) = (sumOf p).toNat := by
  have h4 : (b.take 4).length = 4 := by simp; omega
  have h5 : ((b.drop 4).take 4).length = 4 := by simp; omega
  have e : b.take 8 = b.take 4 ++ (b.drop 4).take 4 := by
    rw [← List.take_add]
  unfold head
  rw [e, hp, four_num h4]
  constructor
  · intro h
    have := List.append_cancel_left h
    rw [← this, num_four (sumOf p).isLt]
  · intro h
    rw [← h, four_num h5]
theorem get_short {b : List UInt8} (h : b.length < 8) : get b = ([], 0, 1) := by unfold get; rw [if_pos h]
theorem get_long {b : List UInt8} (h : ¬ b.length < 8) (h2 : 65536 < num (b.take 4)) : get b = ([], 0, 2) := by unfold get; rw [if_neg h, if_pos h2]
theorem get_short2 {b : List UInt8} (h : ¬ b.length < 8) (h2 : ¬ 65536 < num (b.take 4)) (h3 : b.length < 8 + num (b.take 4)) : get b = ([], 0, 1) := by unfold get; rw [if_neg h, if_neg h2, if_pos h3]
theorem get_ok {b : List UInt8} (h : ¬ b.length < 8) (h2 : ¬ 65536 < num (b.take 4)) (h3 : ¬ b.length < 8 + num (b.take 4)) (h4 : head ((b.drop 8).take (num (b.take 4))) = b.take 8) :
    get b = ((b.drop 8).take (num (b.take 4)), 8 + num (b.take 4), 0) := by unfold get; rw [if_neg h, if_neg h2, if_neg h3, if_pos h4]
theorem get_sum {b : List UInt8} (h : ¬ b.length < 8) (h2 : ¬ 65536 < num (b.take 4)) (h3 : ¬ b.length < 8 + num (b.take 4)) (h4 : ¬ head ((b.drop 8).take (num (b.take 4))) = b.take 8) :
    get b = ([], 0, 5) := by unfold get; rw [if_neg h, if_neg h2, if_neg h3, if_neg h4]
theorem put_ok {p : List UInt8} (h : p.length ≤ 65536) : put p = (head p ++ p, 0) := by unfold put; rw [if_pos h]
theorem put_long {p : List UInt8} (h : ¬ p.length ≤ 65536) : put p = ([], 2) := by unfold put; rw [if_neg h]

theorem get_put {p : List UInt8} (h : p.length ≤ 65536) (more : List UInt8) : get (head p ++ p ++ more) = (p, 8 + p.length, 0) := by
  have e4 : (head p ++ p ++ more).take 4 = four p.length := rfl
  have hn : num ((head p ++ p ++ more).take 4) = p.length := by rw [e4]; exact num_four (by omega)
  have ed : ((head p ++ p ++ more).drop 8).take p.length = p := by
    have : (head p ++ p ++ more).drop 8 = p ++ more := by
      rw [List.append_assoc, List.drop_append_of_le_length (by rw [head_len]; exact Nat.le_refl _)]
      rfl
    rw [this, List.take_append_of_le_length (Nat.le_refl _), List.take_of_length_le (Nat.le_refl _)]
  have e8 : (head p ++ p ++ more).take 8 = head p := rfl
  have hlen : (head p ++ p ++ more).length = 8 + p.length + more.length := by simp only [List.length_append, head_len]
  have := get_ok (b := head p ++ p ++ more) (by omega) (by rw [hn]; omega) (by rw [hn]; omega) (by rw [hn, ed, e8])
  rw [this, hn, ed]
theorem get_cases (b : List UInt8) : (get b = ([], 0, 1) ∨ get b = ([], 0, 2) ∨ get b = ([], 0, 5)) ∨
    (¬ b.length < 8 ∧ ¬ 65536 < num (b.take 4) ∧ ¬ b.length < 8 + num (b.take 4) ∧ head ((b.drop 8).take (num (b.take 4))) = b.take 8 ∧ get b = ((b.drop 8).take (num (b.take 4)), 8 + num (b.take 4), 0)) := by
  by_cases h : b.length < 8
  · exact .inl (.inl (get_short h))
  by_cases h2 : 65536 < num (b.take 4)
  · exact .inl (.inr (.inl (get_long h h2)))
  by_cases h3 : b.length < 8 + num (b.take 4)
  · exact .inl (.inl (get_short2 h h2 h3))
  by_cases h4 : head ((b.drop 8).take (num (b.take 4))) = b.take 8
  · exact .inr ⟨h, h2, h3, h4, get_ok h h2 h3 h4⟩
  · exact .inl (.inr (.inr (get_sum h h2 h3 h4)))
theorem get_bad {b : List UInt8} (h : (get b).2.2 ≠ 0) : (get b).1 = [] ∧ (get b).2.1 = 0 := by
  rcases get_cases b with (e | e | e) | ⟨_, _, _, _, e⟩
  · rw [e]; exact ⟨rfl, rfl⟩
  · rw [e]; exact ⟨rfl, rfl⟩
  · rw [e]; exact ⟨rfl, rfl⟩
  · rw [e] at h; exact absurd rfl h
theorem get_good {b : List UInt8} (h : (get b).2.2 = 0) : (get b).1.length ≤ 65536 ∧ (get b).2.1 = 8 + num (b.take 4) ∧ (get b).2.1 ≤ b.length ∧ head (get b).1 ++ (get b).1 = b.take (get b).2.1 := by
  rcases get_cases b with (e | e | e) | ⟨h1, h2, h3, h4, e⟩
  · rw [e] at h; exact absurd h (by decide)
  · rw [e] at h; exact absurd h (by decide)
  · rw [e] at h; exact absurd h (by decide)
  · rw [e]
    refine ⟨by simp; omega, rfl, by show 8 + _ ≤ _; omega, ?_⟩
    show head _ ++ _ = _
    rw [h4, List.take_add]
/-- P3.3: no beginning of a frame is one -/
theorem get_cut {p : List UInt8} (h : p.length ≤ 65536) {q : Nat} (hq : q < 8 + p.length) : get ((head p ++ p).take q) = ([], 0, 1) := by
  by_cases h8 : q < 8
  · exact get_short (by simp; omega)
  · have hl : ((head p ++ p).take q).length = q := by simp [head_len]; omega
    have e4 : ((head p ++ p).take q).take 4 = four p.length := by
      rw [List.take_take, Nat.min_eq_left (by omega)]; rfl
    have hn : num (((head p ++ p).take q).take 4) = p.length := by rw [e4]; exact num_four (by omega)
    exact get_short2 (by omega) (by rw [hn]; omega) (by rw [hn]; omega)
/-- of a frame of whose length a bit is turned -/
theorem get_turned_len {p b : List UInt8} (hp : p.length ≤ 65536) (hl : b.length = 8 + p.length) (ht : b.take 4 ≠ four p.length) : ((get b).2.2 ≠ 0 ∧ (get b).2.1 = 0 ∧ (get b).1 = []) ∨ ((get b).2.2 = 0 ∧ (get b).2.1 < b.length) := by
  by_cases h : (get b).2.2 = 0
  · right
    obtain ⟨_, h2, h3, _⟩ := get_good h
    refine ⟨h, ?_⟩
    have h4 : (b.take 4).length = 4 := by simp; omega
    have : num (b.take 4) ≠ p.length := fun e => ht (by rw [← e, four_num h4])
    omega
  · left
    exact ⟨h, (get_bad h).2, (get_bad h).1⟩
/-- of a frame of whose sum something is turned -/
theorem get_turned_sum {p b : List UInt8} (hp : p.length ≤ 65536) (hl : b.length = 8 + p.length) (h4 : b.take 4 = four p.length) (hd : b.drop 8 = p) (hs : b.take 8 ≠ head p) : get b = ([], 0, 5) := by
  have hn : num (b.take 4) = p.length := by rw [h4]; exact num_four (by omega)
  refine get_sum (by omega) (by rw [hn]; omega) (by rw [hn]; omega) ?_
  rw [hn, hd, List.take_of_length_le (Nat.le_refl _)]
  exact fun e => hs e.symm
/-- of a frame of whose payload something is turned -/
theorem get_turned_load {p b : List UInt8} (hp : p.length ≤ 65536) (hl : b.length = 8 + p.length) (h8 : b.take 8 = head p) (hd : Crc.more (Crc.of (four p.length)) (b.drop 8) ≠ Crc.more (Crc.of (four p.length)) p) : get b = ([], 0, 5) := by
  have h4 : b.take 4 = four p.length := by
    have := congrArg (fun l => l.take 4) h8
    simp only [List.take_take] at this
    exact this
  have hn : num (b.take 4) = p.length := by rw [h4]; exact num_four (by omega)
  refine get_sum (by omega) (by rw [hn]; omega) (by rw [hn]; omega) ?_
  have hdl : (b.drop 8).length = p.length := by simp; omega
  rw [hn, List.take_of_length_le (by omega), h8]
  intro e
  apply hd
  unfold head sumOf at e
  rw [hdl] at e
  have := List.append_cancel_left e
  exact BitVec.eq_of_toNat_eq (four_inj (BitVec.isLt _) (BitVec.isLt _) this)
end Go.Proofs.Ytccbpfbcaogcnaa.Frm
