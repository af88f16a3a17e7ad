/- The check sum as plain mathematics: by bits, over 32 bits. -/
import Derived.Below
namespace Go.Proofs.Ytccbpfbcaogcnaa.Crc

/-- one bit -/
def step (r : BitVec 32) : BitVec 32 := bif r.getLsbD 0 then (r >>> 1) ^^^ 0x82F63B78#32 else r >>> 1
def steps : Nat → BitVec 32 → BitVec 32
  | 0, r => r
  | n + 1, r => steps n (step r)
def byte (r : BitVec 32) (c : UInt8) : BitVec 32 := steps 8 (r ^^^ c.toBitVec.setWidth 32)
def raw (r : BitVec 32) (l : List UInt8) : BitVec 32 := l.foldl byte r
def more (s : BitVec 32) (l : List UInt8) : BitVec 32 := ~~~ (raw (~~~ s) l)
def of (l : List UInt8) : BitVec 32 := more 0 l

theorem low (a : BitVec 32) : (a &&& 1#32).toNat = if a.getLsbD 0 then 1 else 0 := by
  have h := Nat.and_one_is_mod a.toNat
  rw [BitVec.toNat_and]
  show a.toNat &&& 1 = _
  rw [h]
  have : a.getLsbD 0 = decide (a.toNat % 2 = 1) := by simp [BitVec.getLsbD, Nat.testBit_zero]
  rw [this]
  by_cases hb : a.toNat % 2 = 1
  · simp [hb]
  · have : a.toNat % 2 = 0 := by omega
    simp [this]
theorem step_one {r : BitVec 32} (h : ((r &&& 1#32).toNat : Int) = 1) : (r >>> 1) ^^^ 0x82F63B78#32 = step r := by
  rw [low] at h
  unfold step
  cases hb : r.getLsbD 0
  · rw [hb] at h; simp at h
  · rfl
theorem step_zero {r : BitVec 32} (h : ¬ ((r &&& 1#32).toNat : Int) = 1) : r >>> 1 = step r := by
  rw [low] at h
  unfold step
  cases hb : r.getLsbD 0
  · rfl
  · rw [hb] at h; simp at h
theorem steps_add (m n : Nat) (r : BitVec 32) : steps (m + n) r = steps n (steps m r) := by
  induction m generalizing r with
  | zero => rw [Nat.zero_add]; rfl
  | succ m ih => rw [Nat.succ_add]; exact ih _
theorem steps_succ (k : Nat) (r : BitVec 32) : steps (k + 1) r = step (steps k r) := steps_add k 1 r
theorem raw_append (r : BitVec 32) (l m : List UInt8) : raw r (l ++ m) = raw (raw r l) m := List.foldl_append
theorem raw_take (r : BitVec 32) (l : List UInt8) (k : Nat) (h : k < l.length) : raw r (l.take (k + 1)) = byte (raw r (l.take k)) (l.getD k 0) := by
  rw [List.take_succ_eq_append_getElem h, raw_append]; simp [h]; rfl
theorem more_more (s : BitVec 32) (l m : List UInt8) : more (more s l) m = more s (l ++ m) := by
  simp [more, raw_append]


/-! ### Linear, and no burst is lost -/
theorem step_xor (a b : BitVec 32) : step (a ^^^ b) = step a ^^^ step b := by
  unfold step
  rw [BitVec.getLsbD_xor, BitVec.ushiftRight_xor_distrib]
  cases a.getLsbD 0 <;> cases b.getLsbD 0 <;> simp only [Bool.xor_false, Bool.xor_true, Bool.not_false, Bool.not_true, cond_true, cond_false]
  · rw [BitVec.xor_assoc]
  · rw [BitVec.xor_assoc, BitVec.xor_assoc]
    congr 1
    exact BitVec.xor_comm _ _
  · have : ∀ x y p : BitVec 32, x ^^^ y = x ^^^ p ^^^ (y ^^^ p) := fun x y p => by
      rw [BitVec.xor_assoc, ← BitVec.xor_assoc p, BitVec.xor_comm p y, BitVec.xor_assoc y, BitVec.xor_self, BitVec.xor_zero]
    exact this _ _ _
theorem step_zero' : step 0 = 0 := by decide +kernel
theorem steps_xor (n : Nat) : ∀ a b : BitVec 32, steps n (a ^^^ b) = steps n a ^^^ steps n b := by
  induction n with
  | zero => intro a b; rfl
  | succ n ih => intro a b; simp only [steps]; rw [step_xor, ih]
theorem steps_zero (n : Nat) : steps n 0 = 0 := by
  induction n with
  | zero => rfl
  | succ n ih => simp only [steps]; rw [step_zero', ih]
/-- what stood behind a step is known from what comes -/
theorem step_ne {a : BitVec 32} (h : a ≠ 0) : step a ≠ 0 := by
  intro e
  unfold step at e
  have top : (a >>> 1).getLsbD 31 = false := by simp
  cases hb : a.getLsbD 0
  · rw [hb] at e
    simp only [cond_false] at e
    apply h
    apply BitVec.eq_of_getLsbD_eq
    intro i hi
    cases i with
    | zero => simpa using hb
    | succ i =>
      have := congrArg (fun x => x.getLsbD i) e
      simpa [BitVec.getLsbD_ushiftRight, Nat.add_comm] using this
  · rw [hb] at e
    simp only [cond_true] at e
    have := congrArg (fun x => x.getLsbD 31) e
    simp only [BitVec.getLsbD_xor, top, Bool.false_xor] at this
    revert this
    decide +kernel
theorem steps_ne (n : Nat) : ∀ {a : BitVec 32}, a ≠ 0 → steps n a ≠ 0 := by
  induction n with
  | zero => intro a h; exact h
  | succ n ih => intro a h; exact ih (step_ne h)

/-- two rows laid over one another, of the first one's length -/
def lay (a b : List UInt8) : List UInt8 := List.zipWith (· ^^^ ·) a b
theorem byte_xor (r s : BitVec 32) (c d : UInt8) : byte (r ^^^ s) (c ^^^ d) = byte r c ^^^ byte s d := by
  unfold byte
  rw [← steps_xor]
  congr 1
  have : (c ^^^ d).toBitVec.setWidth 32 = c.toBitVec.setWidth 32 ^^^ d.toBitVec.setWidth 32 := by
    show (c.toBitVec ^^^ d.toBitVec).setWidth 32 = _
    exact BitVec.setWidth_xor
  rw [this]
  generalize c.toBitVec.setWidth 32 = x
  generalize d.toBitVec.setWidth 32 = y
  rw [BitVec.xor_assoc, BitVec.xor_assoc]
  congr 1
  rw [← BitVec.xor_assoc, ← BitVec.xor_assoc, BitVec.xor_comm s x]
theorem raw_lay : ∀ (a b : List UInt8) (r s : BitVec 32), a.length = b.length → raw (r ^^^ s) (lay a b) = raw r a ^^^ raw s b
  | [], [], r, s, _ => rfl
  | c :: a, d :: b, r, s, h => by
    simp only [lay, List.zipWith_cons_cons, raw, List.foldl_cons]
    rw [byte_xor]
    exact raw_lay a b _ _ (by simpa using h)
  | [], _ :: _, _, _, h => by simp at h
  | _ :: _, [], _, _, h => by simp at h

/-- the sum of noughts' part -/
theorem of_lay (a b : List UInt8) (h : a.length = b.length) : of (lay a b) = of a ^^^ raw 0 b := by
  unfold of more
  have := raw_lay a b (~~~ 0) 0 h
  rw [show (~~~ 0 ^^^ 0 : BitVec 32) = ~~~ 0 from BitVec.xor_zero] at this
  rw [this, BitVec.not_xor_left]
theorem raw_zeros (n : Nat) : raw 0 (List.replicate n 0) = 0 := by
  induction n with
  | zero => rfl
  | succ n ih =>
    rw [List.replicate_succ]
    simp only [raw, List.foldl_cons] at ih ⊢
    have : byte 0 0 = 0 := by decide +kernel
    rw [this]; exact ih
theorem lay_self (a : List UInt8) : lay a a = List.replicate a.length 0 := by
  induction a with
  | nil => rfl
  | cons c a ih => simp only [lay, List.zipWith_cons_cons, UInt8.xor_self, List.length_cons, List.replicate_succ] at ih ⊢; rw [ih]
theorem lay_zeros (a : List UInt8) : lay a (List.replicate a.length 0) = a := by
  induction a with
  | nil => rfl
  | cons c a ih => simp only [lay, List.length_cons, List.replicate_succ, List.zipWith_cons_cons, UInt8.xor_zero] at ih ⊢; rw [ih]
theorem lay_comm (a b : List UInt8) : lay a b = lay b a := by
  unfold lay; exact List.zipWith_comm_of_comm (fun x y => UInt8.xor_comm x y)
/-- P1.5 -/
theorem laid (a b : List UInt8) (h : a.length = b.length) : of a ^^^ of b ^^^ of (lay a b) = of (List.replicate a.length 0) := by
  have hb : of b = of (List.replicate a.length 0) ^^^ raw 0 b := by
    have := of_lay (List.replicate a.length 0) b (by simpa using h)
    rw [lay_comm, show lay b (List.replicate a.length 0) = b from by rw [h]; exact lay_zeros b] at this
    exact this
  rw [of_lay a b h, hb]
  generalize of a = x
  generalize of (List.replicate a.length 0) = y
  generalize raw 0 b = z
  rw [BitVec.xor_comm x (y ^^^ z), BitVec.xor_assoc (y ^^^ z) x, ← BitVec.xor_assoc x x, BitVec.xor_self, BitVec.zero_xor, BitVec.xor_assoc, BitVec.xor_self, BitVec.xor_zero]

/-! ### Bits -/
/-- bit k of a row -/
def bit (l : List UInt8) (k : Nat) : Bool := (l.getD (k / 8) 0).toBitVec.getLsbD (k % 8)
/-- the sum, bit by bit -/
def bits (r : BitVec 32) (f : Nat → Bool) : Nat → BitVec 32
  | 0 => r
  | n + 1 => step (bits r f n ^^^ (BitVec.ofBool (f n)).setWidth 32)

theorem bits_succ (r : BitVec 32) (f : Nat → Bool) (n : Nat) : bits r f (n + 1) = step (bits r f n ^^^ (BitVec.ofBool (f n)).setWidth 32) := rfl
theorem bits_add (r : BitVec 32) (f : Nat → Bool) (m : Nat) : ∀ n, bits r f (m + n) = bits (bits r f m) (fun i => f (m + i)) n
  | 0 => rfl
  | n + 1 => by rw [← Nat.add_assoc, bits_succ, bits_succ, bits_add r f m n]
theorem bits_congr (r : BitVec 32) {f g : Nat → Bool} : ∀ n, (∀ i, i < n → f i = g i) → bits r f n = bits r g n
  | 0, _ => rfl
  | n + 1, h => by rw [bits_succ, bits_succ, bits_congr r n (fun i hi => h i (by omega)), h n (by omega)]
theorem step_low (z : BitVec 32) : step z = step ((BitVec.ofBool (z.getLsbD 0)).setWidth 32) ^^^ (z >>> 1) := by
  unfold step
  cases h : z.getLsbD 0
  · have e : ((BitVec.ofBool false).setWidth 32 : BitVec 32) = 0#32 := by decide +kernel
    rw [e]
    have e2 : ((0#32 : BitVec 32).getLsbD 0) = false := by decide +kernel
    have e3 : (0#32 >>> 1 : BitVec 32) = 0#32 := by decide +kernel
    rw [e2, e3]
    simp only [cond_false]
    exact (BitVec.zero_xor).symm
  · have e : ((BitVec.ofBool true).setWidth 32 : BitVec 32) = 1#32 := by decide +kernel
    rw [e]
    have e2 : ((1#32 : BitVec 32).getLsbD 0) = true := by decide +kernel
    have e3 : (1#32 >>> 1 : BitVec 32) = 0#32 := by decide +kernel
    rw [e2, e3]
    simp only [cond_true]
    rw [show (0#32 ^^^ 0x82F63B78#32 : BitVec 32) = 0x82F63B78#32 from BitVec.zero_xor]
    exact BitVec.xor_comm _ _
theorem steps_word (r x : BitVec 32) : ∀ n, steps n (r ^^^ x) = bits r (fun i => x.getLsbD i) n ^^^ (x >>> n)
  | 0 => by simp [steps, bits]
  | n + 1 => by
    rw [steps_succ, steps_word r x n, bits_succ, step_xor, step_xor, step_low (x >>> n)]
    have e : (x >>> n).getLsbD 0 = x.getLsbD n := by simp
    rw [e, ← BitVec.xor_assoc]
    congr 1
theorem byte_bits (r : BitVec 32) (c : UInt8) : byte r c = bits r (fun i => c.toBitVec.getLsbD i) 8 := by
  unfold byte
  rw [steps_word]
  have e : (c.toBitVec.setWidth 32 >>> 8 : BitVec 32) = 0 := by
    apply BitVec.eq_of_toNat_eq
    have : c.toNat < 256 := c.toNat_lt
    simp only [BitVec.toNat_ushiftRight, BitVec.toNat_setWidth, UInt8.toNat_toBitVec, Nat.shiftRight_eq_div_pow]
    simp
    omega
  rw [e]
  rw [show ∀ x : BitVec 32, x ^^^ 0 = x from fun x => BitVec.xor_zero]
  refine bits_congr r 8 fun i hi => ?_
  simp only [BitVec.getLsbD_setWidth]
  have : decide (i < 32) = true := by simp; omega
  rw [this, Bool.true_and]
theorem raw_bits : ∀ (l : List UInt8) (r : BitVec 32), raw r l = bits r (bit l) (8 * l.length)
  | [], _ => rfl
  | c :: l, r => by
    have h : raw r (c :: l) = raw (byte r c) l := rfl
    rw [h, raw_bits l, byte_bits, show 8 * (c :: l).length = 8 + 8 * l.length by simp [Nat.mul_add, Nat.add_comm], bits_add]
    have e1 : bits r (fun i => c.toBitVec.getLsbD i) 8 = bits r (bit (c :: l)) 8 := by
      refine bits_congr r 8 fun i hi => ?_
      have h1 : i / 8 = 0 := by omega
      have h2 : i % 8 = i := by omega
      simp [bit, h1, h2]
    rw [e1]
    refine bits_congr _ _ fun i _ => ?_
    have h1 : (8 + i) / 8 = i / 8 + 1 := by omega
    have h2 : (8 + i) % 8 = i % 8 := by omega
    simp [bit, h1, h2]
theorem bits_zeros (r : BitVec 32) (f : Nat → Bool) : ∀ n, (∀ i, i < n → f i = false) → bits r f n = steps n r
  | 0, _ => rfl
  | n + 1, h => by
    rw [bits_succ, bits_zeros r f n (fun i hi => h i (by omega)), h n (by omega), steps_succ]
    congr 1
    have e : ((BitVec.ofBool false).setWidth 32 : BitVec 32) = 0 := by decide +kernel
    rw [e]; exact BitVec.xor_zero
/-- the first n bits as a word -/
def word (f : Nat → Bool) : Nat → BitVec 32
  | 0 => 0
  | n + 1 => word f n ||| ((BitVec.ofBool (f n)).setWidth 32 <<< n)
theorem word_bit (f : Nat → Bool) : ∀ n, n ≤ 32 → ∀ i, (word f n).getLsbD i = (decide (i < n) && f i)
  | 0, _, i => by simp [word]
  | n + 1, hn, i => by
    simp only [word, BitVec.getLsbD_or, word_bit f n (by omega) i, BitVec.getLsbD_shiftLeft, BitVec.getLsbD_setWidth, BitVec.getLsbD_ofBool]
    by_cases h1 : i < n
    · have h2 : decide (i < n) = true := by simpa using h1
      have h3 : decide (i < n + 1) = true := by simp; omega
      simp [h2, h3]
    · by_cases h2 : i = n
      · subst h2
        have h4 : decide (i < 32) = true := by simp; omega
        simp [h4]
      · have h3 : ¬ i < n + 1 := by omega
        have h4 : ¬ (i - n = 0) := by omega
        simp [h1, h3, h4]
/-- **No burst is lost**: bits within 32 side by side, one of them at least set, leave a sum. -/
theorem burst {f : Nat → Bool} {at_ n k : Nat} (hf : ∀ i, f i = true → at_ ≤ i ∧ i < at_ + 32) (hk : k < n) (hfk : f k = true) : bits 0 f n ≠ 0 := by
  have hka := hf k hfk
  have before : bits 0 f at_ = 0 := by
    rw [bits_zeros 0 f at_ (fun i hi => by
      cases h : f i
      · rfl
      · have := hf i h; omega)]
    exact steps_zero at_
  have e1 : n = at_ + (n - at_) := by omega
  rw [e1, bits_add, before]
  have e2 : n - at_ = min 32 (n - at_) + (n - at_ - min 32 (n - at_)) := by omega
  rw [e2, bits_add]
  rw [bits_zeros _ _ (n - at_ - min 32 (n - at_)) (fun i hi => by
    cases h : f (at_ + (min 32 (n - at_) + i))
    · rfl
    · have := hf _ h; omega)]
  apply steps_ne
  have hm : min 32 (n - at_) ≤ 32 := Nat.min_le_left _ _
  have hs := steps_word 0 (word (fun i => f (at_ + i)) (min 32 (n - at_))) (min 32 (n - at_))
  have hz : (word (fun i => f (at_ + i)) (min 32 (n - at_)) >>> (min 32 (n - at_)) : BitVec 32) = 0 := by
    apply BitVec.eq_of_getLsbD_eq
    intro i hi
    rw [BitVec.getLsbD_ushiftRight, word_bit _ _ hm]
    have : ¬ (min 32 (n - at_) + i < min 32 (n - at_)) := by omega
    simp [this]
  rw [hz, show ∀ x : BitVec 32, x ^^^ 0 = x from fun x => BitVec.xor_zero, show ∀ x : BitVec 32, 0 ^^^ x = x from fun x => BitVec.zero_xor] at hs
  have hc : bits 0 (fun i => (word (fun i => f (at_ + i)) (min 32 (n - at_))).getLsbD i) (min 32 (n - at_)) = bits 0 (fun i => f (at_ + i)) (min 32 (n - at_)) :=
    bits_congr _ _ fun i hi => by rw [word_bit _ _ hm]; simp [hi]
  rw [← hc, ← hs]
  apply steps_ne
  intro e
  have := congrArg (fun x => x.getLsbD (k - at_)) e
  simp only [word_bit _ _ hm] at this
  rw [show at_ + (k - at_) = k by omega, hfk] at this
  have h2 : k - at_ < min 32 (n - at_) := by omega
  simp [h2] at this

theorem bit_out {l : List UInt8} {k : Nat} (h : l.length ≤ k / 8) : bit l k = false := by
  simp [bit, List.getElem?_eq_none h]
theorem bit_lay (a b : List UInt8) (h : a.length = b.length) (k : Nat) : bit (lay a b) k = (bit a k ^^ bit b k) := by
  unfold bit lay
  by_cases hk : k / 8 < a.length
  · have e1 : (List.zipWith (· ^^^ ·) a b).getD (k / 8) 0 = a.getD (k / 8) 0 ^^^ b.getD (k / 8) 0 := by
      simp [List.getElem?_zipWith, List.getElem?_eq_getElem hk, List.getElem?_eq_getElem (show k / 8 < b.length by omega)]
    rw [e1]
    exact BitVec.getLsbD_xor
  · have e1 : (List.zipWith (· ^^^ ·) a b).getD (k / 8) 0 = 0 := by
      rw [List.getD_eq_getElem?_getD, List.getElem?_eq_none (by simp; omega)]; rfl
    have e2 : a.getD (k / 8) 0 = 0 := by rw [List.getD_eq_getElem?_getD, List.getElem?_eq_none (by omega)]; rfl
    have e3 : b.getD (k / 8) 0 = 0 := by rw [List.getD_eq_getElem?_getD, List.getElem?_eq_none (by omega)]; rfl
    rw [e1, e2, e3]
    simp
theorem eq_of_bits {a b : List UInt8} (h : a.length = b.length) (hb : ∀ k, bit a k = bit b k) : a = b := by
  apply List.ext_getElem h
  intro i h1 h2
  apply UInt8.eq_of_toBitVec_eq
  apply BitVec.eq_of_getLsbD_eq
  intro j hj
  have := hb (8 * i + j)
  have e1 : (8 * i + j) / 8 = i := by omega
  have e2 : (8 * i + j) % 8 = j := by omega
  simpa [bit, e1, e2, List.getElem?_eq_getElem h1, List.getElem?_eq_getElem h2] using this
/-- one bit turned -/
theorem bit_turn (l : List UInt8) (p : Nat) (m : UInt8) (hp : p / 8 < l.length) (hm : ∀ j, j < 8 → m.toBitVec.getLsbD j = decide (j = p % 8)) (k : Nat) :
    bit (l.set (p / 8) (l.getD (p / 8) 0 ^^^ m)) k = (bit l k ^^ decide (k = p)) := by
  unfold bit
  by_cases hk : k / 8 = p / 8
  · rw [hk]
    have e : (l.set (p / 8) (l.getD (p / 8) 0 ^^^ m)).getD (p / 8) 0 = l.getD (p / 8) 0 ^^^ m := by simp [hp]
    rw [e]
    have e2 : (l.getD (p / 8) 0 ^^^ m).toBitVec.getLsbD (k % 8) = ((l.getD (p / 8) 0).toBitVec.getLsbD (k % 8) ^^ m.toBitVec.getLsbD (k % 8)) := BitVec.getLsbD_xor
    rw [e2, hm _ (by omega)]
    congr 1
    by_cases h : k = p
    · subst h; simp
    · have : ¬ (k % 8 = p % 8) := by omega
      simp [h, this]
  · have e : (l.set (p / 8) (l.getD (p / 8) 0 ^^^ m)).getD (k / 8) 0 = l.getD (k / 8) 0 := by
      simp only [List.getD_eq_getElem?_getD]
      rw [List.getElem?_set_ne (fun e => hk e.symm)]
    rw [e]
    have : ¬ (k = p) := fun e => hk (by rw [e])
    simp [this]
theorem more_lay (s : BitVec 32) (a b : List UInt8) (h : a.length = b.length) : more s (lay a b) = more s a ^^^ raw 0 b := by
  unfold more
  have := raw_lay a b (~~~ s) 0 h
  rw [show (~~~ s ^^^ 0 : BitVec 32) = ~~~ s from BitVec.xor_zero] at this
  rw [this, BitVec.not_xor_left]
/-- P1.4: rows that differ within 32 bits side by side have another sum, rows that do not differ the same. -/
theorem seenM (s : BitVec 32) {b c : List UInt8} {t : Nat → Bool} {at_ : Nat} (hl : c.length = b.length) (hb : ∀ k, bit c k = (bit b k ^^ t k)) (ht : ∀ i, t i = true → at_ ≤ i ∧ i < at_ + 32) : more s c = more s b ↔ ∀ k, t k = false := by
  have hd : ∀ k, bit (lay b c) k = t k := fun k => by rw [bit_lay b c hl.symm, hb]; cases bit b k <;> cases t k <;> rfl
  have hoc : more s c = more s b ^^^ raw 0 (lay b c) := by
    have h1 : lay b (lay b c) = c := by
      apply eq_of_bits (by simp [lay, hl])
      intro k
      rw [bit_lay b _ (by simp [lay, hl]), hd, hb]
    rw [← more_lay s b (lay b c) (by simp [lay, hl]), h1]
  constructor
  · intro h k
    cases ht' : t k
    · rfl
    · exfalso
      have hk : k < 8 * (lay b c).length := by
        rcases Nat.lt_or_ge (k / 8) (lay b c).length with h' | h'
        · omega
        · have := bit_out h'; rw [hd, ht'] at this; cases this
      have := burst (f := bit (lay b c)) (at_ := at_) (n := 8 * (lay b c).length) (k := k) (fun i hi => ht i (by rw [← hd]; exact hi)) hk (by rw [hd]; exact ht')
      rw [← raw_bits] at this
      rw [hoc] at h
      apply this
      have h2 := congrArg (fun x => more s b ^^^ x) h
      simp only [← BitVec.xor_assoc, BitVec.xor_self, BitVec.zero_xor] at h2
      exact h2
  · intro h
    have : c = b := eq_of_bits hl fun k => by rw [hb, h]; simp
    rw [this]
theorem seen {b c : List UInt8} {t : Nat → Bool} {at_ : Nat} (hl : c.length = b.length) (hb : ∀ k, bit c k = (bit b k ^^ t k)) (ht : ∀ i, t i = true → at_ ≤ i ∧ i < at_ + 32) : of c = of b ↔ ∀ k, t k = false := seenM 0 hl hb ht

end Go.Proofs.Ytccbpfbcaogcnaa.Crc
