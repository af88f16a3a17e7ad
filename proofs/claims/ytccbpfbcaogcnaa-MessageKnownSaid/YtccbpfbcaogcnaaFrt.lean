/- A frame of which bits are turned: what is read of it. -/
import Derived.Test.YtccbpfbcaogcnaaFrm
import Derived.Test.YtccbpfbcaogcnaaSumsW
namespace Go.Proofs.Ytccbpfbcaogcnaa
open Go Go.RowKit Kf

theorem bit_drop (l : List UInt8) (n k : Nat) : Crc.bit (l.drop n) k = Crc.bit l (k + 8 * n) := by
  unfold Crc.bit
  have e1 : (k + 8 * n) / 8 = n + k / 8 := by omega
  have e2 : (k + 8 * n) % 8 = k % 8 := by omega
  rw [e1, e2]
  simp [List.getElem?_drop]
theorem bit_take (l : List UInt8) (n k : Nat) (h : k < 8 * n) : Crc.bit (l.take n) k = Crc.bit l k := by
  unfold Crc.bit
  have : k / 8 < n := by omega
  simp [this]
theorem take_eq_bits {a b : List UInt8} (hl : a.length = b.length) (n : Nat) (h : ∀ k, k < 8 * n → Crc.bit a k = Crc.bit b k) : a.take n = b.take n := by
  refine Crc.eq_of_bits (by simp [hl]) fun k => ?_
  by_cases hk : k < 8 * n
  · rw [bit_take _ _ _ hk, bit_take _ _ _ hk, h k hk]
  · rw [Crc.bit_out (by simp; omega), Crc.bit_out (by simp; omega)]
theorem drop_eq_bits {a b : List UInt8} (hl : a.length = b.length) (n : Nat) (h : ∀ k, 8 * n ≤ k → Crc.bit a k = Crc.bit b k) : a.drop n = b.drop n := by
  refine Crc.eq_of_bits (by simp [hl]) fun k => ?_
  rw [bit_drop, bit_drop, h _ (by omega)]
/-- what is turned when the first i bits of the mask have been gone through, between two places -/
def tog2 (at_ : Nat) (m : BitVec 32) (fr to i k : Nat) : Bool := decide (at_ ≤ k) && decide (k < at_ + i) && m.getLsbD (k - at_) && (decide (fr ≤ k / 8) && decide (k / 8 < to))
theorem tog2_succ (at_ : Nat) (m : BitVec 32) (fr to i k : Nat) : tog2 at_ m fr to (i + 1) k = (tog2 at_ m fr to i k ^^ (decide (k = at_ + i) && (m.getLsbD i && (decide (fr ≤ (at_ + i) / 8) && decide ((at_ + i) / 8 < to))))) := by
  unfold tog2
  by_cases h : k = at_ + i
  · subst h
    have e1 : decide (at_ ≤ at_ + i) = true := decide_eq_true (by omega)
    have e2 : decide (at_ + i < at_ + (i + 1)) = true := decide_eq_true (by omega)
    have e3 : decide (at_ + i < at_ + i) = false := decide_eq_false (by omega)
    have e4 : at_ + i - at_ = i := by omega
    rw [e1, e2, e3, e4]
    simp
  · have e1 : decide (k = at_ + i) = false := by simpa using h
    rw [e1, Bool.false_and, Bool.xor_false]
    by_cases h2 : k < at_ + i
    · have e2 : decide (k < at_ + (i + 1)) = true := decide_eq_true (by omega)
      have e3 : decide (k < at_ + i) = true := by simpa using h2
      rw [e2, e3]
    · have e2 : decide (k < at_ + (i + 1)) = false := decide_eq_false (by omega)
      have e3 : decide (k < at_ + i) = false := by simpa using h2
      rw [e2, e3]
/-- the state of the loop behind i rounds -/
structure Turned2 (b C : List UInt8) (at_ : Nat) (m : BitVec 32) (fr to i n : Nat) : Prop where
  len : C.length = b.length
  bits : ∀ k, Crc.bit C k = (Crc.bit b k ^^ tog2 at_ m fr to i k)
  zero : n = 0 ↔ ∀ k, tog2 at_ m fr to i k = false
  le : n ≤ i
theorem Turned2.start (b : List UInt8) (at_ : Nat) (m : BitVec 32) (fr to : Nat) : Turned2 b b at_ m fr to 0 0 := by
  have h : ∀ k, tog2 at_ m fr to 0 k = false := fun k => by
    unfold tog2
    by_cases h : at_ ≤ k
    · have : decide (k < at_ + 0) = false := decide_eq_false (by omega)
      rw [this]; simp
    · have : decide (at_ ≤ k) = false := by simpa using h
      rw [this]; simp
  exact ⟨rfl, fun k => by rw [h]; simp, by simp [h], Nat.le_refl _⟩
theorem Turned2.skip {b C : List UInt8} {at_ : Nat} {m : BitVec 32} {fr to i n : Nat} (h : Turned2 b C at_ m fr to i n) (hs : ¬ (m.getLsbD i = true ∧ fr ≤ (at_ + i) / 8 ∧ (at_ + i) / 8 < to)) : Turned2 b C at_ m fr to (i + 1) n := by
  have hs' : (m.getLsbD i && (decide (fr ≤ (at_ + i) / 8) && decide ((at_ + i) / 8 < to))) = false := by
    rw [Bool.eq_false_iff]
    intro e
    simp only [Bool.and_eq_true, decide_eq_true_eq] at e
    exact hs e
  have e : ∀ k, tog2 at_ m fr to (i + 1) k = tog2 at_ m fr to i k := fun k => by rw [tog2_succ, hs']; simp
  exact ⟨h.len, fun k => by rw [e]; exact h.bits k, by simp only [e]; exact h.zero, by have := h.le; omega⟩
theorem Turned2.turn {b C : List UInt8} {at_ : Nat} {m : BitVec 32} {fr to i n : Nat} (h : Turned2 b C at_ m fr to i n) (h1 : m.getLsbD i = true) (h0 : fr ≤ (at_ + i) / 8) (h2 : (at_ + i) / 8 < to) (h3 : to ≤ b.length) :
    Turned2 b (C.set ((at_ + i) / 8) (C.getD ((at_ + i) / 8) 0 ^^^ one8 ((at_ + i) % 8))) at_ m fr to (i + 1) (n + 1) := by
  have hs : (m.getLsbD i && (decide (fr ≤ (at_ + i) / 8) && decide ((at_ + i) / 8 < to))) = true := by rw [h1, decide_eq_true h0, decide_eq_true h2]; rfl
  refine ⟨by simp [h.len], fun k => ?_, ?_, by have := h.le; omega⟩
  · rw [Crc.bit_turn C (at_ + i) (one8 ((at_ + i) % 8)) (by rw [h.len]; omega) (fun j hj => one8_bit _ _ hj), h.bits, tog2_succ, hs, Bool.and_true, Bool.xor_assoc]
  · constructor
    · intro hn; omega
    · intro hall
      exfalso
      have := hall (at_ + i)
      have h0 : tog2 at_ m fr to i (at_ + i) = false := by
        unfold tog2
        have : decide (at_ + i < at_ + i) = false := by simp
        rw [this]; simp
      rw [tog2_succ, hs, h0] at this
      simp at this
theorem tog2_in {at_ : Nat} {m : BitVec 32} {fr to i k : Nat} (h : tog2 at_ m fr to i k = true) : at_ ≤ k ∧ k < at_ + i ∧ fr ≤ k / 8 ∧ k / 8 < to := by
  unfold tog2 at h
  simp only [Bool.and_eq_true, decide_eq_true_eq] at h
  exact ⟨h.1.1.1, h.1.1.2, h.2.1, h.2.2⟩
theorem tog2_off {at_ : Nat} {m : BitVec 32} {fr to i k : Nat} (h : ¬ (at_ ≤ k ∧ k < at_ + i ∧ fr ≤ k / 8 ∧ k / 8 < to)) : tog2 at_ m fr to i k = false := by
  rw [Bool.eq_false_iff]; exact fun e => h (tog2_in e)
theorem Turned2.same {b C : List UInt8} {at_ : Nat} {m : BitVec 32} {fr to i : Nat} (h : Turned2 b C at_ m fr to i 0) : C = b := by
  refine Crc.eq_of_bits h.len fun k => ?_
  rw [h.bits, h.zero.1 rfl k, Bool.xor_false]
theorem Turned2.not_same {b C : List UInt8} {at_ : Nat} {m : BitVec 32} {fr to i n : Nat} (h : Turned2 b C at_ m fr to i n) (hn : n ≠ 0) : C ≠ b := by
  intro e
  apply hn
  rw [h.zero]
  intro k
  have := h.bits k
  rw [e] at this
  cases ht : tog2 at_ m fr to i k
  · rfl
  · rw [ht] at this; cases hb : Crc.bit b k <;> rw [hb] at this <;> cases this
theorem turned_get {p C : List UInt8} {at_ : Nat} {m : BitVec 32} {fr to n : Nat} (hp : p.length ≤ 65536) (h : Turned2 (Frm.put p).1 C at_ m fr to 32 n)
    (hft : (fr = 4 ∧ to = 8) ∨ (fr = 8 ∧ to = (Frm.put p).1.length ∧ 64 ≤ at_)) :
    (n = 0 → Frm.get C = (p, 8 + p.length, 0)) ∧ (n ≠ 0 → Frm.get C = ([], 0, 5)) := by
  have hput := Frm.put_ok hp
  have hbl : (Frm.put p).1.length = 8 + p.length := by rw [hput]; simp [Frm.head_len]
  constructor
  · intro e
    subst e
    rw [h.same, hput]
    have := Frm.get_put hp []
    rwa [List.append_nil] at this
  · intro hn
    have hb4 : (Frm.put p).1.take 4 = Frm.four p.length := by rw [hput]; rfl
    have hb8 : (Frm.put p).1.take 8 = Frm.head p := by rw [hput]; rfl
    have hbd : (Frm.put p).1.drop 8 = p := by rw [hput]; exact List.drop_left' rfl
    have hl := h.len
    rcases hft with ⟨rfl, rfl⟩ | ⟨rfl, rfl, ha⟩
    · have h4 : C.take 4 = (Frm.put p).1.take 4 := take_eq_bits hl 4 fun k hk => by rw [h.bits, tog2_off (by omega), Bool.xor_false]
      have hd : C.drop 8 = (Frm.put p).1.drop 8 := drop_eq_bits hl 8 fun k hk => by rw [h.bits, tog2_off (by omega), Bool.xor_false]
      refine Frm.get_turned_sum hp (by omega) (by rw [h4, hb4]) (by rw [hd, hbd]) ?_
      intro e
      refine h.not_same hn ?_
      rw [← List.take_append_drop 8 C, ← List.take_append_drop 8 (Frm.put p).1, e, hd, hb8]
    · have h8 : C.take 8 = (Frm.put p).1.take 8 := take_eq_bits hl 8 fun k hk => by rw [h.bits, tog2_off (by omega), Bool.xor_false]
      refine Frm.get_turned_load hp (by omega) (by rw [h8, hb8]) ?_
      intro e
      apply hn
      rw [h.zero]
      have hs := (Crc.seenM (Crc.of (Frm.four p.length)) (b := p) (c := C.drop 8) (t := fun k => tog2 at_ m 8 (Frm.put p).1.length 32 (k + 64)) (at_ := at_ - 64) (by simp; omega)
        (fun k => by rw [bit_drop, h.bits]; rw [show Crc.bit p k = Crc.bit (Frm.put p).1 (k + 8 * 8) by rw [← bit_drop, hbd]])
        (fun i hi => by have := tog2_in hi; omega)).1 e
      intro k
      by_cases hk : 64 ≤ k
      · have := hs (k - 64)
        rwa [show k - 64 + 64 = k by omega] at this
      · exact tog2_off (by omega)
theorem turned_len {p : List UInt8} {q : Nat} (hp : p.length ≤ 65536) (hq : q < 32) {C : List UInt8} (hC : C = (Frm.put p).1.set (q / 8) ((Frm.put p).1.getD (q / 8) 0 ^^^ one8 (q % 8))) :
    ((Frm.get C).2.2 ≠ 0 ∧ (Frm.get C).2.1 = 0 ∧ (Frm.get C).1 = []) ∨ ((Frm.get C).2.2 = 0 ∧ (Frm.get C).2.1 < 8 + p.length) := by
  have hput := Frm.put_ok hp
  have hbl : (Frm.put p).1.length = 8 + p.length := by rw [hput]; simp [Frm.head_len]
  have hb4 : (Frm.put p).1.take 4 = Frm.four p.length := by rw [hput]; rfl
  have hl : C.length = 8 + p.length := by rw [hC]; simp [hbl]
  have hbit : Crc.bit C q = (Crc.bit (Frm.put p).1 q ^^ true) := by
    rw [hC, Crc.bit_turn (Frm.put p).1 q (one8 (q % 8)) (by omega) (fun j hj => one8_bit _ _ hj)]; simp
  have := Frm.get_turned_len hp hl (fun e => by
    rw [← hb4] at e
    have e2 := congrArg (fun l => Crc.bit l q) e
    replace e2 : Crc.bit (C.take 4) q = Crc.bit ((Frm.put p).1.take 4) q := e2
    rw [bit_take _ _ _ (by omega), bit_take _ _ _ (by omega), hbit] at e2
    cases hb : Crc.bit (Frm.put p).1 q <;> rw [hb] at e2 <;> cases e2)
  rwa [hl] at this
end Go.Proofs.Ytccbpfbcaogcnaa
