/- Words of 32 bits as the model's integers. -/
import Derived.Test.YtobjmehppmhkdaaKf
namespace Go.Proofs.Ytobjmehppmhkdaa.Kf
open Go

abbrev u32 (r : BitVec 32) : Value := .int .u32 (r.toNat : Int)

theorem wrap_u32_toNat (n : Nat) (h : n < 4294967296) : IntKind.u32.wrap (n : Int) = n := IntWalk.u32_in _ ⟨by omega, by omega⟩
theorem ofInt_toNat (r : BitVec 32) : BitVec.ofInt IntKind.u32.bits (r.toNat : Int) = r := by
  show BitVec.ofInt 32 (r.toNat : Int) = r
  simp
theorem xor32 (a b : BitVec 32) : IntKind.u32.wrap (BitVec.ofInt IntKind.u32.bits (a.toNat : Int) ^^^ BitVec.ofInt IntKind.u32.bits (b.toNat : Int)).toNat = ((a ^^^ b).toNat : Int) := by
  rw [ofInt_toNat, ofInt_toNat]
  exact wrap_u32_toNat _ (a ^^^ b).isLt
theorem and32 (a b : BitVec 32) : IntKind.u32.wrap (BitVec.ofInt IntKind.u32.bits (a.toNat : Int) &&& BitVec.ofInt IntKind.u32.bits (b.toNat : Int)).toNat = ((a &&& b).toNat : Int) := by
  rw [ofInt_toNat, ofInt_toNat]
  exact wrap_u32_toNat _ (a &&& b).isLt
theorem compl32 (a : BitVec 32) : IntKind.u32.wrap (BitVec.ofInt IntKind.u32.bits (if IntKind.u32.signed then -1 else IntKind.u32.max) ^^^ BitVec.ofInt IntKind.u32.bits (a.toNat : Int)).toNat = ((~~~a).toNat : Int) := by
  show IntKind.u32.wrap ((BitVec.ofInt 32 (if IntKind.u32.signed then -1 else IntKind.u32.max) ^^^ BitVec.ofInt 32 (a.toNat : Int) : BitVec 32).toNat : Int) = _
  have e : BitVec.ofInt 32 (if IntKind.u32.signed then -1 else IntKind.u32.max) = BitVec.allOnes 32 := by decide +kernel
  have e2 : BitVec.ofInt 32 (a.toNat : Int) = a := by simp
  rw [e, e2, BitVec.allOnes_xor]
  exact wrap_u32_toNat _ (~~~a).isLt
theorem shr32 (a : BitVec 32) : (a.toNat : Int).fdiv (2 ^ (min (1 : Int).toNat IntKind.u32.bits)) = ((a >>> 1).toNat : Int) := by
  show (a.toNat : Int).fdiv 2 = _
  rw [Int.fdiv_eq_ediv_of_nonneg _ (by omega), BitVec.toNat_ushiftRight, Nat.shiftRight_eq_div_pow]
  omega
theorem conv8 (c : UInt8) : IntKind.u32.wrap (c.toNat : Int) = ((c.toBitVec.setWidth 32).toNat : Int) := by
  have hc : c.toNat < 256 := c.toNat_lt
  have e : (c.toBitVec.setWidth 32).toNat = c.toNat := by
    simp only [BitVec.toNat_setWidth, UInt8.toNat_toBitVec]
    omega
  rw [e]
  exact wrap_u32_toNat _ (by omega)
theorem ofInt8 (a : UInt8) : BitVec.ofInt 8 (a.toNat : Int) = a.toBitVec := by
  rw [BitVec.ofInt_natCast]
  exact BitVec.eq_of_toNat_eq (by simp)
theorem xor8 (a b : UInt8) : IntKind.u8.wrap (BitVec.ofInt IntKind.u8.bits (a.toNat : Int) ^^^ BitVec.ofInt IntKind.u8.bits (b.toNat : Int)).toNat = ((a ^^^ b).toNat : Int) := by
  show IntKind.u8.wrap ((BitVec.ofInt 8 (a.toNat : Int) ^^^ BitVec.ofInt 8 (b.toNat : Int) : BitVec 8).toNat : Int) = _
  rw [ofInt8, ofInt8]
  have : (a.toBitVec ^^^ b.toBitVec).toNat = (a ^^^ b).toNat := rfl
  rw [this]
  have := (a ^^^ b).toNat_lt
  exact IntWalk.u8_in _ ⟨by omega, by omega⟩
theorem rem32 (a : BitVec 32) : (a.toNat : Int).tmod 2 = ((a &&& 1#32).toNat : Int) := by
  rw [Int.tmod_eq_emod_of_nonneg (by omega), BitVec.toNat_and]
  show _ = ((a.toNat &&& 1 : Nat) : Int)
  rw [Nat.and_one_is_mod]
  omega
theorem quo32 (a : BitVec 32) : IntKind.u32.wrap ((a.toNat : Int).tdiv 2) = ((a >>> 1).toNat : Int) := by
  have := a.isLt
  rw [Int.tdiv_eq_ediv_of_nonneg (by omega), BitVec.toNat_ushiftRight, Nat.shiftRight_eq_div_pow]
  rw [show (a.toNat : Int) / 2 = ((a.toNat / 2 ^ 1 : Nat) : Int) from by omega]
  exact wrap_u32_toNat _ (by omega)
end Go.Proofs.Ytobjmehppmhkdaa.Kf
