/- What an object's blocks are (its footprint), and writes within them. -/
import Derived.Test.YtjmddkaokmdkbaaMap
import Derived.Test.YtjmddkaokmdkbaaChg
namespace Go.Proofs.Ytjmddkaokmdkbaa.Kf
open Go Go.RowKit
/-- a block, wherever it stands: changes within the blocks of S, and new ones -/
structure ChgS (S : Nat → Prop) (w w' : World) : Prop where
  os : w'.os = w.os
  tape : w'.tape = w.tape
  output : w'.output = w.output
  size : w.heap.size ≤ w'.heap.size
  block : ∀ i, i < w.heap.size → ¬ S i → w'.heap[i]? = w.heap[i]?
section
variable {S S' : Nat → Prop} {a b c w w' : World}
theorem ChgS.refl (S : Nat → Prop) (w : World) : ChgS S w w := ⟨rfl, rfl, rfl, Nat.le_refl _, fun _ _ _ => rfl⟩
theorem ChgS.ext (h : ChgS S a b) (k : Ext b c) : ChgS S a c :=
  ⟨k.os.trans h.os, k.tape.trans h.tape, k.output.trans h.output, Nat.le_trans h.size k.size, fun i hi hn => (k.block i (Nat.lt_of_lt_of_le hi h.size) (by simp)).trans (h.block i hi hn)⟩
theorem ChgS.row {r : Option Nat} (h : ChgS S a b) (k : b.grownBy c r) (hr : ∀ g, r = some g → S g ∨ a.heap.size ≤ g) : ChgS S a c :=
  ⟨k.os.trans h.os, k.tape.trans h.tape, k.output.trans h.output, Nat.le_trans h.size k.size, fun i hi hn => (k.block i (Nat.lt_of_lt_of_le hi h.size) (fun e => by rcases hr i e.symm with h | h; exact hn h; omega)).trans (h.block i hi hn)⟩
theorem ChgS.row1 {g : Nat} (h : ChgS S a b) (k : b.grownBy c (some g)) (hr : S g ∨ a.heap.size ≤ g) : ChgS S a c := h.row k (fun g' e => by injection e with e; exact e ▸ hr)
theorem ChgS.trans (h : ChgS S a b) (k : ChgS S' b c) (hs : ∀ i, S' i → S i ∨ a.heap.size ≤ i) : ChgS S a c :=
  ⟨k.os.trans h.os, k.tape.trans h.tape, k.output.trans h.output, Nat.le_trans h.size k.size, fun i hi hn => (k.block i (Nat.lt_of_lt_of_le hi h.size) (fun e => by rcases hs i e with h | h; exact hn h; omega)).trans (h.block i hi hn)⟩
theorem ChgS.mono (h : ChgS S a b) (hs : ∀ i, S i → S' i) : ChgS S' a b := ⟨h.os, h.tape, h.output, h.size, fun i hi hn => h.block i hi fun e => hn (hs i e)⟩
theorem ChgS.of_ext (h : Ext a b) : ChgS S a b := (ChgS.refl S a).ext h
/-- all of it is new, from an earlier world's side -/
theorem ChgS.toExt (h : Ext a b) (k : ChgS S b c) (hs : ∀ i, S i → a.heap.size ≤ i) : Ext a c :=
  ⟨k.os.trans h.os, k.tape.trans h.tape, k.output.trans h.output, Nat.le_trans h.size k.size, fun i hi _ => (k.block i (Nat.lt_of_lt_of_le hi h.size) (fun e => by have := hs i e; omega)).trans (h.block i hi (by simp))⟩
theorem Blk.chgS {g : Nat} {e : TypeId} {cs : List Value} (h : Blk w g e cs) (k : ChgS S w w') (hne : ¬ S g) : Blk w' g e cs := ⟨(k.block g h.lt hne).trans h.heap⟩
theorem MapB.chgS {κ : Type} {enc : κ → Value} {g : Nat} {l : List (κ × Value)} (h : MapB enc w g l) (k : ChgS S w w') (hne : ¬ S g) : MapB enc w' g l := by
  obtain ⟨es, c, h1, h2⟩ := h.heap
  exact ⟨es, c, (k.block g h.lt hne).trans h1, h2⟩
theorem own_chgS {B n sz : Nat} {v : Value} {e : TypeId} {xs : List Value} (h : w.ownsRow B e sz v n xs) (k : ChgS S w w') (hne : ∀ b, v.ownBlock = some b → ¬ S b) : w'.ownsRow B e sz v n xs := by
  refine ⟨h.1, ?_⟩
  rcases h.2 with hn | ⟨g, cap, cur, rfl, hb, hgg, rest⟩
  · exact .inl hn
  · exact .inr ⟨g, cap, cur, rfl, hb, (k.block g (h.lt g rfl).2 (hne g rfl)).trans hgg, rest⟩
end
/-- what each block of an object is -/
abbrev Fp (ρ : Type) := Nat → Option ρ
section
variable {ρ : Type} {F F' F'' : Fp ρ} {w w' w'' : World} {a b g : Nat} {r r' : ρ}
def Fp.on (F : Fp ρ) : Nat → Prop := fun b => F b ≠ none
def Fp.sub (F F' : Fp ρ) : Prop := ∀ b r, F b = some r → F' b = some r
def Fp.below (F : Fp ρ) (w : World) : Prop := ∀ b, F b ≠ none → b < w.heap.size
/-- what there was, and new blocks -/
structure Fp.le (F : Fp ρ) (w : World) (F' : Fp ρ) : Prop where
  sub : F.sub F'
  new : ∀ b, F' b ≠ none → F b ≠ none ∨ w.heap.size ≤ b
def Fp.put (F : Fp ρ) (g : Nat) (r : ρ) : Fp ρ := fun b => if b = g then some r else F b
def Fp.own (F : Fp ρ) (v : Value) (r : ρ) : Fp ρ := fun b => if v.ownBlock = some b then some r else F b
theorem Fp.sub_refl (F : Fp ρ) : F.sub F := fun _ _ h => h
theorem Fp.le_refl (F : Fp ρ) (w : World) : F.le w F := ⟨F.sub_refl, fun _ h => .inl h⟩
theorem Fp.le_trans (h : F.le w F') (k : F'.le w' F'') (hs : w.heap.size ≤ w'.heap.size) : F.le w F'' :=
  ⟨fun b r e => k.sub b r (h.sub b r e), fun b e => by rcases k.new b e with h1 | h1; exact h.new b h1; exact .inr (by omega)⟩
theorem Fp.ne (h1 : F a = some r) (h2 : F b = some r') (h : r ≠ r') : a ≠ b := fun e => h (by rw [e, h2] at h1; injection h1 with e; exact e.symm)
theorem Fp.lt (h : F.below w) (h1 : F a = some r) : a < w.heap.size := h a (by rw [h1]; simp)
theorem Fp.fresh (h : F.below w) (h1 : w.heap.size ≤ a) : F a = none := by
  cases e : F a with
  | none => rfl
  | some r => have := Fp.lt h e; omega
theorem Fp.below_le (h : F.below w) (k : w.heap.size ≤ w'.heap.size) : F.below w' := fun b hb => Nat.lt_of_lt_of_le (h b hb) k
theorem Fp.put_at : (F.put g r) g = some r := if_pos rfl
theorem Fp.put_ne (h : a ≠ g) : (F.put g r) a = F a := if_neg h
theorem Fp.put_le (h : F g = some r ∨ F g = none ∧ w.heap.size ≤ g) : F.le w (F.put g r) := by
  refine ⟨fun b r' e => ?_, fun b e => ?_⟩
  · unfold Fp.put; split
    · rename_i hb; subst hb
      rcases h with h | h
      · rw [← e, h]
      · rw [h.1] at e; cases e
    · exact e
  · unfold Fp.put at e; split at e
    · rename_i hb; subst hb
      rcases h with h | h
      · exact .inl (by rw [h]; simp)
      · exact .inr h.2
    · exact .inl e
theorem Fp.put_below (h : F.below w) (hg : g < w.heap.size) : (F.put g r).below w := fun b e => by
  unfold Fp.put at e; split at e
  · rename_i hb; omega
  · exact h b e
theorem Fp.own_le {v : Value} (h : ∀ b, v.ownBlock = some b → F b = some r ∨ F b = none ∧ w.heap.size ≤ b) : F.le w (F.own v r) := by
  refine ⟨fun b r' e => ?_, fun b e => ?_⟩
  · unfold Fp.own; split
    · rename_i hb
      rcases h b hb with h | h
      · rw [← e, h]
      · rw [h.1] at e; cases e
    · exact e
  · unfold Fp.own at e; split at e
    · rename_i hb
      rcases h b hb with h | h
      · exact .inl (by rw [h]; simp)
      · exact .inr h.2
    · exact .inl e
theorem Fp.own_below {v : Value} (h : F.below w) (hg : ∀ b, v.ownBlock = some b → b < w.heap.size) : (F.own v r).below w := fun b e => by
  unfold Fp.own at e; split at e
  · rename_i hb; exact hg b hb
  · exact h b e
theorem Fp.own_at {v : Value} (h : v.ownBlock = some b) : (F.own v r) b = some r := if_pos h
/-- a row of the object's own -/
structure RowF (w : World) (F : Fp ρ) (r : ρ) (e : TypeId) (sz : Nat) (v : Value) (n : Nat) (cs : List Value) : Prop where
  own : w.ownsRow 0 e sz v n cs
  fp : ∀ b, v.ownBlock = some b → F b = some r
variable {e : TypeId} {sz n : Nat} {v : Value} {cs : List Value} {S : Nat → Prop}
theorem RowF.sub (h : RowF w F r e sz v n cs) (k : F.sub F') : RowF w F' r e sz v n cs := ⟨h.own, fun b hb => k b r (h.fp b hb)⟩
theorem RowF.ext (h : RowF w F r e sz v n cs) (k : Ext w w') : RowF w' F r e sz v n cs := ⟨own_ext h.own k, h.fp⟩
theorem RowF.chgS (h : RowF w F r e sz v n cs) (k : ChgS S w w') (hs : ∀ b, F b = some r → ¬ S b) : RowF w' F r e sz v n cs := ⟨own_chgS h.own k fun b hb => hs b (h.fp b hb), h.fp⟩
theorem RowF.rd (h : RowF w F r e sz v n cs) : Row w v n sz cs := Row.of_own h.own
theorem RowF.nil (w : World) (F : Fp ρ) (r : ρ) (e : TypeId) (sz : Nat) : RowF w F r e sz (.slice none 0 0) 0 [] := ⟨World.ownsRow_nil w 0 e sz, fun b hb => by cases hb⟩
theorem RowF.mk' {B : Nat} (h : w.ownsRow B e sz v n cs) : RowF w (F.own v r) r e sz v n cs := ⟨own_mono h (Nat.zero_le _), fun b hb => Fp.own_at hb⟩
/-- the same, with the bounds that omega can use -/
theorem RowF.outT (h : RowF w F r e sz v n cs) : ∃ B T, OwnT w B T e sz v n cs ∧ T ≤ w.heap.size ∧ (∀ b, v.ownBlock = some b → B ≤ b ∧ b < T) ∧ ∀ g r', F g = some r' → r' ≠ r → g < B ∨ T ≤ g := by
  cases hb : v.ownBlock with
  | none => exact ⟨0, 0, ⟨h.own, fun b e => by rw [hb] at e; cases e⟩, Nat.zero_le _, (fun b e => by cases e), fun g r' _ _ => .inr (Nat.zero_le _)⟩
  | some b =>
    have hl := h.own.lt b hb
    refine ⟨b, b + 1, ⟨?_, fun b' e => by rw [hb] at e; injection e with e; omega⟩, hl.2, (fun b' e => by injection e with e; omega), fun g r' h1 h2 => ?_⟩
    · refine ⟨h.own.1, ?_⟩
      rcases h.own.2 with hn | ⟨g, cap, cur, rfl, _, rest⟩
      · exact .inl hn
      · have : g = b := by simpa [Value.ownBlock] using hb
        exact .inr ⟨g, cap, cur, rfl, by omega, rest⟩
    · have := Fp.ne h1 (h.fp b hb) h2
      omega
end
end Go.Proofs.Ytjmddkaokmdkbaa.Kf
