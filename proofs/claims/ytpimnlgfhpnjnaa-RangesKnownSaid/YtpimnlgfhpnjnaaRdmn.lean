/- What bytes are read as: lists of things, maps, directories; as plain mathematics, and readers that may be carried on. -/
import Derived.Test.YtpimnlgfhpnjnaaDirn
import Derived.Test.YtpimnlgfhpnjnaaPackQ
namespace Go.Proofs.Ytpimnlgfhpnjnaa
open Go Go.RowKit Kf
set_option maxRecDepth 20000
theorem int_rng (s : Pk.RS) : In1 s.int.1 := by
  unfold Pk.RS.int
  split
  · exact ⟨by decide, by decide⟩
  · show In1 (Pk.dec _)
    unfold Pk.dec In1
    rw [IntKind.wrap_i64]; omega
theorem int_le (s : Pk.RS) : s.int.2.left.length ≤ s.left.length := by
  unfold Pk.RS.int
  split
  · exact Nat.zero_le _
  · show (s.left.drop 8).length ≤ _; simp
theorem take_le (s : Pk.RS) (n : Int) : (s.take n).1.length ≤ s.left.length ∧ (s.take n).2.left.length ≤ s.left.length := by
  unfold Pk.RS.take
  split
  · exact ⟨Nat.zero_le _, Nat.zero_le _⟩
  · constructor
    · show (s.left.take _).length ≤ _; simp; omega
    · show (s.left.drop _).length ≤ _; simp
theorem blob_le (s : Pk.RS) : s.blob.1.length ≤ s.left.length ∧ s.blob.2.left.length ≤ s.left.length := by
  have h := take_le s.int.2 s.int.1
  have := int_le s
  exact ⟨Nat.le_trans h.1 this, Nat.le_trans h.2 this⟩
theorem int_sticky {s : Pk.RS} (h : s.bad = true) : s.int = (0, .dead) := if_pos (.inl h)
theorem take_sticky {s : Pk.RS} (n : Int) (h : s.bad = true) : s.take n = ([], .dead) := if_pos (.inl h)
theorem int_bad1 {s : Pk.RS} (h : s.bad = true) : s.int.2.bad = true := by rw [int_sticky h]; rfl
theorem blob_bad1 {s : Pk.RS} (h : s.bad = true) : s.blob.2.bad = true := by
  unfold Pk.RS.blob; rw [take_sticky _ (int_bad1 h)]; rfl
/-! ### Lists of things -/
def OkC (s : Pk.RS) : Prop := 0 ≤ s.int.1 ∧ s.int.1 ≤ ((s.int.2.left.length / 8 : Nat) : Int)
instance (s : Pk.RS) : Decidable (OkC s) := inferInstanceAs (Decidable (_ ∧ _))
section
variable {α : Type} {rd : Pk.RS → α × Pk.RS}
def rdN (rd : Pk.RS → α × Pk.RS) (s : Pk.RS) : Nat → List α × Pk.RS
  | 0 => ([], s)
  | k + 1 => ((rdN rd s k).1 ++ [(rd (rdN rd s k).2).1], (rd (rdN rd s k).2).2)
def rdL (rd : Pk.RS → α × Pk.RS) (s : Pk.RS) : List α × Pk.RS := if OkC s then rdN rd s.int.2 s.int.1.toNat else ([], .dead)
theorem rdN_len (s : Pk.RS) (k : Nat) : (rdN rd s k).1.length = k := by
  induction k with
  | zero => rfl
  | succ k ih => simp [rdN, ih]
theorem rdN_bad (hb : ∀ s, s.bad = true → (rd s).2.bad = true) {s : Pk.RS} {j : Nat} (h : (rdN rd s j).2.bad = true) : ∀ k, j ≤ k → (rdN rd s k).2.bad = true := by
  intro k hk
  induction k with
  | zero => obtain rfl : j = 0 := by omega
            exact h
  | succ k ih =>
    by_cases e : j = k + 1
    · rw [← e]; exact h
    · exact hb _ (ih (by omega))
theorem rdL_bad (hb : ∀ s, s.bad = true → (rd s).2.bad = true) {s : Pk.RS} (h : ¬ OkC s ∨ ∃ j : Nat, (j : Int) ≤ s.int.1 ∧ (rdN rd s.int.2 j).2.bad = true) : (rdL rd s).2.bad = true := by
  unfold rdL
  by_cases hc : OkC s
  · rw [if_pos hc]
    rcases h with h | ⟨j, h1, h2⟩
    · exact absurd hc h
    · exact rdN_bad hb h2 _ (by omega)
  · rw [if_neg hc]; rfl
theorem rdL_ok {s : Pk.RS} (h : OkC s) : rdL rd s = rdN rd s.int.2 s.int.1.toNat := if_pos h
theorem rdL_dead (hb : ∀ s, s.bad = true → (rd s).2.bad = true) {s : Pk.RS} (h : s.bad = true) : (rdL rd s).2.bad = true := by
  refine rdL_bad hb ?_
  by_cases hc : OkC s
  · right
    refine ⟨0, ?_, ?_⟩
    · exact hc.1
    · exact int_bad1 h
  · exact .inl hc
theorem rdN_le {s : Pk.RS} (hl : ∀ s, (rd s).2.left.length ≤ s.left.length) (k : Nat) : (rdN rd s k).2.left.length ≤ s.left.length := by
  induction k with
  | zero => exact Nat.le_refl _
  | succ k ih => exact Nat.le_trans (hl _) ih
end
def rd4 (s : Pk.RS) : Rg × Pk.RS := (⟨s.int.1, s.int.2.int.1, s.int.2.int.2.int.1, s.int.2.int.2.int.2.int.1⟩, s.int.2.int.2.int.2.int.2)
def rdS (s : Pk.RS) : Se.Ses × Pk.RS := (⟨s.int.1, s.int.2.int.1, s.int.2.int.2.int.1, s.int.2.int.2.int.2.blob.1⟩, s.int.2.int.2.int.2.blob.2)
def six (s : Pk.RS) : Pk.RS := s.int.2.int.2.int.2.int.2.int.2.int.2
def mp6 (l : List Rg) (s : Pk.RS) : Mp := ⟨l, s.int.1, ⟨s.int.2.int.1, s.int.2.int.2.int.1, s.int.2.int.2.int.2.int.1, s.int.2.int.2.int.2.int.2.int.1, s.int.2.int.2.int.2.int.2.int.2.int.1⟩⟩
theorem rd4_bad (s : Pk.RS) (h : s.bad = true) : (rd4 s).2.bad = true := int_bad1 (int_bad1 (int_bad1 (int_bad1 h)))
theorem rdS_bad (s : Pk.RS) (h : s.bad = true) : (rdS s).2.bad = true := blob_bad1 (int_bad1 (int_bad1 (int_bad1 h)))
theorem six_bad {s : Pk.RS} (h : s.bad = true) : (six s).bad = true := int_bad1 (int_bad1 (int_bad1 (int_bad1 (int_bad1 (int_bad1 h)))))
def tM (s : Pk.RS) : Pk.RS := six (rdL rd4 s).2
def mM (s : Pk.RS) : Mp := mp6 (rdL rd4 s).1 (rdL rd4 s).2
def tD (s : Pk.RS) : Pk.RS := (rdL rdS (tM s)).2
def sD (s : Pk.RS) : List Se.Ses := (rdL rdS (tM s)).1
theorem err_bad {s : Pk.RS} (h : s.bad = true) : s.err = 4 := if_pos h
theorem mM_E (s : Pk.RS) : In1 (mM s).E := int_rng _
/-- the map that bytes are, and what is wrong with them -/
def getM (s : Pk.RS) : Mp × Int := if (tM s).err ≠ 0 then (Mp.zero, (tM s).err) else if checkB (mM s) = true then (mM s, 0) else (Mp.zero, 4)
def risesB (l : List Se.Ses) : Bool := (List.range l.length).all fun i => decide (i = 0) || decide ((l.getD (i - 1) default).Client < (l.getD i default).Client)
theorem rises_snoc (l : List Se.Ses) (x : Se.Ses) : risesB (l ++ [x]) = (risesB l && (decide (l.length = 0) || decide ((l.getD (l.length - 1) default).Client < x.Client))) := by
  unfold risesB
  rw [List.length_append, List.length_singleton, List.range_succ, List.all_append]
  congr 1
  · rw [Bool.eq_iff_iff, List.all_eq_true, List.all_eq_true]
    have key : ∀ i, i < l.length → ((l ++ [x]).getD i default) = l.getD i default := fun i hi => by
      simp only [List.getD_eq_getElem?_getD, List.getElem?_append_left hi]
    constructor
    · intro h i hi
      have hlt := List.mem_range.1 hi
      have := h i hi
      rwa [key i hlt, key (i - 1) (by omega)] at this
    · intro h i hi
      have hlt := List.mem_range.1 hi
      have := h i hi
      rwa [key i hlt, key (i - 1) (by omega)]
  · simp only [List.all_cons, List.all_nil, Bool.and_true]
    by_cases h0 : l.length = 0
    · simp [h0]
    · have e1 : ((l ++ [x]).getD l.length default) = x := by simp [List.getD_eq_getElem?_getD]
      have e2 : ((l ++ [x]).getD (l.length - 1) default) = l.getD (l.length - 1) default := by
        simp only [List.getD_eq_getElem?_getD, List.getElem?_append_left (show l.length - 1 < l.length by omega)]
      rw [e1, e2]
abbrev Dr.zero : Dr := ⟨Mp.zero, []⟩
def getD (s : Pk.RS) : Dr × Int := if (tD s).err ≠ 0 then (Dr.zero, (tD s).err) else if checkB (mM s) = true then (if risesB (sD s) = true then (⟨mM s, sD s⟩, 0) else (Dr.zero, 15)) else (Dr.zero, 4)
/-! ### Readers that may be carried on -/
structure PRT (w : World) (B T : Nat) (r D : Value) (L : List UInt8) (s : Pk.RS) : Prop where
  pr : ∃ a left, PR w B r D L a s left
  hr : ∀ b, (asRow r).ownBlock = some b → b < T
  hD : ∀ b, D.ownBlock = some b → b < T
structure RRT (w : World) (B T : Nat) (x vb : Value) (L : List UInt8) (s : Pk.RS) : Prop where
  rr : ∃ a, RR w B x vb L a s
  hr : ∀ b, (asRow x).ownBlock = some b → b < T
  hD : ∀ b, vb.ownBlock = some b → b < T
structure SinceR (w0 w : World) (R : Option Nat) : Prop where
  x : w0.grownBy w R
section
variable {w0 w w' : World} {B T : Nat} {r D x vb : Value} {L : List UInt8} {s : Pk.RS} {R row : Option Nat}
theorem ne_T {y : Value} (h : ∀ b, y.ownBlock = some b → b < T) (hne : ∀ g, row = some g → T ≤ g) : y.ownBlock = none ∨ y.ownBlock ≠ row := by
  cases hy : y.ownBlock with
  | none => exact .inl rfl
  | some b => exact .inr fun e => by have := h b hy; have := hne b e.symm; omega
theorem PRT.ext (h : PRT w B T r D L s) (g : Ext w w') : PRT w' B T r D L s := by
  obtain ⟨⟨a, left, hp⟩, h1, h2⟩ := h; exact ⟨⟨a, left, hp.ext g⟩, h1, h2⟩
theorem PRT.kept (h : PRT w B T r D L s) (k : w.grownBy w' row) (hne : ∀ g, row = some g → T ≤ g) : PRT w' B T r D L s := by
  obtain ⟨⟨a, left, hp⟩, h1, h2⟩ := h; exact ⟨⟨a, left, hp.kept k (ne_T h1 hne) (ne_T h2 hne)⟩, h1, h2⟩
theorem PRT.keptO {g' : Nat} (h : PRT w B T r D L s) (k : w.grownBy w' (some g')) (hne : T ≤ g') : PRT w' B T r D L s := h.kept k (fun g e => by injection e with e; omega)
theorem RRT.ext (h : RRT w B T x vb L s) (g : Ext w w') : RRT w' B T x vb L s := by
  obtain ⟨⟨a, hp⟩, h1, h2⟩ := h; exact ⟨⟨a, hp.ext g⟩, h1, h2⟩
theorem RRT.kept (h : RRT w B T x vb L s) (k : w.grownBy w' row) (hne : ∀ g, row = some g → T ≤ g) : RRT w' B T x vb L s := by
  obtain ⟨⟨a, hp⟩, h1, h2⟩ := h; exact ⟨⟨a, hp.kept k (ne_T h1 hne) (ne_T h2 hne)⟩, h1, h2⟩
theorem RRT.keptO {g' : Nat} (h : RRT w B T x vb L s) (k : w.grownBy w' (some g')) (hne : T ≤ g') : RRT w' B T x vb L s := h.kept k (fun g e => by injection e with e; omega)
theorem grown_nw {a b c : World} {r q : Option Nat} (h : a.grownBy b r) (k : b.grownBy c q) (hq : ∀ i, q = some i → a.heap.size ≤ i ∨ r = some i) : a.grownBy c r :=
  ⟨k.os.trans h.os, k.tape.trans h.tape, k.output.trans h.output, Nat.le_trans h.size k.size, fun i hi hn => (k.block i (Nat.lt_of_lt_of_le hi h.size) (fun e => by
    rcases hq i e.symm with q1 | q1
    · omega
    · exact hn q1.symm)).trans (h.block i hi hn)⟩
theorem SinceR.ext (h : SinceR w0 w R) (g : Ext w w') : SinceR w0 w' R := ⟨grown_nw h.x g (fun i e => by cases e)⟩
theorem SinceR.kept (h : SinceR w0 w R) (k : w.grownBy w' row) (hne : ∀ g, row = some g → w0.heap.size ≤ g ∨ R = some g) : SinceR w0 w' R := ⟨grown_nw h.x k hne⟩
theorem SinceR.keptO {g' : Nat} (h : SinceR w0 w R) (k : w.grownBy w' (some g')) (hne : w0.heap.size ≤ g') : SinceR w0 w' R := h.kept k (fun g e => by injection e with e; exact .inl (by omega))
end
end Go.Proofs.Ytpimnlgfhpnjnaa
