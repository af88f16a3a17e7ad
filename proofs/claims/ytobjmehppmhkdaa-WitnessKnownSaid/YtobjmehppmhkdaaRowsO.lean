/- Rows of rows of bytes, all in memory of their own. -/
import Derived.Test.YtobjmehppmhkdaaBlkS
import Derived.Test.YtobjmehppmhkdaaIn
import Derived.Test.YtobjmehppmhkdaaBkK
namespace Go.Proofs.Ytobjmehppmhkdaa
open Go Go.RowKit Kf
set_option maxRecDepth 20000

structure RowsO (w : World) (B : Nat) (v : Value) (C : List Value) (f : Nat → List UInt8) : Prop where
  row : w.ownsRow B 36 1 v C.length C
  data : ∀ n, n < C.length → OwnB w B 5 (C.getD n undef) (f n)
  off : ∀ n, n < C.length → Apart (C.getD n undef) v
section
variable {w w' w1 w2 : World} {B B' : Nat} {v v' dv x : Value} {C : List Value} {f g : Nat → List UInt8} {b : List UInt8}
theorem RowsO.ext (h : RowsO w B v C f) (k : Ext w w') : RowsO w' B v C f := ⟨own_ext h.row k, fun n hn => own_ext (h.data n hn) k, h.off⟩
theorem RowsO.mono (h : RowsO w B v C f) (k : B' ≤ B) : RowsO w B' v C f := ⟨own_mono h.row k, fun n hn => own_mono (h.data n hn) k, h.off⟩
theorem RowsO.fn (h : RowsO w B v C f) (e : ∀ n, n < C.length → f n = g n) : RowsO w B v C g := ⟨h.row, fun n hn => e n hn ▸ h.data n hn, h.off⟩
theorem RowsO.nil (w : World) (B : Nat) (f : Nat → List UInt8) : RowsO w B (.slice none 0 0) [] f := ⟨World.ownsRow_nil _ _ _ _, (fun n hn => by simp at hn), (fun n hn => by simp at hn)⟩
theorem getD_app {C : List Value} {dv : Value} {n : Nat} (h : n < (C ++ [dv]).length) : (n < C.length ∧ (C ++ [dv]).getD n undef = C.getD n undef) ∨ (n = C.length ∧ (C ++ [dv]).getD n undef = dv) := by
  simp only [List.getD_eq_getElem?_getD]
  rcases Nat.lt_or_ge n C.length with hn | hn
  · exact .inl ⟨hn, by rw [List.getElem?_append_left hn]⟩
  · have : n = C.length := by simp at h; omega
    subst this
    exact .inr ⟨rfl, by simp⟩
theorem RowsO.app (h : RowsO w B v C f) (hd : OwnB w1 w.heap.size 5 dv (f C.length)) (g1 : Ext w w1) (g2 : Ext w1 w2) (hr : w'.ownsRow B 36 1 v' (C.length + 1) (C ++ [dv])) (k : w2.grownBy w' v.ownBlock) (hm : Moved w2 v v') (hB : B ≤ w.heap.size) : RowsO w' B v' (C ++ [dv]) f := by
  have hz := World.grownBy.size g1
  have hdv : Apart dv v := fun b h1 h2 => by have := (hd.lt b h1).1; have := (h.row.lt b h2).2; omega
  refine ⟨by rw [List.length_append]; exact hr, fun n hn => ?_, fun n hn => ?_⟩
  · rcases getD_app hn with ⟨h1, h2⟩ | ⟨h1, h2⟩
    · rw [h2]; exact (own_ext (own_ext (h.data n h1) g1) g2).kept k (h.off n h1).ne
    · rw [h2, h1]; exact own_mono ((own_ext hd g2).kept k hdv.ne) hB
  · rcases getD_app hn with ⟨h1, h2⟩ | ⟨h1, h2⟩
    · rw [h2]; exact Apart.moved (h.off n h1) (own_ext (own_ext (h.data n h1) g1) g2) hm
    · rw [h2]; exact Apart.moved hdv (own_ext hd g2) hm
theorem getD_set {C : List Value} {dv : Value} {n m : Nat} (h : n < C.length) : (C.set m dv).getD n undef = if n = m then dv else C.getD n undef := by
  simp only [List.getD_eq_getElem?_getD, List.getElem?_set]
  by_cases e : m = n
  · subst e; simp [h]
  · rw [if_neg e, if_neg (fun h => e h.symm)]
theorem RowsO.set {m : Nat} (h : RowsO w B v C f) (hd : OwnB w1 B' 5 dv b) (hap : Apart dv v) (g1 : Ext w w1) (hr : w'.ownsRow B 36 1 v C.length (C.set (m * 1) dv)) (k : w1.grownBy w' v.ownBlock) (hB : B ≤ B') : RowsO w' B v (C.set m dv) (fun n => if n = m then b else f n) := by
  rw [Nat.mul_one] at hr
  refine ⟨by rw [List.length_set]; exact hr, fun n hn => ?_, fun n hn => ?_⟩
  · rw [List.length_set] at hn
    rw [getD_set hn]
    split
    · exact own_mono (hd.kept k hap.ne) hB
    · exact (own_ext (h.data n hn) g1).kept k (h.off n hn).ne
  · rw [List.length_set] at hn
    rw [getD_set hn]
    split
    · exact hap
    · exact h.off n hn
theorem RowsO.keptA (h : RowsO w B v C f) (k : w.grownBy w' x.ownBlock) (h1 : Apart v x) (h2 : ∀ n, n < C.length → Apart (C.getD n undef) x) : RowsO w' B v C f :=
  ⟨h.row.kept k h1.ne, fun n hn => (h.data n hn).kept k (h2 n hn).ne, h.off⟩
end
theorem own1 {w : World} {B sz : Nat} {e : TypeId} {v dv : Value} (h : w.ownsRow B e sz v 1 ([dv].flatMap fun v => v.cells.toList)) (h1 : dv.oneCell' = true) : w.ownsRow B e sz v 1 [dv] := by
  rwa [flat_ones (by intro u hu; rw [List.mem_singleton] at hu; subst hu; exact h1)] at h
theorem updF_ok {l : List Bl} {m : Nat} {b : List UInt8} (hok : okB (m : Int) b = true) : updF (rowsF l) (m : Int) b = fun n => if n = m then b else rowsF l n := by
  funext n
  unfold updF
  by_cases h : n = m
  · subst h; simp [hok]
  · rw [if_neg (fun e => h (by have := e.2; omega)), if_neg h]
theorem updF_no {l : List Bl} {no : Int} {b : List UInt8} (hok : okB no b = false) : updF (rowsF l) no b = rowsF l := by
  funext n
  unfold updF
  rw [if_neg (fun e => by rw [hok] at e; cases e.1)]
end Go.Proofs.Ytobjmehppmhkdaa
