/- The walk of RangesKnown. -/
import Derived.Test.YtpimnlgfhpnjnaaRnRk
import Derived.Test.YtpimnlgfhpnjnaaRnUn
namespace Go.Proofs.Ytpimnlgfhpnjnaa
open Go Go.RowKit Kf
set_option maxRecDepth 20000

def LM : List Mv := [⟨0, 1, 2, 0, 8⟩, ⟨0, 1, 3, 0, 8⟩, ⟨0, 1, 3, 4, 8⟩, ⟨0, 3, 1, 0, 8⟩, ⟨0, 1, 1, 0, 8⟩, ⟨0, 1, 5, 0, 8⟩, ⟨0, 1, 0, 0, 8⟩, ⟨0, 1, 3, 8, 8⟩, ⟨0, 1, 3, 0, 33⟩, ⟨0, 1, 3, -1, 32⟩, ⟨0, 2, 1, 32, 64⟩, ⟨0, 1, 3, 0, 32⟩, ⟨0, 2, 1, 40, 64⟩]
def WN : List Int := [15, 0, 3, 6, 27, 27, 27, 3, 3, 3, 0, 0, 15]
theorem LM_len : LM.length = 13 := rfl
theorem hPf : ∀ i : Fin 13, (planM twoM (LM[i.1]'i.2)).2 = WN.getD i.1 0 ∧ ((planM twoM (LM[i.1]'i.2)).2 = 0 → (planM twoM (LM[i.1]'i.2)).1.E = 2 ∧ checkB (planM twoM (LM[i.1]'i.2)).1 = true ∧ (planM (planM twoM (LM[i.1]'i.2)).1 (LM[i.1]'i.2)).2 = 11) ∧ (planM twoM (LM[i.1]'i.2)).1.R.length ≤ 4 ∧ In1 (planM twoM (LM[i.1]'i.2)).1.E := by decide +kernel
theorem hP (i : Nat) (hi : i < LM.length) : (planM twoM (LM[i]'hi)).2 = WN.getD i 0 ∧ ((planM twoM (LM[i]'hi)).2 = 0 → (planM twoM (LM[i]'hi)).1.E = 2 ∧ checkB (planM twoM (LM[i]'hi)).1 = true ∧ (planM (planM twoM (LM[i]'hi)).1 (LM[i]'hi)).2 = 11) ∧ (planM twoM (LM[i]'hi)).1.R.length ≤ 4 ∧ In1 (planM twoM (LM[i]'hi)).1.E := hPf ⟨i, hi⟩
section
variable {w : World} {v : Value}
theorem planK {m m' : Mp} {x : Mv} {c : Int} (h : planM m x = (m', c)) (hz : m.R.length ≤ 1000000) (hE : -9223372036854775808 ≤ m.E) (hv : Rgs w v m.R) : FnOk Try.prog 15 [agg (m.c v), agg x.c] w (fun r w' => (∃ u, r = .tuple #[agg (m'.c u), i64 c] ∧ OwnR w' w.heap.size 41 u m'.R) ∧ Ext w w') := by
  have := plan_ok m v x w hv hz hE
  rwa [h] at this
theorem doneK {m m' : Mp} {e c : Int} (h : doneF m e = (m', c)) (hc : checkB m = true) (hE : In1 m.E) (hv : Rgs w v m.R) : FnOk Try.prog 17 [agg (m.c v), i64 e] w (fun r w' => (∃ u, r = .tuple #[agg (m'.c u), i64 c] ∧ OwnR w' w.heap.size 41 u m'.R) ∧ Ext w w') :=
  (doneC_ok m v e w hv (Nat.le_trans (val_len hc) (by decide))).mono fun r w' ⟨⟨u, m2, c2, h1, h2, h3⟩, h4⟩ => by
    obtain ⟨rfl, rfl⟩ := post_doneF hE hc h3
    rw [h] at h1 h2
    exact ⟨⟨u, h1, h2⟩, h4⟩
theorem findK {m : Mp} {n : Int} {r : Rg} {b : Bool} (h1 : (findM m.R n).getD Rg.zero = r) (h2 : (findM m.R n).isSome = b) (hv : Rgs w v m.R) : FnOk Try.prog 23 [agg (m.c v), i64 n] w (fun x w' => x = .tuple #[agg r.c, .bool b] ∧ Ext w w') := by
  have := findC_ok m v n w hv
  rwa [h1, h2] at this
theorem checkK {m : Mp} {c : Int} (h : codeOf (checkB m) = c) (hE : In1 m.E) (hv : Rgs w v m.R) : FnOk Try.prog 11 [agg (m.c v)] w (fun x w' => x = i64 c ∧ Ext w w') := by
  have := checkC_ok m v w hv hE
  rwa [h] at this
end
def nA : List Int := [9, 1, 4, 0, 0, 0, 0, 8, 0, 0, 0, 1, 3]
def nB : List Int := [9, 2, 1, 0, 0, 0, 0, 8, 0, 0, 0, 1, 3]
def nC : List Int := [9, 2, 1, 0, 0, 0, 32, 40, 0, 0, 0, 2, 3]
def nX : List Int := [10, 2, 1, 0, 0, 2, 0, 0, 0, 0, 0, 0, 0]
def nJ : List Int := [10, 2, 1, 0, 0, 3, 0, 0, 0, 0, 0, 0, 0]
def d0 : Dr := ⟨twoM, []⟩
def aA := appF d0 nA
def aB := appF aA.1 nB
def aC := appF aA.1 nC
def aX := appF aA.1 nX
def aJ := appF aA.1 nJ
def aK := appF aX.1 nA
theorem g0 : Good d0.m := ⟨by decide +kernel, ⟨by decide, by decide⟩⟩
theorem gA : Good aA.1.m := app_good g0 nA
theorem gX : Good aX.1.m := app_good gA nX
theorem l0 : d0.S.length = 0 := rfl
theorem lA : aA.1.S.length ≤ 1 := app_len d0 nA
theorem lX : aX.1.S.length ≤ 2 := Nat.le_trans (app_len aA.1 nX) (Nat.succ_le_succ lA)
theorem s0 : ∀ s ∈ d0.S, s.Data.length ≤ 4096 := fun s hs => by cases hs
theorem sA : ∀ s ∈ aA.1.S, s.Data.length ≤ 4096 := app_data g0 nA s0
theorem sX : ∀ s ∈ aX.1.S, s.Data.length ≤ 4096 := app_data gA nX sA
theorem cA : aA.2.1 = 0 := by decide +kernel
theorem cB : aB.2.1 = 0 := by decide +kernel
theorem cC : aC.2.1 = 11 := by decide +kernel
theorem cX : aX.2.1 = 0 := by decide +kernel
theorem cJ : aJ.2.1 = 6 := by decide +kernel
theorem cK : aK.2.1 = 0 := by decide +kernel
theorem eK : aA.2.2 = aK.2.2 := by decide +kernel
theorem rX : aX.1.m.R.length = 3 := by decide +kernel
def pA : Mp := ⟨twoM.R, 2, ⟨2, 1, 3, 0, 8⟩⟩
theorem gP : getM ⟨aA.2.2, false⟩ = (pA, 0) := by kernel_rfl
theorem bP : aA.2.2.length ≤ 1000000 := by decide +kernel
theorem opAtK (w : World) {n : List Int} (hl : n.length = 13) (hn : ∀ x ∈ n, In1 x) : Op.OpAt w nilS nilS nilS nilS ⟨n, [], [], [], []⟩ :=
  ⟨hl, fun k => by
    show In1 (n.getD k 0)
    by_cases hk : k < n.length
    · rw [List.getD_eq_getElem?_getD, List.getElem?_eq_getElem hk]; exact hn _ (List.getElem_mem _)
    · rw [List.getD_eq_getElem?_getD, List.getElem?_eq_none (by omega)]; exact ⟨by decide, by decide⟩, Row.nil w 1, Row.nil w 1, Op.Wrs.nil w, Row.nil w 1⟩
theorem applyK {d : Dr} {n : List Int} {v u : Value} {c : Int} {a : Dr × (Int × List UInt8)} (w : World) (ha : appF d n = a) (hc : a.2.1 = c) (hg : Good d.m) (hl : d.S.length ≤ 100) (hd : ∀ s ∈ d.S, s.Data.length ≤ 4096) (hn : n.length = 13) (hi : ∀ x ∈ n, In1 x) (h : DAt w v u d) : FnOk Try.prog 45 [agg (d.c v u), agg (Op.oc n nilS nilS nilS nilS)] w (fun r w' => (∃ v2 u2 dv F, r = .tuple #[agg (a.1.c v2 u2), agg [i64 c, dv]] ∧ F.map Prod.fst = a.1.S ∧ DOwn w' w.heap.size w'.heap.size v2 u2 a.1.m F ∧ ByT w' w.heap.size w'.heap.size dv a.2.2) ∧ Ext w w') :=
  (apply_ok d v u nilS nilS nilS nilS ⟨n, [], [], [], []⟩ w h hg (by omega) (fun s hs => Nat.le_trans (hd s hs) (by decide)) (opAtK w hn hi)).mono fun r w' ⟨⟨v2, u2, dv, F, h1, h2, h3, h4, _⟩, h5⟩ => by
    simp only at h1 h2 h3 h4
    rw [ha] at h1 h2 h3 h4
    rw [hc] at h1
    exact ⟨⟨v2, u2, dv, F, h1, h2, h3, h4⟩, h5⟩
theorem two_good : checkB twoM = true := by decide +kernel
theorem two_in : In1 twoM.E := ⟨by decide, by decide⟩
theorem in_nA : ∀ x ∈ nA, In1 x := by decide
theorem in_nB : ∀ x ∈ nB, In1 x := by decide
theorem in_nC : ∀ x ∈ nC, In1 x := by decide
theorem in_nX : ∀ x ∈ nX, In1 x := by decide
theorem in_nJ : ∀ x ∈ nJ, In1 x := by decide
theorem getMapK {w : World} {v : Value} {l : List UInt8} {m : Mp} {c : Int} (h : getM ⟨l, false⟩ = (m, c)) (hl : l.length ≤ 1000000) (hb : Bytes w v l) : FnOk Try.prog 32 [v] w (fun x w' => (∃ vr, x = .tuple #[agg (m.c vr), i64 c] ∧ OwnR w' w.heap.size 41 vr m.R) ∧ Ext w w') := by
  have := getMap_ok v l w hb hl
  rwa [h] at this
theorem sess_nil (w : World) : Se.Sess w nilS [] := ⟨[], rfl, Row.nil w 4, fun e he => by cases he⟩
theorem fill51a (a0 a1 a2 a3 a4 a5 a6 : Value) : Instr.fill (([(0, 7), (7, 1)] : List (Nat × Nat)).toArray[·]?) ([nilS, i64 0, i64 0, i64 0, i64 0, i64 0, i64 0, nilS] : List Value).toArray [(0, agg [a0, a1, a2, a3, a4, a5, a6])] = some ([a0, a1, a2, a3, a4, a5, a6, nilS] : List Value).toArray := by
  have hA : (agg [a0, a1, a2, a3, a4, a5, a6]).cells = ([a0, a1, a2, a3, a4, a5, a6] : List Value).toArray := rfl
  simp [Instr.fill, hA, List.zipIdx, Array.setIfInBounds]
end Go.Proofs.Ytpimnlgfhpnjnaa
