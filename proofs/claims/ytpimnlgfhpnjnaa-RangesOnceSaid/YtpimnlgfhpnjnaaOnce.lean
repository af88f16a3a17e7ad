/- What comes again is told the same; what becomes of a map whose move is done. -/
import Derived.Test.YtpimnlgfhpnjnaaDir
import Derived.Test.YtpimnlgfhpnjnaaSesW
namespace Go.Proofs.Ytpimnlgfhpnjnaa
open Go Go.RowKit Kf
set_option maxRecDepth 20000
theorem ask_kinds (S : List Se.Ses) (c q : Int) : (Se.askS S c q).2 = 0 ∨ (Se.askS S c q).2 = 15 ∨ (Se.askS S c q).2 = 7 := by
  unfold Se.askS
  split
  · exact .inl rfl
  · split
    · exact .inl rfl
    · split
      · exact .inl rfl
      · split
        · exact .inr (.inl rfl)
        · exact .inr (.inr rfl)
theorem ask_seven {S : List Se.Ses} {c q : Int} (h : (Se.askS S c q).2 = 7) : c ≠ 0 ∧ ∃ s, Se.findS S c = some s ∧ s.Seq = q := by
  unfold Se.askS at h
  split at h
  · exact absurd h (by decide)
  · rename_i hc
    refine ⟨hc, ?_⟩
    split at h
    · exact absurd h (by decide)
    · rename_i s hs
      refine ⟨s, hs, ?_⟩
      split at h
      · exact absurd h (by decide)
      · split at h
        · exact absurd h (by decide)
        · omega
theorem ask_below {S : List Se.Ses} {c q : Int} {s : Se.Ses} (hc : c ≠ 0) (h : Se.findS S c = some s) (hs : s.Seq = q) : Se.askS S c (q - 1) = ((0, []), 15) := by
  unfold Se.askS
  rw [if_neg hc, h]
  simp only
  rw [if_neg (by omega), if_pos (by omega)]
section
variable {d : Dr} {n : List Int}
theorem app_kind (h : n.getD 0 0 ≠ 9 ∧ n.getD 0 0 ≠ 10) : appF d n = (d, (13, [])) := app_bad h
theorem app_again (h : ¬ (n.getD 0 0 ≠ 9 ∧ n.getD 0 0 ≠ 10)) (hc : n.getD 1 0 ≠ 0) : appF (appF d n).1 n = appF d n := by
  rcases ask_kinds d.S (n.getD 1 0) (n.getD 2 0) with k | k | k
  · rw [app_new h k]
    have ho := Se.ask_own (l := d.S) (s := ⟨n.getD 1 0, n.getD 2 0, (turnF d.m n).2, mpB (turnD d.m n)⟩) hc
    simp only at ho
    rw [app_twice (d := ⟨_, _⟩) h (by rw [ho]), ho]
  · have e := app_err (d := d) (n := n) h (by omega) (by omega)
    rw [e]; exact e
  · have e := app_twice (d := d) (n := n) h k
    rw [e]; exact e
theorem app_elder (h : ¬ (n.getD 0 0 ≠ 9 ∧ n.getD 0 0 ≠ 10)) (hc : n.getD 1 0 ≠ 0) (h15 : (appF d n).2.1 ≠ 15) {n' : List Int} (h0 : n'.getD 0 0 = n.getD 0 0) (h1 : n'.getD 1 0 = n.getD 1 0) (h2 : n'.getD 2 0 = n.getD 2 0 - 1) : appF (appF d n).1 n' = ((appF d n).1, (15, [])) := by
  have hk : ¬ (n'.getD 0 0 ≠ 9 ∧ n'.getD 0 0 ≠ 10) := by rw [h0]; exact h
  have key : Se.askS (appF d n).1.S (n'.getD 1 0) (n'.getD 2 0) = ((0, []), 15) := by
    rw [h1, h2]
    rcases ask_kinds d.S (n.getD 1 0) (n.getD 2 0) with k | k | k
    · rw [app_new h k]
      exact ask_below hc (Se.note_find_own (s := ⟨n.getD 1 0, n.getD 2 0, (turnF d.m n).2, mpB (turnD d.m n)⟩) hc) rfl
    · rw [app_err h (by omega) (by omega)] at h15
      exact absurd k h15
    · rw [app_twice h k]
      obtain ⟨_, s, hs, hq⟩ := ask_seven k
      exact ask_below hc hs hq
  have e := app_err (d := (appF d n).1) (n := n') hk (by rw [key]; decide) (by rw [key]; decide)
  rw [e, key]
/-- an operation that has a move done -/
def aN (E : Int) : List Int := [10, 0, 0, 0, 0, E, 0, 0, 0, 0, 0, 0, 0]
theorem turn_done {m : Mp} (h : Good m) : (turnF m (aN m.E)).2 = 0 ∧ (turnF m (aN m.E)).1.M = Mv.zero ∧ (turnF m (aN m.E)).1.E = m.E := by
  have e9 : (aN m.E).getD 0 0 = 10 := rfl
  have e5 : (aN m.E).getD 5 0 = m.E := rfl
  unfold turnF
  rw [if_neg (by rw [e9]; decide), e5]
  by_cases hM : m.M = Mv.zero
  · rw [if_pos ⟨Int.le_refl _, by rw [hM]; rintro ⟨a, _⟩; exact absurd a (by decide)⟩]
    exact ⟨rfl, hM, rfl⟩
  · have hm := check_moved h.E h.ok hM
    have h1 := hm.epoch
    have h2 := hm.val.pos
    rw [if_neg (by rintro ⟨_, b⟩; exact b ⟨by omega, h1.symm⟩)]
    unfold doneF
    rw [if_neg (by unfold doneNo; simp only [Bool.or_eq_true, decide_eq_true_eq]; omega)]
    exact ⟨rfl, rfl, rfl⟩
theorem turn_none {m : Mp} (hM : m.M = Mv.zero) : turnF m (aN m.E) = (m, 0) := by
  have e9 : (aN m.E).getD 0 0 = 10 := rfl
  have e5 : (aN m.E).getD 5 0 = m.E := rfl
  unfold turnF
  rw [if_neg (by rw [e9]; decide), e5, if_pos ⟨Int.le_refl _, by rw [hM]; rintro ⟨a, _⟩; exact absurd a (by decide)⟩]
theorem app_done {m : Mp} (E : Int) : appF ⟨m, []⟩ (aN E) = (⟨turnD m (aN E), []⟩, ((turnF m (aN E)).2, mpB (turnD m (aN E)))) := by
  rw [app_new (d := ⟨m, []⟩) (n := aN E) (by rintro ⟨_, b⟩; exact b rfl) rfl]; rfl
theorem app_done1 {m : Mp} (h : Good m) : (appF ⟨m, []⟩ (aN m.E)).2.1 = 0 ∧ (appF ⟨m, []⟩ (aN m.E)).1.m.M = Mv.zero ∧ (appF ⟨m, []⟩ (aN m.E)).1.m.E = m.E ∧ (appF ⟨m, []⟩ (aN m.E)).1.S = [] := by
  obtain ⟨h1, h2, h3⟩ := turn_done h
  rw [app_done]
  have e : turnD m (aN m.E) = (turnF m (aN m.E)).1 := if_pos h1
  exact ⟨h1, by simp only [e]; exact h2, by simp only [e]; exact h3, rfl⟩
theorem app_done2 {m : Mp} (h : Good m) : (appF (appF ⟨m, []⟩ (aN m.E)).1 (aN m.E)).2.1 = 0 ∧ (appF (appF ⟨m, []⟩ (aN m.E)).1 (aN m.E)).1.m = (appF ⟨m, []⟩ (aN m.E)).1.m := by
  obtain ⟨_, h2, h3, h4⟩ := app_done1 h
  generalize (appF ⟨m, []⟩ (aN m.E)).1 = x at h2 h3 h4
  obtain ⟨mx, Sx⟩ := x
  simp only at h2 h3 h4
  subst h4
  rw [← h3, app_done]
  have ht := turn_none h2
  have e : turnD mx (aN mx.E) = mx := by unfold turnD; rw [ht]; rfl
  simp only [e, ht]
  exact ⟨trivial, trivial⟩
end
theorem set_getD {n : List Int} {a k : Nat} {x : Int} (ha : a < n.length) : (n.set a x).getD k 0 = if a = k then x else n.getD k 0 := by
  simp only [List.getD_eq_getElem?_getD, List.getElem?_set]
  by_cases h : a = k
  · subst h; simp [ha]
  · simp [h]
theorem opAt_set {w : World} {vP vR vW vD : Value} {o : Op.Od} (h : Op.OpAt w vP vR vW vD o) {a : Nat} (ha : a < 13) {x : Int} (hx : In1 x) : Op.OpAt w vP vR vW vD ⟨o.n.set a x, o.P, o.R, o.W, o.D⟩ :=
  ⟨by rw [List.length_set]; exact h.len, fun k => by
    show In1 ((o.n.set a x).getD k 0)
    rw [set_getD (by rw [h.len]; exact ha)]
    split
    · exact hx
    · exact h.inn k, h.P, h.R, h.W, h.D⟩
theorem in0 : In1 0 := ⟨by decide, by decide⟩
theorem in10 : In1 10 := ⟨by decide, by decide⟩
theorem opAt_nil (w : World) {E : Int} (h : In1 E) : Op.OpAt w nilS nilS nilS nilS ⟨aN E, [], [], [], []⟩ :=
  ⟨rfl, fun k => by
    show In1 ((aN E).getD k 0)
    unfold aN
    match k with
    | 0 => exact in10
    | 1 => exact in0
    | 2 => exact in0
    | 3 => exact in0
    | 4 => exact in0
    | 5 => exact h
    | 6 => exact in0
    | 7 => exact in0
    | 8 => exact in0
    | 9 => exact in0
    | 10 => exact in0
    | 11 => exact in0
    | 12 => exact in0
    | k + 13 => exact in0, Row.nil w 1, Row.nil w 1, ⟨[], rfl, Row.nil w 2, fun e he => by cases he⟩, Row.nil w 1⟩
theorem sess_nil (w : World) : Se.Sess w nilS [] := ⟨[], rfl, Row.nil w 4, fun e he => by cases he⟩
theorem fill51a (a0 a1 a2 a3 a4 a5 a6 : Value) : Instr.fill (([(0, 7), (7, 1)] : List (Nat × Nat)).toArray[·]?) ([nilS, i64 0, i64 0, i64 0, i64 0, i64 0, i64 0, nilS] : List Value).toArray [(0, agg [a0, a1, a2, a3, a4, a5, a6])] = some ([a0, a1, a2, a3, a4, a5, a6, nilS] : List Value).toArray := by
  have hA : (agg [a0, a1, a2, a3, a4, a5, a6]).cells = ([a0, a1, a2, a3, a4, a5, a6] : List Value).toArray := rfl
  simp [Instr.fill, hA, List.zipIdx, Array.setIfInBounds]
end Go.Proofs.Ytpimnlgfhpnjnaa
