/- The law of one choice: ballots, majorities, what is once chosen stays. -/
import Derived.Test.YtgbkgkicgaikdaaAccLaw
namespace Go.Proofs.Ytgbkgkicgaikdaa
open Go Go.RowKit Kf

def cnt (q : Nat → Bool) : Nat → Nat
  | 0 => 0
  | k + 1 => cnt q k + if q k then 1 else 0
theorem cnt_le (q : Nat → Bool) : ∀ n, cnt q n ≤ n
  | 0 => Nat.le_refl _
  | n + 1 => by have := cnt_le q n; unfold cnt; split <;> omega
theorem cnt_mono {p q : Nat → Bool} {n : Nat} (h : ∀ j, j < n → p j = true → q j = true) : cnt p n ≤ cnt q n := by
  induction n with
  | zero => exact Nat.le_refl _
  | succ n ih =>
    have := ih fun j hj => h j (by omega)
    unfold cnt
    by_cases hp : p n = true
    · rw [if_pos hp, if_pos (h n (by omega) hp)]; omega
    · rw [if_neg hp]; omega
theorem cnt_two {p q : Nat → Bool} {n : Nat} (h : ∀ j, j < n → ¬ (p j = true ∧ q j = true)) : cnt p n + cnt q n ≤ n := by
  induction n with
  | zero => exact Nat.le_refl _
  | succ n ih =>
    have := ih fun j hj => h j (by omega)
    have hn := h n (by omega)
    unfold cnt
    by_cases hp : p n = true
    · have hq : ¬ q n = true := fun e => hn ⟨hp, e⟩
      rw [if_pos hp, if_neg hq]; omega
    · rw [if_neg hp]; split <;> omega
theorem both {p q : Nat → Bool} {n : Nat} (hp : n < 2 * cnt p n) (hq : n < 2 * cnt q n) : ∃ j, j < n ∧ p j = true ∧ q j = true := by
  refine Classical.byContradiction fun hno => ?_
  have := cnt_two (p := p) (q := q) (n := n) fun j hj e => hno ⟨j, hj, e⟩
  omega

def prepS (b : Int) (a : Acc) : Acc := if a.Promised < b then { a with Promised := b } else a
def propS (b v : Int) (a : Acc) : Acc := if a.Promised ≤ b then { a with Promised := b, Ballot := b, Value := v } else a
theorem prepS_v (b : Int) (a : Acc) : (prepS b a).Value = a.Value ∧ (prepS b a).Ballot = a.Ballot ∧ a.Promised ≤ (prepS b a).Promised := by
  unfold prepS; split
  · exact ⟨rfl, rfl, by dsimp only; omega⟩
  · exact ⟨rfl, rfl, Int.le_refl _⟩

/-- the value of the greatest ballot among the first k that answer -/
def BestV (S : Nat → Acc) (q : Nat → Bool) (k : Nat) (free best val : Int) : Prop :=
  (best = -1 ∧ val = free ∧ ∀ j, j < k → q j = true → (S j).Value = 0) ∨
  (∃ i, i < k ∧ q i = true ∧ (S i).Value ≠ 0 ∧ val = (S i).Value ∧ best = (S i).Ballot ∧ ∀ j, j < k → q j = true → (S j).Value ≠ 0 → (S j).Ballot ≤ best)
section best
variable {S : Nat → Acc} {q : Nat → Bool} {k : Nat} {free best val : Int}
theorem BestV.zero : BestV S q 0 free (-1) free := .inl ⟨rfl, rfl, fun j hj => by omega⟩
theorem BestV.skip (h : BestV S q k free best val) (hq : q k = false ∨ (S k).Value = 0 ∨ (S k).Ballot ≤ best) (h0 : 0 ≤ (S k).Ballot) : BestV S q (k + 1) free best val := by
  rcases h with ⟨h1, h2, h3⟩ | ⟨i, h1, h2, h3, h4, h5, h6⟩
  · refine .inl ⟨h1, h2, fun j hj hqj => ?_⟩
    rcases Nat.lt_succ_iff_lt_or_eq.1 hj with h | rfl
    · exact h3 j h hqj
    · rcases hq with hq | hq | hq
      · rw [hq] at hqj; cases hqj
      · exact hq
      · omega
  · refine .inr ⟨i, by omega, h2, h3, h4, h5, fun j hj hqj hv => ?_⟩
    rcases Nat.lt_succ_iff_lt_or_eq.1 hj with h | rfl
    · exact h6 j h hqj hv
    · rcases hq with hq | hq | hq
      · rw [hq] at hqj; cases hqj
      · exact absurd hq hv
      · exact hq
theorem BestV.take (h : BestV S q k free best val) (hq : q k = true) (hv : (S k).Value ≠ 0) (hb : best < (S k).Ballot) : BestV S q (k + 1) free (S k).Ballot (S k).Value := by
  refine .inr ⟨k, by omega, hq, hv, rfl, rfl, fun j hj hqj hvj => ?_⟩
  rcases Nat.lt_succ_iff_lt_or_eq.1 hj with hj' | rfl
  · rcases h with ⟨_, _, h3⟩ | ⟨i, _, _, _, _, _, h6⟩
    · exact absurd (h3 j hj' hqj) hvj
    · have := h6 j hj' hqj hvj; omega
  · exact Int.le_refl _
end best

structure PInv (n na ns : Nat) (val : Nat → Int) (S : Nat → Acc) (chosen : Int) : Prop where
  v12 : ∀ b, val b = 0 ∨ val b = 1 ∨ val b = 2
  hns : ns ≤ na + 1
  bal : ∀ j, j < n → (S j).Value ≠ 0 → ∃ c : Nat, (S j).Ballot = c ∧ c < ns ∧ (S j).Value = val c
  low : ∀ j, j < n → 0 ≤ (S j).Ballot ∧ (S j).Ballot ≤ (S j).Promised
  prom : ∀ b : Nat, 1 ≤ b → b ≤ na → val b ≠ 0 → n < 2 * cnt (fun j => decide ((b : Int) ≤ (S j).Promised)) n
  ch : chosen ≠ 0 → ∃ b0 : Nat, b0 < ns ∧ n < 2 * cnt (fun j => decide ((S j).Value ≠ 0 ∧ (b0 : Int) ≤ (S j).Ballot)) n ∧ (∀ j, j < n → (S j).Value ≠ 0 → (b0 : Int) ≤ (S j).Ballot → (S j).Value = chosen) ∧ ∀ b : Nat, b0 < b → b ≤ na → val b ≠ 0 → val b = chosen
theorem PInv.raise {n na ns m : Nat} {val : Nat → Int} {S : Nat → Acc} {chosen : Int} (h : PInv n na ns val S chosen) (h1 : ns ≤ m) (h2 : m ≤ na + 1) : PInv n na m val S chosen := by
  refine ⟨h.v12, h2, fun j hj hv => ?_, h.low, h.prom, fun hc => ?_⟩
  · obtain ⟨c, e1, e2, e3⟩ := h.bal j hj hv; exact ⟨c, e1, by omega, e3⟩
  · obtain ⟨b0, e1, e2, e3, e4⟩ := h.ch hc; exact ⟨b0, by omega, e2, e3, e4⟩
theorem PInv.start {n : Nat} {val : Nat → Int} {S : Nat → Acc} (hv : ∀ b, val b = 0 ∨ val b = 1 ∨ val b = 2) (hS : ∀ j, j < n → (S j).Value = 0 ∧ (S j).Ballot = 0 ∧ (S j).Promised = 0) : PInv n 0 0 val S 0 :=
  ⟨hv, by omega, fun j hj h => absurd (hS j hj).1 h, fun j hj => by have := hS j hj; omega, fun b h1 h2 => by omega, fun h => absurd rfl h⟩

theorem PInv.ask {n na ns : Nat} {val val' : Nat → Int} {S S' : Nat → Acc} {chosen v : Int} {q : Nat → Bool} (h : PInv n na ns val S chosen)
    (hS : ∀ j, j < n → S' j = if q j then prepS ((na : Int) + 1) (S j) else S j)
    (hv : if n < 2 * cnt (fun j => q j && decide ((S j).Promised < (na : Int) + 1)) n then ∃ free best, (free = 1 ∨ free = 2) ∧ BestV S (fun j => q j && decide ((S j).Promised < (na : Int) + 1)) n free best v else v = 0)
    (he : val' (na + 1) = v) (hk : ∀ b, b ≠ na + 1 → val' b = val b) : PInv n (na + 1) ns val' S' chosen := by
  have hns := h.hns
  have hSv : ∀ j, j < n → (S' j).Value = (S j).Value ∧ (S' j).Ballot = (S j).Ballot ∧ (S j).Promised ≤ (S' j).Promised := fun j hj => by
    rw [hS j hj]; split
    · exact prepS_v _ _
    · exact ⟨rfl, rfl, Int.le_refl _⟩
  refine ⟨fun b => ?_, by omega, fun j hj hvj => ?_, fun j hj => ?_, fun b h1 h2 h3 => ?_, fun hc => ?_⟩
  · by_cases hb : b = na + 1
    · rw [hb, he]
      split at hv
      · obtain ⟨free, best, hf, hB | ⟨i, hi, _, h3, h4, _⟩⟩ := hv
        · rw [hB.2.1]; omega
        · obtain ⟨c, _, _, e⟩ := h.bal i hi h3
          rw [h4, e]; exact h.v12 c
      · omega
    · rw [hk b hb]; exact h.v12 b
  · obtain ⟨e1, e2, _⟩ := hSv j hj
    rw [e1] at hvj ⊢
    rw [e2]
    obtain ⟨c, h1, h2, h3⟩ := h.bal j hj hvj
    exact ⟨c, h1, h2, by rw [hk c (by omega)]; exact h3⟩
  · obtain ⟨_, e2, e3⟩ := hSv j hj
    have := h.low j hj
    rw [e2]; omega
  · by_cases hb : b = na + 1
    · subst hb
      rw [he] at h3
      split at hv
      · rename_i hm
        refine Nat.lt_of_lt_of_le hm (Nat.mul_le_mul_left 2 (cnt_mono fun j hj hq => ?_))
        simp only [Bool.and_eq_true, decide_eq_true_eq] at hq ⊢
        rw [hS j hj, if_pos hq.1]
        unfold prepS
        rw [if_pos hq.2]
        simp
      · exact absurd hv h3
    · rw [hk b hb] at h3
      refine Nat.lt_of_lt_of_le (h.prom b h1 (by omega) h3) (Nat.mul_le_mul_left 2 (cnt_mono fun j hj hq => ?_))
      simp only [decide_eq_true_eq] at hq ⊢
      have := (hSv j hj).2.2
      omega
  · obtain ⟨b0, e1, e2, e3, e4⟩ := h.ch hc
    refine ⟨b0, e1, ?_, ?_, fun b hb hba hvb => ?_⟩
    · refine Nat.lt_of_lt_of_le e2 (Nat.mul_le_mul_left 2 (cnt_mono fun j hj hq => ?_))
      simp only [decide_eq_true_eq] at hq ⊢
      rw [(hSv j hj).1, (hSv j hj).2.1]; exact hq
    · intro j hj h1 h2
      rw [(hSv j hj).1] at h1 ⊢
      rw [(hSv j hj).2.1] at h2
      exact e3 j hj h1 h2
    · by_cases hbb : b = na + 1
      · subst hbb
        rw [he] at hvb ⊢
        split at hv
        · rename_i hm
          obtain ⟨j, hj, hq1, hq2⟩ := both hm e2
          simp only [decide_eq_true_eq] at hq2
          obtain ⟨free, best, hf, ⟨_, _, hB⟩ | ⟨i, hi, hqi, h3, h4, h5, h6⟩⟩ := hv
          · exact absurd (hB j hj hq1) hq2.1
          · have := h6 j hj hq1 hq2.1
            rw [h4]
            exact e3 i hi h3 (by omega)
        · exact absurd hv hvb
      · rw [hk b hbb] at hvb ⊢
        exact e4 b hb (by omega) hvb

theorem PInv.send {n na ns b : Nat} {val : Nat → Int} {S S' : Nat → Acc} {chosen v : Int} {q : Nat → Bool} (h : PInv n na ns val S chosen) (hb : ns ≤ b) (hba : b ≤ na) (hvb : val b = v) (hv : v ≠ 0)
    (hS : ∀ j, j < n → S' j = if q j then propS (b : Int) v (S j) else S j) :
    (n < 2 * cnt (fun j => q j && decide ((S j).Promised ≤ (b : Int))) n → (chosen = 0 ∨ chosen = v) ∧ PInv n na (b + 1) val S' v) ∧
    (¬ n < 2 * cnt (fun j => q j && decide ((S j).Promised ≤ (b : Int))) n → PInv n na (b + 1) val S' chosen) := by
  -- how a state goes on
  have hSv : ∀ j, j < n → (q j && decide ((S j).Promised ≤ (b : Int))) = true ∧ (S' j).Value = v ∧ (S' j).Ballot = b ∧ (S' j).Promised = b ∧ (S j).Promised ≤ b ∨ (q j && decide ((S j).Promised ≤ (b : Int))) = false ∧ S' j = S j := fun j hj => by
    rw [hS j hj]
    by_cases h1 : q j = true
    · rw [if_pos h1]
      unfold propS
      by_cases h2 : (S j).Promised ≤ (b : Int)
      · rw [if_pos h2]; exact .inl ⟨by simp [h1, h2], rfl, rfl, rfl, h2⟩
      · rw [if_neg h2]; exact .inr ⟨by simp [h2], rfl⟩
    · rw [if_neg h1]; exact .inr ⟨by simp [h1], rfl⟩
  have bal : ∀ j, j < n → (S' j).Value ≠ 0 → ∃ c : Nat, (S' j).Ballot = c ∧ c < b + 1 ∧ (S' j).Value = val c := fun j hj hvj => by
    rcases hSv j hj with ⟨_, e1, e2, _, _⟩ | ⟨_, e⟩
    · exact ⟨b, e2, by omega, e1.trans hvb.symm⟩
    · rw [e] at hvj ⊢
      obtain ⟨c, h1, h2, h3⟩ := h.bal j hj hvj
      exact ⟨c, h1, by omega, h3⟩
  have low : ∀ j, j < n → 0 ≤ (S' j).Ballot ∧ (S' j).Ballot ≤ (S' j).Promised := fun j hj => by
    rcases hSv j hj with ⟨_, e1, e2, e3, _⟩ | ⟨_, e⟩
    · rw [e2, e3]; omega
    · rw [e]; exact h.low j hj
  have prom : ∀ b' : Nat, 1 ≤ b' → b' ≤ na → val b' ≠ 0 → n < 2 * cnt (fun j => decide ((b' : Int) ≤ (S' j).Promised)) n := fun b' h1 h2 h3 => by
    refine Nat.lt_of_lt_of_le (h.prom b' h1 h2 h3) (Nat.mul_le_mul_left 2 (cnt_mono fun j hj hq => ?_))
    simp only [decide_eq_true_eq] at hq ⊢
    rcases hSv j hj with ⟨_, e1, e2, e3, e4⟩ | ⟨_, e⟩
    · omega
    · rw [e]; exact hq
  -- what is chosen already is what is sent
  have hsame : chosen ≠ 0 → chosen = v := fun hc => by
    obtain ⟨b0, e1, e2, e3, e4⟩ := h.ch hc
    have := e4 b (by omega) hba (by rw [hvb]; exact hv)
    rw [← this, hvb]
  have hold : chosen ≠ 0 → ∃ b0 : Nat, b0 < b + 1 ∧ n < 2 * cnt (fun j => decide ((S' j).Value ≠ 0 ∧ (b0 : Int) ≤ (S' j).Ballot)) n ∧ (∀ j, j < n → (S' j).Value ≠ 0 → (b0 : Int) ≤ (S' j).Ballot → (S' j).Value = chosen) ∧ ∀ b' : Nat, b0 < b' → b' ≤ na → val b' ≠ 0 → val b' = chosen := fun hc => by
    obtain ⟨b0, e1, e2, e3, e4⟩ := h.ch hc
    refine ⟨b0, by omega, ?_, fun j hj h1 h2 => ?_, e4⟩
    · refine Nat.lt_of_lt_of_le e2 (Nat.mul_le_mul_left 2 (cnt_mono fun j hj hq => ?_))
      simp only [decide_eq_true_eq] at hq ⊢
      rcases hSv j hj with ⟨_, f1, f2, _, _⟩ | ⟨_, e⟩
      · rw [f1, f2]; exact ⟨hv, by omega⟩
      · rw [e]; exact hq
    · rcases hSv j hj with ⟨_, f1, f2, _, _⟩ | ⟨_, e⟩
      · rw [f1]; exact (hsame hc).symm
      · rw [e] at h1 h2 ⊢; exact e3 j hj h1 h2
  refine ⟨fun hm => ⟨?_, h.v12, by omega, bal, low, prom, fun _ => ?_⟩, fun _ => ⟨h.v12, by omega, bal, low, prom, hold⟩⟩
  · by_cases hc : chosen = 0
    · exact .inl hc
    · exact .inr (hsame hc)
  · by_cases hc : chosen = 0
    · refine ⟨b, by omega, ?_, fun j hj h1 h2 => ?_, fun b' hb' hba' hvb' => ?_⟩
      · refine Nat.lt_of_lt_of_le hm (Nat.mul_le_mul_left 2 (cnt_mono fun j hj hq => ?_))
        rcases hSv j hj with ⟨_, f1, f2, _, _⟩ | ⟨e, _⟩
        · simp only [decide_eq_true_eq]; rw [f1, f2]; exact ⟨hv, Int.le_refl _⟩
        · rw [e] at hq; cases hq
      · rcases hSv j hj with ⟨_, f1, f2, _, _⟩ | ⟨_, e⟩
        · exact f1
        · rw [e] at h1 h2
          obtain ⟨c, g1, g2, _⟩ := h.bal j hj h1
          omega
      · obtain ⟨j, hj, hq1, hq2⟩ := both hm (h.prom b' (by omega) hba' hvb')
        simp only [Bool.and_eq_true, decide_eq_true_eq] at hq1 hq2
        omega
    · have := hold hc
      rw [hsame hc] at this
      exact this
end Go.Proofs.Ytgbkgkicgaikdaa
