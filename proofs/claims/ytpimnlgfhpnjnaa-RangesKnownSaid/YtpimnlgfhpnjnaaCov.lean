/- What is had of a move that was done, number by number; rows that stay beside one block. -/
import Derived.Test.YtpimnlgfhpnjnaaRnE
namespace Go.Proofs.Ytpimnlgfhpnjnaa
open Go Go.RowKit Kf
def onceN (l : List Rg) (n : Int) : Nat := l.countP fun r => decide (r.Lo ≤ n) && decide (n < r.Hi)
theorem once_no {l : List Rg} {n : Int} (h : ∀ r ∈ l, ¬ inR r n) : onceN l n = 0 := by
  unfold onceN
  rw [List.countP_eq_zero]
  intro r hr e
  simp only [Bool.and_eq_true, decide_eq_true_iff] at e
  exact h r hr e
theorem once_cons {l : List Rg} {a : Rg} {n : Int} : onceN (a :: l) n = onceN l n + if a.Lo ≤ n ∧ n < a.Hi then 1 else 0 := by
  unfold onceN
  rw [List.countP_cons]
  by_cases h1 : a.Lo ≤ n <;> by_cases h2 : n < a.Hi <;> simp [h1, h2]
theorem once_one {l : List Rg} {n : Int} (hd : l.Pairwise Dj) {r : Rg} (hr : r ∈ l) (hn : inR r n) : onceN l n = 1 := by
  induction l with
  | nil => cases hr
  | cons a l ih =>
    rw [once_cons]
    have hp := List.pairwise_cons.1 hd
    rcases List.mem_cons.1 hr with rfl | hr
    · rw [if_pos (show r.Lo ≤ n ∧ n < r.Hi from hn), once_no (fun q hq => hp.1 q hq n hn)]
    · rw [ih hp.2 hr, if_neg (fun (e : a.Lo ≤ n ∧ n < a.Hi) => hp.1 r hr n e hn)]
theorem once_take {l : List Rg} {n : Int} {k : Nat} (hk : k < l.length) : onceN (l.take (k + 1)) n = onceN (l.take k) n + if l[k].Lo ≤ n ∧ n < l[k].Hi then 1 else 0 := by
  unfold onceN
  rw [List.take_succ_eq_append_getElem hk, List.countP_append]
  congr 1
  rw [List.countP_singleton]
  by_cases h1 : l[k].Lo ≤ n <;> by_cases h2 : n < l[k].Hi <;> simp [h1, h2]
theorem once_le {l : List Rg} {n : Int} : onceN l n ≤ l.length := List.countP_le_length
/-- what is asked of each number -/
structure At (L R : List Rg) (x : Mv) (n : Int) (was r : Rg) : Prop where
  hwas : findM R n = some was
  hnow : findM L n = some r
  honce : onceN L n = 1
  from_ : x.Lo ≤ n → n < x.Hi → was.Group = x.From
  to : x.Lo ≤ n → n < x.Hi → r.Group = x.To
  stay : ¬ (x.Lo ≤ n ∧ n < x.Hi) → r.Group = was.Group
  new : r ≠ was → r.Epoch = x.Epoch
  old : r = was → r.Group ≠ x.From ∧ r.Group ≠ x.To
theorem Val.at {L : List Rg} {E : Int} (h : Val L E) {n : Int} (h0 : 0 ≤ n) (h1 : n < 64) : ∃ r, r ∈ L ∧ inR r n ∧ findM L n = some r ∧ onceN L n = 1 := by
  have hc := cov_facts (by decide) h.cov
  obtain ⟨r, hr, hn⟩ := hc.2.2.2 n h0 h1
  exact ⟨r, hr, hn, find_in hc.2.2.1 hr hn, once_one hc.2.2.1 hr hn⟩
theorem moved_at {m : Mp} (h : Moved m) {L : List Rg} (hL : DoneL m.R m.M m.E L) {n : Int} (h0 : 0 ≤ n) (h1 : n < 64) : ∃ was r, At L m.R m.M n was r := by
  obtain ⟨f, hf⟩ := h.fit
  have hv := done_val hf (by omega) hL
  obtain ⟨r, hr, hrn, hfr, ho⟩ := hv.at h0 h1
  obtain ⟨was, hw, hwn, hfw, _⟩ := hf.val.at h0 h1
  have hnew := newR_of (e := m.E) hf hw hwn
  have hcol := new_col (e := m.E) hf (hL.1.mem_iff.1 hr) h0 h1 hrn
  have hwe := hf.val.rng was hw
  have hfrom : m.M.Lo ≤ n → n < m.M.Hi → was.Group = m.M.From := fun a b => by
    have e : inR f n := ⟨by have := hf.x2; omega, by have := hf.x3; omega⟩
    have := dj_of hf hw (fit_f hf).1 hwn e
    rw [this]; exact (fit_f hf).2
  refine ⟨was, r, hfw, hfr, ho, hfrom, fun a b => ?_, fun a => ?_, fun a => ?_, fun a => ?_⟩
  · rw [hnew, if_pos ⟨a, b⟩] at hcol; exact hcol.1.symm
  · rw [hnew, if_neg a] at hcol
    split at hcol <;> exact hcol.1.symm
  · rw [h.epoch]
    rw [hnew] at hcol
    split at hcol
    · exact hcol.2.symm
    · split at hcol
      · exact hcol.2.symm
      · rename_i h2 h3
        exfalso
        apply a
        have hin : was ∈ doneU m.R m.M m.E := by
          rw [doneU_eq hf.t2 hf.val.dst]
          exact List.mem_append_left _ (other_in hf hw (fun e => h3 (.inl e)) (fun e => h3 (.inr e)))
        have hin2 := hL.1.mem_iff.2 hin
        have := find_in (cov_facts (by decide) hv.cov).2.2.1 hin2 hwn
        rw [hfr] at this
        injection this
  · subst a
    rw [hnew] at hcol
    split at hcol
    · have e := hcol.2; simp only at e; omega
    · split at hcol
      · have e := hcol.2; simp only at e; omega
      · rename_i h2 h3
        exact ⟨fun e => h3 (.inl e), fun e => h3 (.inr e)⟩
/-! ### Rows that stay beside one block -/
structure RowN (w : World) (G T : Nat) (v : Value) (n sz : Nat) (cs : List Value) : Prop where
  rd : Row w v n sz cs
  far : cs ≠ [] → ∀ b, v.ownBlock = some b → b ≠ G ∧ b < T
theorem row_lt {w : World} {v : Value} {n sz : Nat} {cs : List Value} (h : Row w v n sz cs) (hc : cs ≠ []) : ∀ b, v.ownBlock = some b → b < w.heap.size := by
  intro b hb
  obtain ⟨u, t, rfl⟩ := List.exists_cons_of_ne_nil hc
  obtain ⟨a, c, rfl, _⟩ := h.shape
  cases a with
  | none => cases hb
  | some a =>
    have hcell := h.cell 0 u rfl
    have : b = a.block := by simpa [Value.ownBlock] using hb.symm
    subst this
    have hbl : ((base (.slice (some a) n c)).add 0).block = a.block := by simp only [base, Addr.add]; split <;> rfl
    unfold World.cell? at hcell
    rw [hbl] at hcell
    apply Nat.lt_of_not_le
    intro hle
    rw [Array.getElem?_eq_none hle] at hcell
    simp at hcell
section
variable {w w' : World} {G T : Nat} {v : Value} {n sz : Nat} {cs : List Value}
theorem RowN.of (h : Row w v n sz cs) (hG : w.heap.size ≤ G) : RowN w G w.heap.size v n sz cs := ⟨h, fun hc b hb => by have := row_lt h hc b hb; exact ⟨by omega, this⟩⟩
theorem RowN.own {B T' : Nat} {e : TypeId} (h : OwnT w B T' e sz v n cs) (hG : G < B) (hT : T' ≤ T) : RowN w G T v n sz cs := ⟨h.rd, fun _ b hb => by
  have h1 := (h.own.lt b hb).1; have h2 := h.top b hb; exact ⟨by omega, by omega⟩⟩
theorem RowN.up {T' : Nat} (h : RowN w G T v n sz cs) (hT : T ≤ T') : RowN w G T' v n sz cs := ⟨h.rd, fun hc b hb => by have := h.far hc b hb; exact ⟨this.1, by omega⟩⟩
theorem RowN.ext (h : RowN w G T v n sz cs) (k : Ext w w') : RowN w' G T v n sz cs := ⟨h.rd.ext k, h.far⟩
theorem RowN.keptO {g' : Nat} (h : RowN w G T v n sz cs) (k : w.grownBy w' (some g')) (hne : g' = G ∨ T ≤ g') : RowN w' G T v n sz cs := by
  refine ⟨?_, h.far⟩
  by_cases hc : cs = []
  · subst hc
    exact ⟨h.rd.shape, h.rd.len, fun i u hu => by simp at hu⟩
  · refine h.rd.keptO k fun e => ?_
    have := h.far hc g' e
    omega
end
end Go.Proofs.Ytpimnlgfhpnjnaa
