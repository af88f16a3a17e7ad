/- Maps: the code and the document say and do the same. -/
import Derived.Test.YtpimnlgfhpnjnaaRnD
namespace Go.Proofs.Ytpimnlgfhpnjnaa
open Go Go.RowKit Kf
/-! ### What a map may be, said twice -/
def covF : Int → List Rg → Prop
  | a, [] => a = 64
  | a, r :: l => r.Lo = a ∧ a < r.Hi ∧ r.Hi ≤ 64 ∧ covF r.Hi l
def prevA (a : Int) (l : List Rg) (k : Nat) : Int := if k = 0 then a else (l.getD (k - 1) Rg.zero).Hi
theorem prevA_cons {a : Int} {r : Rg} {l : List Rg} {k : Nat} : prevA a (r :: l) (k + 1) = prevA r.Hi l k := by
  unfold prevA
  cases k with
  | zero => simp
  | succ k => simp
theorem cov_idx : ∀ {l : List Rg} {a : Int}, covF a l ↔ (∀ k, k < l.length → (l.getD k Rg.zero).Lo = prevA a l k ∧ (l.getD k Rg.zero).Lo < (l.getD k Rg.zero).Hi ∧ (l.getD k Rg.zero).Hi ≤ 64) ∧ prevA a l l.length = 64
  | [], a => by simp [covF, prevA]
  | r :: l, a => by
    unfold covF
    rw [cov_idx (l := l), List.length_cons, prevA_cons]
    constructor
    · rintro ⟨h1, h2, h3, h4, h5⟩
      refine ⟨fun k hk => ?_, h5⟩
      cases k with
      | zero => refine ⟨by simpa [prevA] using h1, by simp; omega, by simpa using h3⟩
      | succ k =>
        have := h4 k (by omega)
        rw [prevA_cons]; simpa using this
    · rintro ⟨h1, h2⟩
      have h0 := h1 0 (by simp)
      simp [prevA] at h0
      refine ⟨h0.1, by omega, h0.2.2, fun k hk => ?_, h2⟩
      have := h1 (k + 1) (by omega)
      rw [prevA_cons] at this; simpa using this
structure Val (l : List Rg) (E : Int) : Prop where
  cov : covF 0 l
  rng : ∀ r ∈ l, 1 ≤ r.Group ∧ r.Group ≤ 4 ∧ 1 ≤ r.Epoch ∧ r.Epoch ≤ E
  dst : l.Pairwise fun a b => a.Group ≠ b.Group
theorem getD_in {l : List Rg} {k : Nat} (h : k < l.length) : l.getD k Rg.zero = l[k] := by simp [h]
theorem dst_idx {l : List Rg} : (l.Pairwise fun a b => a.Group ≠ b.Group) ↔ ∀ k, k < l.length → ((l.take k).all fun q => decide (q.Group ≠ (l.getD k Rg.zero).Group)) = true := by
  rw [List.pairwise_iff_getElem]
  constructor
  · intro h k hk
    rw [List.all_eq_true]
    intro x hx
    obtain ⟨j, hj, rfl⟩ := List.mem_take_iff_getElem.1 hx
    rw [getD_in hk]
    exact decide_eq_true (h j k (by omega) hk (by omega))
  · intro h i j hi hj hij
    have := List.all_eq_true.1 (h j hj) l[i] (List.mem_take_iff_getElem.2 ⟨i, by omega, rfl⟩)
    rw [getD_in hj] at this
    exact of_decide_eq_true this
theorem mem_idx {l : List Rg} {P : Rg → Prop} : (∀ r ∈ l, P r) ↔ ∀ k, k < l.length → P (l.getD k Rg.zero) := by
  constructor
  · intro h k hk; rw [getD_in hk]; exact h _ (List.getElem_mem hk)
  · intro h r hr
    obtain ⟨k, hk, rfl⟩ := List.getElem_of_mem hr
    have := h k hk
    rwa [getD_in hk] at this
theorem val_ok {l : List Rg} {E : Int} : (okB l E l.length = true ∧ prevHi l l.length = 64) ↔ Val l E := by
  have hp : prevHi l = prevA 0 l := rfl
  unfold okB
  simp only [List.all_eq_true, List.mem_range, goodB, Bool.and_eq_true, decide_eq_true_iff]
  constructor
  · rintro ⟨h, h2⟩
    refine ⟨cov_idx.2 ⟨fun k hk => ?_, hp ▸ h2⟩, mem_idx.2 fun k hk => ?_, dst_idx.2 fun k hk => ?_⟩
    · obtain ⟨q1, q2, q3, _⟩ := h k hk; exact ⟨hp ▸ q1, q2, q3⟩
    · obtain ⟨_, _, _, q4, q5, _, q7, q8⟩ := h k hk; exact ⟨q4, q5, q7, q8⟩
    · obtain ⟨_, _, _, _, _, q6, _⟩ := h k hk
      rw [List.all_eq_true]; intro x hx; exact decide_eq_true (q6 x hx)
  · rintro ⟨c, r, d⟩
    obtain ⟨c1, c2⟩ := cov_idx.1 c
    have r' := mem_idx.1 r
    have d' := dst_idx.1 d
    refine ⟨fun k hk => ?_, hp ▸ c2⟩
    obtain ⟨q1, q2, q3⟩ := c1 k hk
    obtain ⟨q4, q5, q7, q8⟩ := r' k hk
    exact ⟨hp ▸ q1, q2, q3, q4, q5, fun x hx => of_decide_eq_true (List.all_eq_true.1 (d' k hk) x hx), q7, q8⟩
theorem val_ref {l : List Rg} {E : Int} : ((covB l l.length && decide (prevHi l l.length = 64)) = true ∧ apB l E l.length = true) ↔ Val l E := by
  have hp : prevHi l = prevA 0 l := rfl
  unfold covB apB
  simp only [List.all_eq_true, List.mem_range, goodC, apart1, goodA, Bool.and_eq_true, decide_eq_true_iff]
  constructor
  · rintro ⟨⟨h, h2⟩, h3⟩
    refine ⟨cov_idx.2 ⟨fun k hk => ?_, hp ▸ h2⟩, mem_idx.2 fun k hk => ?_, dst_idx.2 fun k hk => ?_⟩
    · obtain ⟨q1, q2, q3⟩ := h k hk; exact ⟨hp ▸ q1, by rw [q1]; exact q2, q3⟩
    · obtain ⟨⟨q4, q5, q7, q8⟩, _⟩ := h3 k hk; exact ⟨q4, q5, q7, q8⟩
    · obtain ⟨_, q6⟩ := h3 k hk
      rw [List.all_eq_true]; intro x hx; exact decide_eq_true (q6 x hx)
  · rintro ⟨c, r, d⟩
    obtain ⟨c1, c2⟩ := cov_idx.1 c
    have r' := mem_idx.1 r
    have d' := dst_idx.1 d
    refine ⟨⟨fun k hk => ?_, hp ▸ c2⟩, fun k hk => ?_⟩
    · obtain ⟨q1, q2, q3⟩ := c1 k hk
      exact ⟨hp ▸ q1, by rw [hp, ← q1]; exact q2, q3⟩
    · obtain ⟨q4, q5, q7, q8⟩ := r' k hk
      exact ⟨⟨q4, q5, q7, q8⟩, fun x hx => of_decide_eq_true (List.all_eq_true.1 (d' k hk) x hx)⟩
theorem Val.mono {l : List Rg} {E E' : Int} (h : Val l E) (hE : E ≤ E') : Val l E' := ⟨h.cov, fun r hr => by have := h.rng r hr; omega, h.dst⟩
theorem Val.pos {l : List Rg} {E : Int} (h : Val l E) : 1 ≤ E := by
  cases l with
  | nil => have := h.cov; simp [covF] at this
  | cons r l => have := h.rng r (by simp); omega
theorem check_iff {m : Mp} : checkB m = true ↔ Val m.R (leastE m) ∧ m.E ≤ 1099511627776 ∧ (m.M = Mv.zero ∨ planned ⟨m.R, leastE m, Mv.zero⟩ m.M = 0 ∧ { m.M with Epoch := leastE m + 1 } = m.M) := by
  unfold checkB
  rw [← val_ok]
  simp only [Bool.and_eq_true, Bool.or_eq_true, decide_eq_true_iff, and_assoc]
theorem checkR_iff {m : Mp} : checkR m = true ↔ Val m.R m.E ∧ m.E ≤ 1099511627776 ∧ (m.M = Mv.zero ∨ m.M.Epoch = m.E ∧ apB m.R (m.E - 1) m.R.length = true ∧ planned ⟨m.R, m.E - 1, Mv.zero⟩ m.M = 0) := by
  unfold checkR
  rw [← val_ref, Bool.and_eq_true (covB _ _ && _)]
  simp only [Bool.and_eq_true, Bool.or_eq_true, decide_eq_true_iff, and_assoc]
theorem least_of {m : Mp} (hM : m.M ≠ Mv.zero) (hE : -9223372036854775808 < m.E ∧ m.E ≤ 9223372036854775807) : leastE m = m.E - 1 := by
  unfold leastE; rw [if_neg hM, w64 (by omega)]
theorem check_eq {m : Mp} (hE : -9223372036854775808 ≤ m.E ∧ m.E ≤ 9223372036854775807) : checkB m = checkR m := by
  rw [Bool.eq_iff_iff, check_iff, checkR_iff]
  by_cases hM : m.M = Mv.zero
  · have hl : leastE m = m.E := if_pos hM
    rw [hl]; simp [hM]
  · by_cases h0 : m.E = -9223372036854775808
    · constructor
      · rintro ⟨_, _, h3⟩
        rcases h3 with h3 | ⟨h3, _⟩
        · exact absurd h3 hM
        · have h4 := planned_lt h3
          have hl : leastE m = 9223372036854775807 := by unfold leastE; rw [if_neg hM, h0]; decide
          simp only at h4; omega
      · rintro ⟨h1, _⟩
        have := h1.pos; omega
    · have hl := least_of hM (by omega)
      rw [hl]
      constructor
      · rintro ⟨h1, h2, h3⟩
        refine ⟨h1.mono (by omega), h2, ?_⟩
        rcases h3 with h3 | ⟨h3, h4⟩
        · exact .inl h3
        · refine .inr ⟨?_, (val_ref.2 h1).2, h3⟩
          have := congrArg Mv.Epoch h4
          simp only at this; omega
      · rintro ⟨h1, h2, h3⟩
        rcases h3 with h3 | ⟨h3, h4, h5⟩
        · exact absurd h3 hM
        · refine ⟨val_ref.1 ⟨(val_ref.2 h1).1, h4⟩, h2, .inr ⟨h5, ?_⟩⟩
          rw [Mv.eq_iff]; simp only [Mv.ints, List.cons.injEq, and_true]; omega
/-- a map that has a move -/
structure Moved (m : Mp) : Prop where
  val : Val m.R (m.E - 1)
  low : m.E ≤ 1099511627776
  epoch : m.M.Epoch = m.E
  plan : planned ⟨m.R, m.E - 1, Mv.zero⟩ m.M = 0
theorem check_moved {m : Mp} (hE : -9223372036854775808 ≤ m.E ∧ m.E ≤ 9223372036854775807) (h : checkB m = true) (hM : m.M ≠ Mv.zero) : Moved m := by
  rw [check_eq hE, checkR_iff] at h
  obtain ⟨h1, h2, h3⟩ := h
  rcases h3 with h3 | ⟨h3, h4, h5⟩
  · exact absurd h3 hM
  · exact ⟨val_ref.1 ⟨(val_ref.2 h1).1, h4⟩, h2, h3, h5⟩
theorem check_val {m : Mp} (hE : -9223372036854775808 ≤ m.E ∧ m.E ≤ 9223372036854775807) (h : checkB m = true) : Val m.R m.E ∧ m.E ≤ 1099511627776 := by
  rw [check_eq hE, checkR_iff] at h; exact ⟨h.1, h.2.1⟩
theorem planned_congr {R : List Rg} {E : Int} {M M' : Mv} {x : Mv} {e : Int} (h : ¬ 0 < M.Epoch) (h' : ¬ 0 < M'.Epoch) : planned ⟨R, E, M⟩ x = planned ⟨R, E, M'⟩ { x with Epoch := e } := by
  unfold planned
  rw [if_neg h, if_neg h']; rfl
theorem check_plan {m : Mp} {x : Mv} (hE : -9223372036854775808 ≤ m.E ∧ m.E ≤ 9223372036854775807) (h : checkB m = true) (hp : planned m x = 0) : checkB ⟨m.R, m.E + 1, { x with Epoch := m.E + 1 }⟩ = true ∧ m.M = Mv.zero := by
  have hlt := planned_lt hp
  obtain ⟨hv, hl⟩ := check_val hE h
  have hpos := hv.pos
  have hn : ¬ 0 < m.M.Epoch := fun q => by unfold planned at hp; rw [if_pos q] at hp; cases hp
  have hM : m.M = Mv.zero := by
    by_cases q : m.M = Mv.zero
    · exact q
    · have := (check_moved hE h q).epoch; omega
  refine ⟨?_, hM⟩
  rw [check_iff]
  have hMz : ({ x with Epoch := m.E + 1 } : Mv) ≠ Mv.zero := fun e => by have := congrArg Mv.Epoch e; simp only at this; omega
  have hle : leastE ⟨m.R, m.E + 1, { x with Epoch := m.E + 1 }⟩ = m.E := by rw [least_of hMz (by simp only; omega)]; simp only; omega
  rw [hle]
  exact ⟨hv, by show m.E + 1 ≤ _; omega, .inr ⟨by rw [← hp]; exact (planned_congr (M := m.M) hn (by decide)).symm, rfl⟩⟩
/-! ### Numbers, one by one -/
def inR (r : Rg) (n : Int) : Prop := r.Lo ≤ n ∧ n < r.Hi
def Dj (r q : Rg) : Prop := ∀ n, inR r n → ¬ inR q n
theorem find_in {l : List Rg} {n : Int} {r : Rg} (hd : l.Pairwise Dj) (hr : r ∈ l) (hn : inR r n) : findM l n = some r := by
  induction l with
  | nil => cases hr
  | cons a l ih =>
    rw [List.pairwise_cons] at hd
    unfold findM
    by_cases ha : inR a n
    · rw [List.find?_cons_of_pos (by simp [ha.1, ha.2])]
      rcases List.mem_cons.1 hr with e | e
      · rw [e]
      · exact absurd hn (hd.1 r e n ha)
    · rw [List.find?_cons_of_neg (by simp only [Bool.and_eq_true, decide_eq_true_iff]; exact ha)]
      rcases List.mem_cons.1 hr with e | e
      · subst e; exact absurd hn ha
      · exact ih hd.2 e
theorem find_mem {l : List Rg} {n : Int} {r : Rg} (h : findM l n = some r) : r ∈ l ∧ inR r n := by
  have h2 := List.find?_some h
  simp only [Bool.and_eq_true, decide_eq_true_iff] at h2
  exact ⟨List.mem_of_find?_eq_some h, h2⟩
theorem cov_facts : ∀ {l : List Rg} {a : Int}, 0 ≤ a → covF a l → a ≤ 64 ∧ (∀ r ∈ l, a ≤ r.Lo ∧ r.Lo < r.Hi ∧ r.Hi ≤ 64) ∧ l.Pairwise Dj ∧ ∀ n, a ≤ n → n < 64 → ∃ r ∈ l, inR r n
  | [], a, h0, h => by simp only [covF] at h; subst h; exact ⟨by omega, (fun r hr => by cases hr), List.Pairwise.nil, fun n h1 h2 => by omega⟩
  | r :: l, a, h0, h => by
    obtain ⟨h1, h2, h3, h4⟩ := h
    obtain ⟨c1, c2, c3, c4⟩ := cov_facts (by omega) h4
    refine ⟨by omega, fun q hq => ?_, List.pairwise_cons.2 ⟨fun q hq n hn hn2 => ?_, c3⟩, fun n hn1 hn2 => ?_⟩
    · rcases List.mem_cons.1 hq with e | e
      · subst e; omega
      · have := c2 q e; omega
    · have := c2 q hq; unfold inR at hn hn2; omega
    · by_cases hq : n < r.Hi
      · exact ⟨r, by simp, by unfold inR; omega⟩
      · obtain ⟨q, hq1, hq2⟩ := c4 n (by omega) hn2
        exact ⟨q, List.mem_cons_of_mem _ hq1, hq2⟩
/-- sorted ranges that part the numbers cover them -/
theorem cov_of : ∀ {l : List Rg} {a : Int}, a ≤ 64 → (l.Pairwise fun p q => p.Lo ≤ q.Lo) → (∀ r ∈ l, a ≤ r.Lo ∧ r.Lo < r.Hi ∧ r.Hi ≤ 64) → l.Pairwise Dj → (∀ n, a ≤ n → n < 64 → ∃ r ∈ l, inR r n) → covF a l
  | [], a, ha, _, _, _, hc => by
    by_cases h : a < 64
    · obtain ⟨r, hr, _⟩ := hc a (by omega) h; cases hr
    · simp only [covF]; omega
  | r :: l, a, ha, hs, hb, hd, hc => by
    rw [List.pairwise_cons] at hs hd
    have hr := hb r (by simp)
    obtain ⟨q, hq, hqa⟩ := hc a (by omega) (by omega)
    have hlo : r.Lo = a := by
      rcases List.mem_cons.1 hq with e | e
      · subst e; unfold inR at hqa; omega
      · have := hs.1 q e; unfold inR at hqa; omega
    have hge : ∀ q ∈ l, r.Hi ≤ q.Lo := fun q hq => by
      have h1 := hs.1 q hq
      have h2 := hb q (List.mem_cons_of_mem _ hq)
      have h3 := hd.1 q hq q.Lo
      unfold inR at h3; omega
    refine ⟨hlo, by omega, hr.2.2, cov_of hr.2.2 hs.2 (fun q hq => ⟨hge q hq, (hb q (List.mem_cons_of_mem _ hq)).2⟩) hd.2 fun n hn1 hn2 => ?_⟩
    obtain ⟨q, hq, hqn⟩ := hc n (by omega) hn2
    rcases List.mem_cons.1 hq with e | e
    · subst e; unfold inR at hqn; omega
    · exact ⟨q, e, hqn⟩
/-! ### Runs -/
def trunc : List Rg → Int → List Rg
  | [], _ => []
  | r :: l, n => if n ≤ r.Lo then [] else if n < r.Hi then [{ r with Hi := n }] else r :: trunc l n
theorem trunc_lo {l : List Rg} {a n : Int} (h : covF a l) (hn : n ≤ a) : trunc l n = [] := by
  cases l with
  | nil => rfl
  | cons r l => unfold trunc; rw [if_pos (by have := h.1; omega)]
theorem run_step {f : Int → Rg} {n : Nat} : ∀ {l : List Rg} {a : Int} {P : List Rg}, covF a l → (l.Pairwise fun p q => p.Group ≠ q.Group) → (∀ p, P.getLast? = some p → ∀ q ∈ l, p.Group ≠ q.Group) → a ≤ (n : Int) → (n : Int) < 64 →
    (∀ r ∈ l, inR r n → (f n).Group = r.Group ∧ (f n).Epoch = r.Epoch) → run1 f (P ++ trunc l n) n = P ++ trunc l ((n : Int) + 1)
  | [], a, P, hc, _, _, h1, h2, _ => by simp only [covF] at hc; omega
  | r :: l, a, P, hc, hd, hP, h1, h2, hf => by
    obtain ⟨c1, c2, c3, c4⟩ := hc
    rw [List.pairwise_cons] at hd
    by_cases hin : (n : Int) < r.Hi
    · have hfr := hf r (by simp) (by unfold inR; omega)
      have hnext : trunc (r :: l) ((n : Int) + 1) = [⟨r.Lo, (n : Int) + 1, r.Group, r.Epoch⟩] := by
        unfold trunc
        rw [if_neg (by omega)]
        by_cases he : (n : Int) + 1 < r.Hi
        · rw [if_pos he]
        · have hh : r.Hi = (n : Int) + 1 := by omega
          rw [if_neg he, trunc_lo c4 (by omega), ← hh]
      rw [hnext]
      by_cases hs : (n : Int) = r.Lo
      · have h0 : trunc (r :: l) n = [] := by unfold trunc; rw [if_pos (by omega)]
        rw [h0, List.append_nil, run1_no (fun p hp => by rw [hfr.1]; exact hP p hp r (by simp)), hfr.1, hfr.2, hs]
      · have h0 : trunc (r :: l) n = [{ r with Hi := (n : Int) }] := by unfold trunc; rw [if_neg (by omega), if_pos hin]
        rw [h0]
        unfold run1
        rw [List.getLast?_append, List.getLast?_singleton]
        simp only [Option.or_some, Option.some_or]
        rw [if_pos hfr.1.symm]
        simp
    · have h0 : trunc (r :: l) n = r :: trunc l n := (if_neg (by omega)).trans (if_neg hin)
      have h3 : trunc (r :: l) ((n : Int) + 1) = r :: trunc l ((n : Int) + 1) := (if_neg (by omega)).trans (if_neg (by omega))
      rw [h0, h3]
      have := run_step (f := f) (n := n) (P := P ++ [r]) c4 hd.2 (fun p hp q hq => by rw [List.getLast?_append, List.getLast?_singleton] at hp; simp at hp; subst hp; exact hd.1 q hq) (by omega) h2 (fun q hq hn => hf q (List.mem_cons_of_mem _ hq) hn)
      simpa [List.append_assoc] using this
theorem trunc_all : ∀ {l : List Rg} {a : Int}, covF a l → trunc l 64 = l
  | [], _, _ => rfl
  | r :: l, a, ⟨c1, c2, c3, c4⟩ => by
    unfold trunc
    rw [if_neg (by omega)]
    by_cases h : (64 : Int) < r.Hi
    · omega
    · rw [if_neg h, trunc_all c4]
theorem runs_eq {f : Int → Rg} {l : List Rg} (hc : covF 0 l) (hd : l.Pairwise fun p q => p.Group ≠ q.Group) (hf : ∀ (n : Nat), n < 64 → ∀ r ∈ l, inR r n → (f n).Group = r.Group ∧ (f n).Epoch = r.Epoch) : runs f 64 = l := by
  have key : ∀ n : Nat, n ≤ 64 → runs f n = trunc l n := by
    intro n
    induction n with
    | zero => intro _; rw [show ((0 : Nat) : Int) = 0 from rfl, trunc_lo hc (Int.le_refl _)]; rfl
    | succ n ih =>
      intro hn
      rw [runs_succ, ih (by omega)]
      have := run_step (f := f) (n := n) (P := []) hc hd (fun p hp => by cases hp) (by omega) (by omega) (hf n (by omega))
      simpa using this
  rw [key 64 (Nat.le_refl _)]
  exact trunc_all hc
/-! ### Done -/
theorem planned_facts {m : Mp} {x : Mv} (h : planned m x = 0) : ∃ f, ofG m.R x.From = some f ∧ x.Lo < x.Hi ∧ f.Lo ≤ x.Lo ∧ x.Hi ≤ f.Hi ∧ ¬ (f.Lo < x.Lo ∧ x.Hi < f.Hi) ∧ 1 ≤ x.To ∧ x.To ≤ 4 ∧ x.To ≠ x.From ∧ ∀ t, ofG m.R x.To = some t → t.Hi = x.Lo ∨ t.Lo = x.Hi := by
  unfold planned at h
  split at h
  · cases h
  · split at h
    · cases h
    · rename_i f hf
      split at h
      · cases h
      · rename_i h1
        split at h
        · cases h
        · rename_i h2
          split at h
          · cases h
          · rename_i h3
            simp only [badR, Bool.or_eq_true, Bool.and_eq_true, decide_eq_true_iff] at h1
            simp only [badG, Bool.or_eq_true, decide_eq_true_iff] at h2
            refine ⟨f, hf, by omega, by omega, by omega, by omega, by omega, by omega, by omega, fun t ht => ?_⟩
            unfold orderB at h3
            rw [ht] at h3
            simp only [Bool.and_eq_true, decide_eq_true_iff] at h3
            omega
theorem of_mem {l : List Rg} {g : Int} {r : Rg} (h : ofG l g = some r) : r ∈ l ∧ r.Group = g := by
  have h2 := List.find?_some h
  exact ⟨List.mem_of_find?_eq_some h, of_decide_eq_true h2⟩
theorem of_uniq {l : List Rg} {g : Int} {r : Rg} (hd : l.Pairwise fun p q => p.Group ≠ q.Group) (hr : r ∈ l) (hg : r.Group = g) : ofG l g = some r := by
  induction l with
  | nil => cases hr
  | cons a l ih =>
    rw [List.pairwise_cons] at hd
    unfold ofG
    by_cases ha : a.Group = g
    · rw [List.find?_cons_of_pos (by simp [ha])]
      rcases List.mem_cons.1 hr with e | e
      · rw [e]
      · exact absurd (ha.trans hg.symm) (hd.1 r e)
    · rw [List.find?_cons_of_neg (by simp [ha])]
      rcases List.mem_cons.1 hr with e | e
      · subst e; exact absurd hg ha
      · exact ih hd.2 e
theorem of_none {l : List Rg} {g : Int} (h : ofG l g = none) : ∀ r ∈ l, r.Group ≠ g := fun r hr e => by
  have := List.find?_eq_none.1 h r hr
  simp [e] at this
def gD (x : Mv) (e : Int) (r : Rg) : Option Rg := if r.Group = x.From then (if (cutR x e r).Lo < (cutR x e r).Hi then some (cutR x e r) else none) else if r.Group = x.To then none else some r
def mergeT (s t : Rg) : Rg := ⟨min s.Lo t.Lo, max s.Hi t.Hi, s.Group, s.Epoch⟩
theorem done_fst {x : Mv} {e : Int} : ∀ (l : List Rg) (s : List Rg × Rg), (l.foldl (done1 x e) s).1 = s.1 ++ l.filterMap (gD x e)
  | [], s => by simp
  | r :: l, s => by
    rw [List.foldl_cons, done_fst l, List.filterMap_cons]
    unfold done1 gD
    by_cases h1 : r.Group = x.From
    · rw [if_pos h1, if_pos h1]
      by_cases h2 : (cutR x e r).Lo < (cutR x e r).Hi
      · rw [if_pos h2, if_pos h2]; simp
      · rw [if_neg h2, if_neg h2]
    · rw [if_neg h1, if_neg h1]
      by_cases h2 : r.Group = x.To
      · rw [if_pos h2, if_pos h2]
      · rw [if_neg h2, if_neg h2]; simp
theorem done_snd {x : Mv} {e : Int} (hT : x.To ≠ x.From) : ∀ (l : List Rg) (s : List Rg × Rg), (l.Pairwise fun p q => p.Group ≠ q.Group) → (l.foldl (done1 x e) s).2 = match ofG l x.To with | none => s.2 | some t => mergeT s.2 t
  | [], s, _ => rfl
  | r :: l, s, hd => by
    rw [List.pairwise_cons] at hd
    rw [List.foldl_cons, done_snd hT l _ hd.2]
    unfold done1
    by_cases h1 : r.Group = x.From
    · have h3 : ofG (r :: l) x.To = ofG l x.To := List.find?_cons_of_neg (by simp [h1]; exact fun e => hT e.symm)
      have hs : (if (cutR x e r).Lo < (cutR x e r).Hi then (s.1 ++ [cutR x e r], s.2) else s).2 = s.2 := by split <;> rfl
      rw [if_pos h1, h3, hs]
    · rw [if_neg h1]
      by_cases h2 : r.Group = x.To
      · have h3 : ofG (r :: l) x.To = some r := List.find?_cons_of_pos (by simp [h2])
        have h4 : ofG l x.To = none := List.find?_eq_none.2 fun q hq => by have := hd.1 q hq; simp; omega
        rw [if_pos h2, h3, h4]; rfl
      · have h3 : ofG (r :: l) x.To = ofG l x.To := List.find?_cons_of_neg (by simp [h2])
        rw [if_neg h2, h3]
def toF (l : List Rg) (x : Mv) (e : Int) : Rg := match ofG l x.To with
  | none => toR x e
  | some t => mergeT (toR x e) t
section
variable {R : List Rg} {x : Mv} {e E : Int} {f : Rg}
theorem doneU_eq (hT : x.To ≠ x.From) (hd : R.Pairwise fun p q => p.Group ≠ q.Group) : doneU R x e = R.filterMap (gD x e) ++ [toF R x e] := by
  show (R.foldl (done1 x e) ([], toR x e)).1 ++ [(R.foldl (done1 x e) ([], toR x e)).2] = _
  rw [done_fst, done_snd hT R _ hd]; rfl
/-- what is asked of a move that is done -/
structure Fit (R : List Rg) (x : Mv) (f : Rg) (E : Int) : Prop where
  val : Val R E
  of : ofG R x.From = some f
  x1 : x.Lo < x.Hi
  x2 : f.Lo ≤ x.Lo
  x3 : x.Hi ≤ f.Hi
  x4 : ¬ (f.Lo < x.Lo ∧ x.Hi < f.Hi)
  t1 : 1 ≤ x.To ∧ x.To ≤ 4
  t2 : x.To ≠ x.From
  t3 : ∀ t, ofG R x.To = some t → t.Hi = x.Lo ∨ t.Lo = x.Hi
theorem cut_pts (h : Fit R x f E) (n : Int) : inR (cutR x e f) n ↔ inR f n ∧ ¬ (x.Lo ≤ n ∧ n < x.Hi) := by
  have := h.x1; have := h.x2; have := h.x3; have := h.x4
  unfold cutR inR
  split <;> simp only <;> omega
theorem to_pts (h : Fit R x f E) (n : Int) : inR (toF R x e) n ↔ (x.Lo ≤ n ∧ n < x.Hi) ∨ ∃ t, ofG R x.To = some t ∧ inR t n := by
  unfold toF
  cases ht : ofG R x.To with
  | none => simp [inR, toR]
  | some t =>
    have h1 := h.t3 t ht
    have h2 := (cov_facts (by decide) h.val.cov).2.1 t (of_mem ht).1
    have h3 := h.x1
    simp only [mergeT, toR, inR, Option.some.injEq, exists_eq_left']
    omega
theorem fit_f (h : Fit R x f E) : f ∈ R ∧ f.Group = x.From := of_mem h.of
/-- which of the new ranges there are -/
theorem new_mem (h : Fit R x f E) {q : Rg} (hq : q ∈ R.filterMap (gD x e)) : (q ∈ R ∧ q.Group ≠ x.From ∧ q.Group ≠ x.To) ∨ (q = cutR x e f ∧ q.Lo < q.Hi) := by
  obtain ⟨r, hr, hg⟩ := List.mem_filterMap.1 hq
  unfold gD at hg
  split at hg
  · rename_i h1
    have hrf : r = f := by have := (of_uniq h.val.dst hr h1).symm.trans h.of; injection this
    subst hrf
    split at hg
    · injection hg with hg; subst hg; exact .inr ⟨rfl, by assumption⟩
    · cases hg
  · split at hg
    · cases hg
    · injection hg with hg; subst hg; exact .inl ⟨hr, by assumption, by assumption⟩
theorem other_in (h : Fit R x f E) {r : Rg} (hr : r ∈ R) (h1 : r.Group ≠ x.From) (h2 : r.Group ≠ x.To) : r ∈ R.filterMap (gD x e) := List.mem_filterMap.2 ⟨r, hr, by unfold gD; rw [if_neg h1, if_neg h2]⟩
theorem cut_in (h : Fit R x f E) (h1 : (cutR x e f).Lo < (cutR x e f).Hi) : cutR x e f ∈ R.filterMap (gD x e) := List.mem_filterMap.2 ⟨f, (fit_f h).1, by unfold gD; rw [if_pos (fit_f h).2, if_pos h1]⟩
theorem dj_of (h : Fit R x f E) {a b : Rg} {n : Int} (ha : a ∈ R) (hb : b ∈ R) (h1 : inR a n) (h2 : inR b n) : a = b := by
  have hd := (cov_facts (by decide) h.val.cov).2.2.1
  have e1 := find_in hd ha h1
  have e2 := find_in hd hb h2
  rw [e1] at e2; injection e2
theorem pts (h : Fit R x f E) {q : Rg} (hq : q ∈ R.filterMap (gD x e)) {n : Int} (hn : inR q n) : ∃ r ∈ R, inR r n ∧ r.Group = q.Group ∧ q.Group ≠ x.To ∧ ¬ (x.Lo ≤ n ∧ n < x.Hi) := by
  rcases new_mem h hq with ⟨h1, h2, h3⟩ | ⟨h1, h2⟩
  · refine ⟨q, h1, hn, rfl, h3, fun hx => h2 ?_⟩
    have := dj_of h h1 (fit_f h).1 hn (by unfold inR; have := h.x2; have := h.x3; omega)
    rw [this]; exact (fit_f h).2
  · subst h1
    have hc := (cut_pts h n).1 hn
    have hg : (cutR x e f).Group = f.Group := by unfold cutR; split <;> rfl
    exact ⟨f, (fit_f h).1, hc.1, hg.symm, by rw [hg, (fit_f h).2]; exact fun e => h.t2 e.symm, hc.2⟩
theorem gD_group {r q : Rg} (h : gD x e r = some q) : q.Group = r.Group := by
  unfold gD at h
  split at h
  · split at h
    · injection h with h; subst h; unfold cutR; split <;> rfl
    · cases h
  · split at h
    · cases h
    · injection h with h; subst h; rfl
theorem toF_group : (toF R x e).Group = x.To ∧ (toF R x e).Epoch = e := by
  unfold toF; cases ofG R x.To <;> exact ⟨rfl, rfl⟩
theorem new_dst (h : Fit R x f E) : (doneU R x e).Pairwise fun p q => p.Group ≠ q.Group := by
  rw [doneU_eq h.t2 h.val.dst, List.pairwise_append]
  refine ⟨?_, List.pairwise_singleton _ _, fun a ha b hb => ?_⟩
  · rw [List.pairwise_filterMap]
    exact h.val.dst.imp fun {a b} hab p hp q hq => by rw [gD_group hp, gD_group hq]; exact hab
  · rw [List.mem_singleton] at hb; subst hb
    rw [toF_group.1]
    rcases new_mem h ha with ⟨_, _, h3⟩ | ⟨h1, _⟩
    · exact h3
    · subst h1
      have hg : (cutR x e f).Group = f.Group := by unfold cutR; split <;> rfl
      rw [hg, (fit_f h).2]; exact fun e => h.t2 e.symm
theorem new_dj (h : Fit R x f E) : (doneU R x e).Pairwise Dj := by
  have hd := new_dst (e := e) h
  refine hd.imp_of_mem ?_
  intro a b ha hb hne n h1 h2
  rw [doneU_eq h.t2 h.val.dst] at ha hb
  rcases List.mem_append.1 ha with ha | ha
  · obtain ⟨r, hr, hrn, hrg, hrt, hrx⟩ := pts h ha h1
    rcases List.mem_append.1 hb with hb | hb
    · obtain ⟨q, hq, hqn, hqg, _, _⟩ := pts h hb h2
      have := dj_of h hr hq hrn hqn
      subst this; exact hne (hrg.symm.trans hqg)
    · rw [List.mem_singleton] at hb; subst hb
      rcases (to_pts h n).1 h2 with hx | ⟨t, ht, htn⟩
      · exact hrx hx
      · have := dj_of h hr (of_mem ht).1 hrn htn
        subst this; exact hrt (hrg.symm.trans (of_mem ht).2)
  · rw [List.mem_singleton] at ha; subst ha
    rcases List.mem_append.1 hb with hb | hb
    · obtain ⟨r, hr, hrn, hrg, hrt, hrx⟩ := pts h hb h2
      rcases (to_pts h n).1 h1 with hx | ⟨t, ht, htn⟩
      · exact hrx hx
      · have := dj_of h hr (of_mem ht).1 hrn htn
        subst this; exact hrt (hrg.symm.trans (of_mem ht).2)
    · rw [List.mem_singleton] at hb; subst hb; exact hne rfl
theorem new_bnd (h : Fit R x f E) : ∀ r ∈ doneU R x e, 0 ≤ r.Lo ∧ r.Lo < r.Hi ∧ r.Hi ≤ 64 := fun r hr => by
  have hb := (cov_facts (by decide) h.val.cov).2.1
  have hf := hb f (fit_f h).1
  have := h.x1; have := h.x2; have := h.x3
  rw [doneU_eq h.t2 h.val.dst] at hr
  rcases List.mem_append.1 hr with hr | hr
  · rcases new_mem h hr with ⟨h1, _, _⟩ | ⟨h1, h2⟩
    · exact hb r h1
    · subst h1
      unfold cutR at h2 ⊢
      split at h2 <;> rename_i hc <;> simp only [hc, if_true, if_false] at h2 ⊢ <;> omega
  · rw [List.mem_singleton] at hr; subst hr
    unfold toF
    cases ht : ofG R x.To with
    | none => simp only [toR]; omega
    | some t => have := hb t (of_mem ht).1; simp only [mergeT, toR]; omega
theorem new_cov (h : Fit R x f E) : ∀ n, 0 ≤ n → n < 64 → ∃ r ∈ doneU R x e, inR r n := fun n h0 h1 => by
  rw [doneU_eq h.t2 h.val.dst]
  obtain ⟨r, hr, hrn⟩ := (cov_facts (by decide) h.val.cov).2.2.2 n h0 h1
  by_cases hx : x.Lo ≤ n ∧ n < x.Hi
  · exact ⟨toF R x e, by simp, (to_pts h n).2 (.inl hx)⟩
  · by_cases hF : r.Group = x.From
    · have hrf : r = f := by have := (of_uniq h.val.dst hr hF).symm.trans h.of; injection this
      subst hrf
      have hc : inR (cutR x e r) n := (cut_pts h n).2 ⟨hrn, hx⟩
      exact ⟨_, List.mem_append_left _ (cut_in h (by unfold inR at hc; omega)), hc⟩
    · by_cases hT : r.Group = x.To
      · exact ⟨toF R x e, by simp, (to_pts h n).2 (.inr ⟨r, of_uniq h.val.dst hr hT, hrn⟩)⟩
      · exact ⟨r, List.mem_append_left _ (other_in h hr hF hT), hrn⟩
theorem new_rng (h : Fit R x f E) (he : E ≤ e) : ∀ r ∈ doneU R x e, 1 ≤ r.Group ∧ r.Group ≤ 4 ∧ 1 ≤ r.Epoch ∧ r.Epoch ≤ e := fun r hr => by
  have hpos := h.val.pos
  rw [doneU_eq h.t2 h.val.dst] at hr
  rcases List.mem_append.1 hr with hr | hr
  · rcases new_mem h hr with ⟨h1, _, _⟩ | ⟨h1, h2⟩
    · have := h.val.rng r h1; omega
    · subst h1
      have hg : (cutR x e f).Group = f.Group ∧ (cutR x e f).Epoch = e := by unfold cutR; split <;> exact ⟨rfl, rfl⟩
      have := h.val.rng f (fit_f h).1
      rw [hg.1, hg.2]; omega
  · rw [List.mem_singleton] at hr; subst hr
    have := h.t1
    rw [toF_group.1, toF_group.2]; omega
/-- what a number's range becomes -/
theorem newR_of (h : Fit R x f E) {r : Rg} (hr : r ∈ R) {n : Int} (hn : inR r n) : newR R x e n = if x.Lo ≤ n ∧ n < x.Hi then ⟨r.Lo, r.Hi, x.To, e⟩ else if r.Group = x.From ∨ r.Group = x.To then { r with Epoch := e } else r := by
  have hf : findM R n = some r := find_in (cov_facts (by decide) h.val.cov).2.2.1 hr hn
  unfold newR
  rw [hf]
  simp only [Option.getD_some]
  by_cases hx : x.Lo ≤ n ∧ n < x.Hi
  · rw [if_pos hx, if_pos hx]; simp
  · rw [if_neg hx, if_neg hx]
theorem new_col (h : Fit R x f E) {q : Rg} (hq : q ∈ doneU R x e) {n : Int} (h0 : 0 ≤ n) (h1 : n < 64) (hn : inR q n) : (newR R x e n).Group = q.Group ∧ (newR R x e n).Epoch = q.Epoch := by
  obtain ⟨r, hr, hrn⟩ := (cov_facts (by decide) h.val.cov).2.2.2 n h0 h1
  rw [newR_of h hr hrn]
  rw [doneU_eq h.t2 h.val.dst] at hq
  rcases List.mem_append.1 hq with hq | hq
  · rcases new_mem h hq with ⟨p1, p2, p3⟩ | ⟨p1, p2⟩
    · have := dj_of h p1 hr hn hrn
      subst this
      obtain ⟨_, _, _, _, _, hx⟩ := pts h hq hn
      rw [if_neg hx, if_neg (by rintro (e | e); exact p2 e; exact p3 e)]
      exact ⟨rfl, rfl⟩
    · subst p1
      obtain ⟨c1, c2⟩ := (cut_pts h n).1 hn
      have := dj_of h (fit_f h).1 hr c1 hrn
      subst this
      have hg : (cutR x e f).Group = f.Group ∧ (cutR x e f).Epoch = e := by unfold cutR; split <;> exact ⟨rfl, rfl⟩
      rw [if_neg c2, if_pos (.inl (fit_f h).2), hg.1, hg.2]
      exact ⟨rfl, rfl⟩
  · rw [List.mem_singleton] at hq; subst hq
    rw [toF_group.1, toF_group.2]
    rcases (to_pts h n).1 hn with hx | ⟨t, ht, htn⟩
    · rw [if_pos hx]; exact ⟨rfl, rfl⟩
    · have := dj_of h (of_mem ht).1 hr htn hrn
      subst this
      by_cases hx : x.Lo ≤ n ∧ n < x.Hi
      · rw [if_pos hx]; exact ⟨rfl, rfl⟩
      · rw [if_neg hx, if_pos (.inr (of_mem ht).2)]; exact ⟨(of_mem ht).2, rfl⟩
theorem done_val (h : Fit R x f E) (he : E ≤ e) {L : List Rg} (hL : DoneL R x e L) : Val L e := by
  obtain ⟨hp, hs⟩ := hL
  refine ⟨cov_of (by decide) hs (fun r hr => new_bnd h r (hp.mem_iff.1 hr)) (hp.symm.pairwise (new_dj h) (fun {a b} hab n h1 h2 => hab n h2 h1)) (fun n h0 h1 => ?_), fun r hr => new_rng h he r (hp.mem_iff.1 hr), hp.symm.pairwise (new_dst h) (fun {a b} hab => hab.symm)⟩
  obtain ⟨r, hr, hn⟩ := new_cov (e := e) h n h0 h1
  exact ⟨r, hp.mem_iff.2 hr, hn⟩
theorem done_runs (h : Fit R x f E) (he : E ≤ e) {L : List Rg} (hL : DoneL R x e L) : L = runs (newR R x e) 64 := by
  have hv := done_val h he hL
  exact (runs_eq hv.cov hv.dst fun n hn r hr hrn => new_col h (hL.1.mem_iff.1 hr) (by omega) (by omega) hrn).symm
end
theorem Moved.fit {m : Mp} (h : Moved m) : ∃ f, Fit m.R m.M f (m.E - 1) := by
  obtain ⟨f, h1, h2, h3, h4, h5, h6, h7, h8, h9⟩ := planned_facts h.plan
  exact ⟨f, h.val, h1, h2, h3, h4, h5, ⟨h6, h7⟩, h8, h9⟩
theorem Moved.runs {m : Mp} (h : Moved m) {L : List Rg} (hL : DoneL m.R m.M m.E L) : L = Go.Proofs.Ytpimnlgfhpnjnaa.runs (newR m.R m.M m.E) 64 := by
  obtain ⟨f, hf⟩ := h.fit
  exact done_runs hf (by omega) hL
theorem Moved.done {m : Mp} (h : Moved m) {L : List Rg} (hL : DoneL m.R m.M m.E L) : checkB ⟨L, m.E, Mv.zero⟩ = true := by
  obtain ⟨f, hf⟩ := h.fit
  rw [check_iff, show leastE ⟨L, m.E, Mv.zero⟩ = m.E from if_pos rfl]
  exact ⟨done_val hf (by omega) hL, h.low, .inl rfl⟩
end Go.Proofs.Ytpimnlgfhpnjnaa
