/- Histories in which transactions are done one by one: what layer 30 says of them. -/
import Derived.Test.YtobjmehppmhkdaaWitO
namespace Go.Proofs.Ytobjmehppmhkdaa
open Go Go.RowKit Kf
set_option maxRecDepth 20000
inductive Act where
  | w (b : Int) (x : UInt8)
  | r (b : Int) (d : List UInt8)
def Act.evs (t : Int) : Act → List Ev
  | .w b x => wroteL t b x
  | .r b d => readL t b d
structure Tx where
  id : Int
  acts : List Act
  ch : Bool
def unkA : An := ⟨25, 0, []⟩
def finL (t : Int) (ch : Bool) : List Ev := if ch then endedL t true else doneL t commitC unkA
def bodyL (t : Int) (ac : List Act) : List Ev := ac.flatMap (Act.evs t)
def Tx.evs (x : Tx) : List Ev := if x.acts.isEmpty then [] else bodyL x.id x.acts ++ finL x.id x.ch
def histL (xs : List Tx) : List Ev := xs.flatMap Tx.evs
def ActOk : Act → Prop
  | .w b _ => 0 ≤ b ∧ b < 64
  | .r b d => 0 ≤ b ∧ b < 64 ∧ d.length = 4
def ActsOk (ac : List Act) : Prop := ∀ a ∈ ac, ActOk a
def Dist (xs : List Tx) : Prop := xs.Pairwise fun a b => a.id ≠ b.id
/-! ### by beginnings -/
section
variable {l : List Ev} {f : Nat → Ev → Bool} {t : Int}
theorem anyI_pre (h : ∀ pre e post, l = pre ++ e :: post → f pre.length e = false) : anyI l f = false := by
  refine anyI_false (k := l.length) (fun j hj _ => ?_) (Nat.le_refl _)
  have := h (l.take j) l[j] (l.drop (j + 1)) (by rw [← List.drop_eq_getElem_cons hj, List.take_append_drop])
  rwa [show (l.take j).length = j from by simp; omega] at this
theorem chosen_take : ∀ (l : List Ev) (t : Int) (n : Nat), chosenB l t (n : Int) = (l.take n).any (chs t)
  | [], t, n => by simp [chosenB, firstOf]
  | e :: l, t, 0 => by
    rw [List.take_zero, List.any_nil]
    unfold chosenB
    cases firstOf (e :: l) t with
    | none => rfl
    | some i => exact decide_eq_false (by omega)
  | e :: l, t, n + 1 => by
    rw [List.take_succ_cons, List.any_cons]
    unfold chosenB firstOf
    by_cases h : chs t e = true
    · rw [if_pos h, h]; exact decide_eq_true (by omega)
    · have hf : chs t e = false := by simpa using h
      rw [if_neg h, hf, Bool.false_or, ← chosen_take l t n]
      unfold chosenB
      cases firstOf l t with
      | none => rfl
      | some i => show decide (((i + 1 : Nat) : Int) < ((n + 1 : Nat) : Int)) = decide ((i : Int) < (n : Int)); rw [decide_eq_decide]; omega
theorem chosen_pre {pre post : List Ev} {e : Ev} : chosenB (pre ++ e :: post) t (pre.length : Int) = pre.any (chs t) := by
  rw [chosen_take, List.take_left' rfl]
end
theorem split_two {α : Type} {a b pre post : List α} {e : α} (h : a ++ b = pre ++ e :: post) : (∃ c, a = pre ++ e :: c) ∨ ∃ p, pre = a ++ p ∧ b = p ++ e :: post := by
  rcases List.append_eq_append_iff.1 h with ⟨c, h1, h2⟩ | ⟨c, h1, h2⟩
  · exact .inr ⟨c, h1, h2⟩
  · cases c with
    | nil => exact .inr ⟨[], by simpa using h1.symm, by simpa using h2.symm⟩
    | cons y c =>
      rw [List.cons_append] at h2
      injection h2 with h3 h4
      exact .inl ⟨c, by rw [h1, h3]⟩
theorem split_hist : ∀ {xs : List Tx} {pre post : List Ev} {e : Ev}, histL xs = pre ++ e :: post → ∃ A x B p q, xs = A ++ x :: B ∧ x.evs = p ++ e :: q ∧ pre = histL A ++ p
  | [], pre, post, e, h => by
    have := congrArg List.length h
    simp [histL] at this
  | x :: xs, pre, post, e, h => by
    rcases split_two (a := x.evs) (b := histL xs) h with ⟨c, hc⟩ | ⟨p, h1, h2⟩
    · exact ⟨[], x, xs, pre, c, rfl, hc, rfl⟩
    · obtain ⟨A, y, B, p', q, e1, e2, e3⟩ := split_hist h2
      exact ⟨x :: A, y, B, p', q, by rw [e1]; rfl, e2, by rw [h1, e3]; show x.evs ++ (histL A ++ p') = (x.evs ++ histL A) ++ p'; rw [List.append_assoc]⟩
/-! ### the events -/
theorem done_mem {t : Int} {c : Ca} {a : An} {e : Ev} (h : e ∈ doneL t c a) : e = ⟨1, 1, t, c, An.zero⟩ ∨ e = ⟨2, 1, t, c, a⟩ := by
  unfold doneL at h
  simpa using h
theorem act_mem {t : Int} {a : Act} {e : Ev} (h : e ∈ a.evs t) : e.Txn = t ∧ e.Answer.Code = 0 ∧ (e.Call.Kind = 2 ∨ e.Call.Kind = 3) ∧ ¬ e.Kind = 3 := by
  cases a with
  | w b x => rcases done_mem h with rfl | rfl <;> simp [wroteC]
  | r b d => rcases done_mem h with rfl | rfl <;> simp [readC]
theorem body_mem {t : Int} {ac : List Act} {e : Ev} (h : e ∈ bodyL t ac) : e.Txn = t ∧ e.Answer.Code = 0 ∧ (e.Call.Kind = 2 ∨ e.Call.Kind = 3) ∧ ¬ e.Kind = 3 := by
  obtain ⟨a, _, h⟩ := List.mem_flatMap.1 h
  exact act_mem h
theorem fin_mem {t : Int} {ch : Bool} {e : Ev} (h : e ∈ finL t ch) : e.Txn = t ∧ (e.Answer.Code = 0 ∨ e.Answer.Code = 25) ∧ (e.Call.Kind = 0 ∨ e.Call.Kind = 4) := by
  unfold finL at h
  split at h
  · unfold endedL at h
    simp only [if_true, List.mem_cons, List.not_mem_nil, or_false] at h
    rcases h with rfl | rfl | rfl <;> simp [commitC, chosenE]
  · rcases done_mem h with rfl | rfl <;> simp [commitC, unkA]
theorem tx_mem {x : Tx} {e : Ev} (h : e ∈ x.evs) : e.Txn = x.id ∧ (e.Answer.Code = 0 ∨ e.Answer.Code = 25) ∧ (e.Call.Kind = 0 ∨ e.Call.Kind = 2 ∨ e.Call.Kind = 3 ∨ e.Call.Kind = 4) := by
  unfold Tx.evs at h
  split at h
  · cases h
  · rcases List.mem_append.1 h with h | h
    · obtain ⟨h1, h2, h3, _⟩ := body_mem h; exact ⟨h1, .inl h2, by omega⟩
    · obtain ⟨h1, h2, h3⟩ := fin_mem h; exact ⟨h1, h2, by omega⟩
theorem hist_mem {xs : List Tx} {e : Ev} (h : e ∈ histL xs) : ∃ x ∈ xs, e ∈ x.evs := List.mem_flatMap.1 h
theorem no_chs {l : List Ev} {t : Int} (h : ∀ e ∈ l, ¬ e.Kind = 3 ∨ ¬ e.Txn = t) : l.any (chs t) = false := by
  rw [List.any_eq_false]
  intro e he
  rcases h e he with q | q <;> simp [chs, q]
theorem fin_pos {t : Int} {ch : Bool} {p q : List Ev} {e : Ev} (h : finL t ch = p ++ e :: q) : ((e.Kind = 3 ∨ goesOn e = true) → p.any (chs t) = false) ∧ (ans e 4 0 = true → p.any (chs t) = true) := by
  cases ch with
  | true =>
    change [(⟨1, 1, t, commitC, An.zero⟩ : Ev), chosenE t, ⟨2, 1, t, commitC, An.zero⟩] = _ at h
    match p, h with
    | [], h => injection h with h _; subst h; exact ⟨fun _ => rfl, fun h => by simp [ans] at h⟩
    | [a], h =>
      injection h with h1 h; injection h with h _; subst h h1
      exact ⟨fun _ => by simp [chs], fun h => by simp [ans, chosenE] at h⟩
    | [a, b], h =>
      injection h with h1 h; injection h with h2 h; injection h with h _; subst h h1 h2
      exact ⟨fun h => by rcases h with h | h <;> simp [goesOn] at h, fun _ => by simp [chs, chosenE]⟩
    | a :: b :: c :: r, h =>
      have := congrArg List.length h
      simp at this
  | false =>
    change [(⟨1, 1, t, commitC, An.zero⟩ : Ev), ⟨2, 1, t, commitC, unkA⟩] = _ at h
    match p, h with
    | [], h => injection h with h _; subst h; exact ⟨fun _ => rfl, fun h => by simp [ans] at h⟩
    | [a], h =>
      injection h with h1 h; injection h with h _; subst h h1
      exact ⟨fun _ => by simp [chs], fun h => by simp [ans, unkA] at h⟩
    | a :: b :: r, h =>
      have := congrArg List.length h
      simp at this
theorem tx_pos {x : Tx} {p q : List Ev} {e : Ev} (h : x.evs = p ++ e :: q) : ((e.Kind = 3 ∨ goesOn e = true) → p.any (chs x.id) = false) ∧ (ans e 4 0 = true → p.any (chs x.id) = true) := by
  unfold Tx.evs at h
  split at h
  · have := congrArg List.length h
    simp at this
  · have hb : (bodyL x.id x.acts).any (chs x.id) = false := no_chs fun e he => .inl (body_mem he).2.2.2
    rcases split_two h with ⟨c, hc⟩ | ⟨p', h1, h2⟩
    · constructor
      · intro _
        exact no_chs fun e' he' => .inl (body_mem (hc ▸ List.mem_append.2 (.inl he'))).2.2.2
      · intro h4
        have := (body_mem (hc ▸ List.mem_append.2 (.inr (List.mem_cons_self ..)) : e ∈ bodyL x.id x.acts)).2.2.1
        unfold ans at h4
        simp at h4
        omega
    · have := fin_pos h2
      rw [h1, List.any_append, hb, Bool.false_or]
      exact this
theorem hist_pos {xs : List Tx} (hd : Dist xs) {pre post : List Ev} {e : Ev} (h : histL xs = pre ++ e :: post) : ((e.Kind = 3 ∨ goesOn e = true) → pre.any (chs e.Txn) = false) ∧ (ans e 4 0 = true → pre.any (chs e.Txn) = true) := by
  obtain ⟨A, x, B, p, q, e1, e2, e3⟩ := split_hist h
  have ht : e.Txn = x.id := (tx_mem (e2 ▸ List.mem_append.2 (.inr (List.mem_cons_self ..)) : e ∈ x.evs)).1
  have hA : (histL A).any (chs x.id) = false := no_chs fun e' he' => by
    right
    obtain ⟨y, hy, he'⟩ := hist_mem he'
    rw [(tx_mem he').1]
    unfold Dist at hd
    rw [e1] at hd
    exact (List.pairwise_append.1 hd).2.2 y hy x (List.mem_cons_self ..)
  rw [e3, ht, List.any_append, hA, Bool.false_or]
  exact tx_pos e2
/-! ### what is not wrong with them -/
section
variable {xs : List Tx}
theorem hist_twice (hd : Dist xs) : twiceB (histL xs) = false := anyI_pre fun pre e post h => by
  by_cases k : e.Kind = 3
  · rw [h, chosen_pre, ((hist_pos hd h).1 (.inl k))]; simp
  · simp [k]
theorem hist_late (hd : Dist xs) : lateB (histL xs) = false := anyI_pre fun pre e post h => by
  cases k : goesOn e with
  | false => rfl
  | true => rw [h, chosen_pre, ((hist_pos hd h).1 (.inr k))]; rfl
theorem hist_denied : deniedB (histL xs) = false := by
  unfold deniedB
  rw [List.any_eq_false]
  intro e he
  obtain ⟨x, _, he⟩ := hist_mem he
  obtain ⟨_, h2, h3⟩ := tx_mem he
  have h24 : ∀ k, ans e k 24 = false := fun k => by
    unfold ans
    rw [decide_eq_false (p := e.Answer.Code = 24) (by omega)]; simp
  have h5 : ans e 5 0 = false := by
    unfold ans
    rw [decide_eq_false (p := e.Call.Kind = 5) (by omega)]; simp
  simp [deniesB, h24, h5]
theorem hist_ans {e : Ev} {k : Int} (he : e ∈ histL xs) (hk : ¬ k = 0 ∧ ¬ k = 2 ∧ ¬ k = 3 ∧ ¬ k = 4) : ans e k 0 = false := by
  obtain ⟨x, _, he⟩ := hist_mem he
  obtain ⟨_, _, h3⟩ := tx_mem he
  unfold ans
  rw [decide_eq_false (p := e.Call.Kind = k) (by omega)]; simp
theorem hist_early (hd : Dist xs) : earlyB (histL xs) = false := anyI_pre fun pre e post h => by
  have he : e ∈ histL xs := h ▸ List.mem_append.2 (.inr (List.mem_cons_self ..))
  cases k : ans e 4 0 with
  | false => simp [saysB, hist_ans he (k := 7) (by omega), hist_ans he (k := 9) (by omega), k]
  | true => rw [h, chosen_pre, ((hist_pos hd h).2 k)]; simp
theorem hist_snaps : snapsB (histL xs) = false := anyI_pre fun pre e post h => by
  have he : e ∈ histL xs := h ▸ List.mem_append.2 (.inr (List.mem_cons_self ..))
  simp [snF, hist_ans he (k := 8) (by omega)]
end
/-! ### their form -/
def Good (s : Now) : Prop := s.length = 5 ∧ (s.getD 1 (false, 0)).1 = false
theorem good_set {s : Now} {k : Int} (h : Good s) : Good (s.set 1 (false, k)) := by
  refine ⟨by rw [List.length_set]; exact h.1, ?_⟩
  rw [List.getD_eq_getElem?_getD, List.getElem?_set_self (by have := h.1; omega)]; rfl
theorem run_cons {e : Ev} {l : List Ev} {s s' : Now} (h : stepF s e = some s') : runF (e :: l) s = runF l s' := by
  conv => lhs; unfold runF
  rw [h]
theorem step_call {s : Now} {t : Int} {c : Ca} {a : An} (h : Good s) : stepF s ⟨1, 1, t, c, a⟩ = some (s.set 1 (true, c.Kind)) :=
  st_c2 (c := 1) rfl rfl (by omega) (by omega) h.2
theorem step_ans {s : Now} {t : Int} {c : Ca} {a : An} (h : Good s) (ho : oddB ⟨2, 1, t, c, a⟩ = false) : stepF (s.set 1 (true, c.Kind)) ⟨2, 1, t, c, a⟩ = some (s.set 1 (false, c.Kind)) := by
  have hg : (s.set 1 (true, c.Kind)).getD 1 (false, 0) = (true, c.Kind) := by
    rw [List.getD_eq_getElem?_getD, List.getElem?_set_self (by have := h.1; omega)]; rfl
  have := st_n (s := s.set 1 (true, c.Kind)) (e := ⟨2, 1, t, c, a⟩) (c := 1) (by simp) rfl rfl (by omega) (by omega) (by rw [hg]) (by rw [hg]) ho
  rw [this, hg, List.set_set]
theorem run_done {s : Now} {t : Int} {c : Ca} {a : An} (h : Good s) (ho : oddB ⟨2, 1, t, c, a⟩ = false) (rest : List Ev) : runF (doneL t c a ++ rest) s = runF rest (s.set 1 (false, c.Kind)) := by
  show runF (_ :: _ :: rest) s = _
  rw [run_cons (step_call h), run_cons (step_ans h ho)]
theorem odd_act {t : Int} {a : Act} (h : ActOk a) : match a with | .w b x => oddB ⟨2, 1, t, wroteC b x, An.zero⟩ = false | .r b d => oddB ⟨2, 1, t, readC b, ⟨0, 0, d⟩⟩ = false := by
  cases a with
  | w b x =>
    obtain ⟨h1, h2⟩ := h
    simp [oddB, ans, wroteC, isBlk, h1, h2]
  | r b d =>
    obtain ⟨h1, h2, h3⟩ := h
    simp [oddB, ans, readC, isBlk, h1, h2, h3]
theorem run_body {t : Int} : ∀ {ac : List Act} {s : Now}, ActsOk ac → Good s → ∃ s', Good s' ∧ ∀ rest, runF (bodyL t ac ++ rest) s = runF rest s'
  | [], s, _, hs => ⟨s, hs, fun _ => rfl⟩
  | a :: ac, s, ha, hs => by
    have h0 := odd_act (t := t) (ha a (List.mem_cons_self ..))
    have key : ∃ s1, Good s1 ∧ ∀ rest, runF (a.evs t ++ rest) s = runF rest s1 := by
      cases a with
      | w b x => exact ⟨_, good_set hs, fun rest => run_done hs h0 rest⟩
      | r b d => exact ⟨_, good_set hs, fun rest => run_done hs h0 rest⟩
    obtain ⟨s1, g1, r1⟩ := key
    obtain ⟨s2, g2, r2⟩ := run_body (t := t) (ac := ac) (fun x hx => ha x (List.mem_cons_of_mem _ hx)) g1
    refine ⟨s2, g2, fun rest => ?_⟩
    show runF ((a.evs t ++ bodyL t ac) ++ rest) s = _
    rw [List.append_assoc, r1, r2]
theorem run_fin {t : Int} {ch : Bool} {s : Now} (hs : Good s) : ∃ s', Good s' ∧ ∀ rest, runF (finL t ch ++ rest) s = runF rest s' := by
  cases ch with
  | true =>
    refine ⟨s.set 1 (false, 4), good_set hs, fun rest => ?_⟩
    show runF (_ :: chosenE t :: _ :: rest) s = _
    rw [run_cons (step_call hs), run_cons (st_3 (e := chosenE t) rfl), run_cons (step_ans hs (by simp [oddB, ans, commitC]))]; rfl
  | false => exact ⟨_, good_set hs, fun rest => run_done hs (by simp [oddB, ans, commitC]) rest⟩
theorem run_hist : ∀ {xs : List Tx} {s : Now}, (∀ x ∈ xs, ActsOk x.acts) → Good s → runF (histL xs) s = false
  | [], s, _, _ => rfl
  | x :: xs, s, ha, hs => by
    have key : ∃ s1, Good s1 ∧ ∀ rest, runF (x.evs ++ rest) s = runF rest s1 := by
      unfold Tx.evs
      split
      · exact ⟨s, hs, fun _ => rfl⟩
      · obtain ⟨s1, g1, r1⟩ := run_body (t := x.id) (ha x (List.mem_cons_self ..)) hs
        obtain ⟨s2, g2, r2⟩ := run_fin (t := x.id) (ch := x.ch) g1
        exact ⟨s2, g2, fun rest => by rw [List.append_assoc, r1, r2]⟩
    obtain ⟨s1, g1, r1⟩ := key
    show runF (x.evs ++ histL xs) s = false
    rw [r1]
    exact run_hist (fun y hy => ha y (List.mem_cons_of_mem _ hy)) g1
theorem hist_form {xs : List Tx} (ha : ∀ x ∈ xs, ActsOk x.acts) : formB (histL xs) = false := run_hist ha ⟨rfl, rfl⟩
end Go.Proofs.Ytobjmehppmhkdaa
