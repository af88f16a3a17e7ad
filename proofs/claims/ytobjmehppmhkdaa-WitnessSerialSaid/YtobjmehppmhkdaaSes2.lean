/- Histories in which transactions are done one by one: what they read; how they are made. -/
import Derived.Test.YtobjmehppmhkdaaSer
namespace Go.Proofs.Ytobjmehppmhkdaa
open Go Go.RowKit Kf
set_option maxRecDepth 20000
def b4 (x : UInt8) : List UInt8 := [x, 0, 0, 1]
def actsW : List Act → List Wr
  | [] => []
  | .w b x :: r => ⟨b, b4 x⟩ :: actsW r
  | .r _ _ :: r => actsW r
def actsOK : List Act → List Bl → Bool
  | [], _ => true
  | .w b x :: r, d => actsOK r (setB d b (b4 x))
  | .r b v :: r, d => decide (getB d b = v) && actsOK r d
/-- what a transaction reads, event by event -/
def readsR (t : Int) : List Ev → List Bl → Bool
  | [], _ => true
  | e :: l, d => (!(decide (e.Txn = t) && ans e 2 0) || decide (getB d e.Call.Block = e.Answer.Data)) && readsR t l (if wrF t e then setB d e.Call.Block e.Call.Data else d)
section
variable {t : Int} {a b l : List Ev} {d : List Bl}
theorem writes_app : writesL (a ++ b) t = writesL a t ++ writesL b t := by unfold writesL; rw [List.filter_append, List.map_append]
theorem sets_app {u v : List Wr} : setsL d (u ++ v) = setsL (setsL d u) v := by unfold setsL; rw [List.foldl_append]
theorem writes_one {e : Ev} : setsL d (writesL (e :: l) t) = setsL (if wrF t e then setB d e.Call.Block e.Call.Data else d) (writesL l t) := by
  unfold writesL
  by_cases h : wrF t e = true
  · rw [List.filter_cons_of_pos h, if_pos h]; rfl
  · rw [List.filter_cons_of_neg h, if_neg h]
theorem readsR_iff : ∀ {l : List Ev} {d : List Bl}, readsR t l d = true ↔ ∀ p e q, l = p ++ e :: q → (!(decide (e.Txn = t) && ans e 2 0) || decide (getB (setsL d (writesL p t)) e.Call.Block = e.Answer.Data)) = true
  | [], d => ⟨fun _ p e q h => by have := congrArg List.length h; simp at this, fun _ => rfl⟩
  | e :: l, d => by
    unfold readsR
    rw [Bool.and_eq_true, readsR_iff (l := l)]
    constructor
    · rintro ⟨h1, h2⟩ p e' q h
      cases p with
      | nil => injection h with h3 _; subst h3; exact h1
      | cons y p =>
        injection h with h3 h4
        subst h3
        rw [writes_one]
        exact h2 p e' q h4
    · intro h
      refine ⟨h [] e l rfl, fun p e' q hl => ?_⟩
      have := h (e :: p) e' q (by rw [hl]; rfl)
      rwa [writes_one] at this
theorem reads_R : readsB l t d = readsR t l d := by
  rw [Bool.eq_iff_iff, readsR_iff]
  unfold readsB
  constructor
  · intro h p e q hl
    have h0 : anyI l (rdF l t d) = false := by simpa using h
    have h1 := anyI_no h0 (i := p.length) (by rw [hl]; simp)
    have e1 : l[p.length]'(by rw [hl]; simp) = e := by simp [hl]
    have e2 : l.take p.length = p := by rw [hl, List.take_left' rfl]
    rw [e1] at h1
    unfold rdF at h1
    rw [e2] at h1
    cases h2 : (decide (e.Txn = t) && ans e 2 0) with
    | false => rfl
    | true => rw [h2] at h1; simpa using h1
  · intro h
    have : anyI l (rdF l t d) = false := anyI_pre fun p e q hl => by
      have := h p e q hl
      have e2 : l.take p.length = p := by rw [hl, List.take_left' rfl]
      unfold rdF
      rw [e2]
      cases h2 : (decide (e.Txn = t) && ans e 2 0) with
      | false => rfl
      | true => rw [h2] at this; simpa using this
    rw [this]; rfl
theorem readsR_app : ∀ {a : List Ev} {d : List Bl}, readsR t (a ++ b) d = (readsR t a d && readsR t b (setsL d (writesL a t)))
  | [], d => by show _ = (true && _); rw [Bool.true_and]; rfl
  | e :: a, d => by
    rw [List.cons_append, writes_one]
    show (_ && readsR t (a ++ b) _) = ((_ && readsR t a _) && readsR t b _)
    rw [readsR_app, Bool.and_assoc]
theorem wr_no {e : Ev} (h : ¬ e.Txn = t) : wrF t e = false := by simp [wrF, h]
theorem writes_none (h : ∀ e ∈ l, ¬ e.Txn = t) : writesL l t = [] := by
  unfold writesL
  rw [List.filter_eq_nil_iff.2 fun e he => by rw [wr_no (h e he)]; simp]; rfl
theorem readsR_none : ∀ {l : List Ev} {d : List Bl}, (∀ e ∈ l, ¬ e.Txn = t) → readsR t l d = true
  | [], _, _ => rfl
  | e :: l, d, h => by
    unfold readsR
    rw [readsR_none fun e he => h e (List.mem_cons_of_mem _ he)]
    simp [h e (List.mem_cons_self ..)]
end
section
variable {t : Int} {d : List Bl}
theorem act_w {b : Int} {x : UInt8} : writesL (wroteL t b x) t = [⟨b, b4 x⟩] := by simp [writesL, wroteL, doneL, wroteC, wrF, ans, b4]
theorem act_r {b : Int} {v : List UInt8} : writesL (readL t b v) t = [] := by simp [writesL, readL, doneL, readC, wrF, ans]
theorem fin_w {ch : Bool} : writesL (finL t ch) t = [] := by cases ch <;> simp [writesL, finL, endedL, doneL, commitC, chosenE, wrF, ans]
theorem body_w : ∀ {ac : List Act}, writesL (bodyL t ac) t = actsW ac
  | [] => rfl
  | .w b x :: r => by show writesL (wroteL t b x ++ bodyL t r) t = _; rw [writes_app, act_w, body_w]; rfl
  | .r b v :: r => by show writesL (readL t b v ++ bodyL t r) t = _; rw [writes_app, act_r, body_w]; rfl
theorem tx_w {x : Tx} : writesL x.evs x.id = actsW x.acts := by
  unfold Tx.evs
  split
  · rename_i h; rw [List.isEmpty_iff.1 h]; rfl
  · rw [writes_app, body_w, fin_w, List.append_nil]
theorem actR_w {b : Int} {x : UInt8} : readsR t (wroteL t b x) d = true := by simp [readsR, wroteL, doneL, wroteC, ans]
theorem actR_r {b : Int} {v : List UInt8} : readsR t (readL t b v) d = decide (getB d b = v) := by simp [readsR, readL, doneL, readC, ans, wrF]
theorem finR {ch : Bool} : readsR t (finL t ch) d = true := by cases ch <;> simp [readsR, finL, endedL, doneL, commitC, chosenE, ans]
theorem bodyR : ∀ {ac : List Act} {d : List Bl}, readsR t (bodyL t ac) d = actsOK ac d
  | [], _ => rfl
  | .w b x :: r, d => by
    show readsR t (wroteL t b x ++ bodyL t r) d = actsOK r _
    rw [readsR_app, actR_w, act_w, bodyR]; rfl
  | .r b v :: r, d => by
    show readsR t (readL t b v ++ bodyL t r) d = (_ && actsOK r d)
    rw [readsR_app, actR_r, act_r, bodyR]; rfl
theorem txR {x : Tx} : readsR x.id x.evs d = actsOK x.acts d := by
  unfold Tx.evs
  split
  · rename_i h; rw [List.isEmpty_iff.1 h]; rfl
  · rw [readsR_app, bodyR, finR, Bool.and_true]
end
theorem hist_app {A B : List Tx} : histL (A ++ B) = histL A ++ histL B := List.flatMap_append
section
variable {xs A B : List Tx} {x : Tx} {d : List Bl}
theorem dist_mid (hd : Dist (A ++ x :: B)) : (∀ e ∈ histL A, ¬ e.Txn = x.id) ∧ ∀ e ∈ histL B, ¬ e.Txn = x.id := by
  unfold Dist at hd
  constructor
  · intro e he
    obtain ⟨y, hy, he⟩ := hist_mem he
    rw [(tx_mem he).1]
    exact (List.pairwise_append.1 hd).2.2 y hy x (List.mem_cons_self ..)
  · intro e he
    obtain ⟨y, hy, he⟩ := hist_mem he
    rw [(tx_mem he).1]
    exact fun q => (List.pairwise_cons.1 (List.pairwise_append.1 hd).2.1).1 y hy q.symm
theorem hist_w (hd : Dist (A ++ x :: B)) : writesL (histL (A ++ x :: B)) x.id = actsW x.acts := by
  have h := dist_mid hd
  rw [hist_app, show histL (x :: B) = x.evs ++ histL B from rfl, writes_app, writes_app, writes_none h.1, writes_none h.2, tx_w]; simp
theorem hist_r (hd : Dist (A ++ x :: B)) : readsB (histL (A ++ x :: B)) x.id d = actsOK x.acts d := by
  have h := dist_mid hd
  rw [reads_R, hist_app, show histL (x :: B) = x.evs ++ histL B from rfl, readsR_app, readsR_app, readsR_none h.1, readsR_none h.2, writes_none h.1, show setsL d [] = d from rfl, txR]; simp
def live (x : Tx) : Bool := !x.acts.isEmpty && x.ch
def badG : List Tx → List Bl → Bool
  | [], _ => false
  | x :: xs, d => (live x && !actsOK x.acts d) || badG xs (if live x then setsL d (actsW x.acts) else d)
def aftG : List Tx → List Bl → List Bl
  | [], d => d
  | x :: xs, d => aftG xs (if live x then setsL d (actsW x.acts) else d)
theorem order_app {a b : List Ev} : orderL (a ++ b) = orderL a ++ orderL b := by unfold orderL; rw [List.filter_append, List.map_append]
theorem order_none {l : List Ev} (h : ∀ e ∈ l, ¬ e.Kind = 3) : orderL l = [] := by
  unfold orderL
  rw [List.filter_eq_nil_iff.2 fun e he => by simp [h e he]]; rfl
theorem tx_order : orderL x.evs = if live x then [x.id] else [] := by
  unfold Tx.evs live
  split
  · rename_i h; rw [h]; rfl
  · rename_i h
    rw [order_app, order_none fun e he => (body_mem he).2.2.2]
    have hf : x.acts.isEmpty = false := by simpa using h
    rw [hf]
    cases x.ch <;> rfl
theorem wrong_hist (H : List Ev) : ∀ {xs : List Tx} {d : List Bl}, (∀ x ∈ xs, writesL H x.id = actsW x.acts ∧ ∀ d, readsB H x.id d = actsOK x.acts d) → wrongG H (orderL (histL xs)) d = badG xs d
  | [], _, _ => rfl
  | x :: xs, d, h => by
    have ih := fun d => wrong_hist H (xs := xs) (d := d) fun y hy => h y (List.mem_cons_of_mem _ hy)
    obtain ⟨h1, h2⟩ := h x (List.mem_cons_self ..)
    show wrongG H (orderL (x.evs ++ histL xs)) d = _
    rw [order_app, tx_order]
    unfold badG
    cases hl : live x with
    | false => simp only [Bool.false_eq_true, if_false, List.nil_append, Bool.false_and, Bool.false_or]; exact ih d
    | true =>
      simp only [if_true, List.cons_append, List.nil_append, Bool.true_and]
      unfold wrongG
      rw [h2, h1, ih]
      cases actsOK x.acts d <;> rfl
theorem hist_wrong (hd : Dist xs) : wrongB (histL xs) = badG xs [] := by
  unfold wrongB
  refine wrong_hist _ fun x hx => ?_
  obtain ⟨A, B, rfl⟩ := List.append_of_mem hx
  exact ⟨hist_w hd, fun d => hist_r hd⟩
theorem hist_check (hd : Dist xs) (ha : ∀ x ∈ xs, ActsOk x.acts) : checkL (histL xs) = if badG xs [] then 12 else 0 := by
  unfold checkL checks
  rw [hist_form ha, hist_twice hd, hist_denied, hist_early hd, hist_late hd, hist_wrong hd, hist_snaps]
  cases badG xs [] <;> rfl
end
/-! ### how they are made -/
structure Dd where
  Block : Int
  Write : Bool
  Snap : Bool
  B : UInt8
def pick64 (k : Int) : Int := if k.tmod 64 < 0 then k.tmod 64 + 64 else k.tmod 64
theorem pick64_in (k : Int) : 0 ≤ pick64 k ∧ pick64 k < 64 := by
  have h1 := Int.tmod_lt_of_pos k (show (0 : Int) < 64 by omega)
  have h2 : -64 < k.tmod 64 := by
    have := Int.tmod_lt_of_pos (-k) (show (0 : Int) < 64 by omega)
    rw [Int.neg_tmod] at this
    omega
  unfold pick64
  split <;> omega
def spoilD : List UInt8 → List UInt8
  | [] => []
  | x :: r => (x + 1) :: r
structure GS where
  acts : List Act
  m : List Bl
  n : Nat
  hit : Bool
def hitB (sp : Int) (is : Bool) (n : Nat) : Bool := decide ((n : Int) = sp) && is
def stepA (sp : Int) (is : Bool) (s : GS) (d : Dd) : GS :=
  if d.Write then ⟨s.acts ++ [.w (pick64 d.Block) d.B], setB s.m (pick64 d.Block) (b4 d.B), s.n, s.hit⟩
  else ⟨s.acts ++ [.r (pick64 d.Block) (if hitB sp is s.n then spoilD (getB s.m (pick64 d.Block)) else getB s.m (pick64 d.Block))], s.m, s.n + 1, s.hit || hitB sp is s.n⟩
def genA (sp : Int) (is : Bool) (m : List Bl) (n : Nat) (ds : List Dd) : GS := ds.foldl (stepA sp is) ⟨[], m, n, false⟩
structure OS where
  txs : List Tx
  disk : List Bl
  n : Nat
  sp : Bool
def isC (ch : List Bool) (i : Nat) : Bool := ch.getD i true
def stepT (sp : Int) (ch : List Bool) (s : OS) (ds : List Dd) : OS :=
  let g := genA sp (isC ch s.txs.length) s.disk s.n ds
  ⟨s.txs ++ [⟨1048577 + (s.txs.length : Int), g.acts, isC ch s.txs.length⟩], if ds.isEmpty then s.disk else if isC ch s.txs.length then g.m else s.disk, g.n, s.sp || g.hit⟩
def serialL (l : List (List Dd)) (ch : List Bool) (sp : Int) : OS := l.foldl (stepT sp ch) ⟨[], [], 0, false⟩
theorem foldl_snoc {α β : Type} {f : α → β → α} {a : α} {l : List β} {k : Nat} (hk : k < l.length) : (l.take (k + 1)).foldl f a = f ((l.take k).foldl f a) l[k] := by
  rw [List.take_succ_eq_append_getElem hk, List.foldl_append]; rfl
theorem acts_okW {ac : List Act} {d : List Bl} {b : Int} {x : UInt8} : actsOK (ac ++ [.w b x]) d = actsOK ac d := by
  induction ac generalizing d with
  | nil => rfl
  | cons a ac ih => cases a <;> simp [actsOK, ih]
theorem acts_okR {ac : List Act} {d : List Bl} {b : Int} {v : List UInt8} : actsOK (ac ++ [.r b v]) d = (actsOK ac d && decide (getB (setsL d (actsW ac)) b = v)) := by
  induction ac generalizing d with
  | nil => show (decide (getB d b = v) && true) = (true && decide (getB d b = v)); rw [Bool.and_true, Bool.true_and]
  | cons a ac ih =>
    cases a with
    | w c x => show actsOK (ac ++ [.r b v]) (setB d c (b4 x)) = (actsOK ac (setB d c (b4 x)) && decide (getB (setsL (setB d c (b4 x)) (actsW ac)) b = v)); exact ih
    | r c u => show (decide (getB d c = u) && actsOK (ac ++ [.r b v]) d) = ((decide (getB d c = u) && actsOK ac d) && decide (getB (setsL d (actsW ac)) b = v)); rw [ih, Bool.and_assoc]
theorem actsW_app {a b : List Act} : actsW (a ++ b) = actsW a ++ actsW b := by
  induction a with
  | nil => rfl
  | cons x a ih => cases x <;> simp [actsW, ih]
/-- what holds of a transaction as it is made -/
structure GI (sp : Int) (is : Bool) (m0 : List Bl) (n0 : Nat) (k : Nat) (s : GS) : Prop where
  m : s.m = setsL m0 (actsW s.acts)
  ok : ActsOk s.acts
  len : s.acts.length = k
  n : n0 ≤ s.n ∧ s.n ≤ n0 + k
  good : is = true → actsOK s.acts m0 = !s.hit
  no : is = false → s.hit = false
  neg : sp < 0 → s.hit = false
theorem spoil_ne {v : List UInt8} (h : v.length = 4) : ¬ v = spoilD v := by
  cases v with
  | nil => simp at h
  | cons x r =>
    intro e
    unfold spoilD at e
    injection e with e _
    have h1 := congrArg UInt8.toNat e
    have h2 := x.toNat_lt
    rw [UInt8.toNat_add] at h1
    simp at h1
    omega
theorem GI.zero {sp : Int} {is : Bool} {m0 : List Bl} {n0 : Nat} : GI sp is m0 n0 0 ⟨[], m0, n0, false⟩ := ⟨rfl, (fun a ha => by cases ha), rfl, ⟨Nat.le_refl _, Nat.le_refl _⟩, fun _ => rfl, fun _ => rfl, fun _ => rfl⟩
theorem GI.step {sp : Int} {is : Bool} {m0 : List Bl} {n0 k : Nat} {s : GS} (h : GI sp is m0 n0 k s) (hr : RightB m0) (d : Dd) : GI sp is m0 n0 (k + 1) (stepA sp is s d) := by
  have hp := pick64_in d.Block
  have hrm : RightB s.m := by rw [h.m]; exact sets_right hr _
  have hgl : (getB s.m (pick64 d.Block)).length = 4 := getB_len hrm
  unfold stepA
  split
  · refine ⟨?_, fun a ha => ?_, by simp [h.len], ⟨h.n.1, by have := h.n.2; show s.n ≤ _; omega⟩, fun hi => ?_, h.no, h.neg⟩
    · show setB s.m _ _ = setsL m0 (actsW (s.acts ++ [.w (pick64 d.Block) d.B]))
      rw [actsW_app, sets_app, ← h.m]; rfl
    · rcases List.mem_append.1 ha with ha | ha
      · exact h.ok a ha
      · rw [List.mem_singleton] at ha; subst ha; exact hp
    · show actsOK (s.acts ++ [.w _ _]) m0 = _
      rw [acts_okW]; exact h.good hi
  · refine ⟨?_, fun a ha => ?_, by simp [h.len], ⟨by have := h.n.1; show n0 ≤ s.n + 1; omega, by have := h.n.2; show s.n + 1 ≤ _; omega⟩, fun hi => ?_, fun hi => ?_, fun hs => ?_⟩
    · show s.m = setsL m0 (actsW (s.acts ++ [.r _ _]))
      rw [actsW_app, sets_app, ← h.m]; rfl
    · rcases List.mem_append.1 ha with ha | ha
      · exact h.ok a ha
      · rw [List.mem_singleton] at ha; subst ha
        refine ⟨hp.1, hp.2, ?_⟩
        split
        · cases hv : getB s.m (pick64 d.Block) with
          | nil => rw [hv] at hgl; simp at hgl
          | cons x r => rw [hv] at hgl; simpa [spoilD] using hgl
        · exact hgl
    · show actsOK (s.acts ++ [.r _ _]) m0 = !(s.hit || _)
      rw [acts_okR, h.good hi, ← h.m]
      cases hb : hitB sp is s.n with
      | false => simp
      | true =>
        rw [if_pos rfl, decide_eq_false (spoil_ne hgl)]
        simp
    · show (s.hit || hitB sp is s.n) = false
      rw [h.no hi, hi]; simp [hitB]
    · show (s.hit || hitB sp is s.n) = false
      rw [h.neg hs]; simp [hitB]; omega
theorem genA_in {sp : Int} {is : Bool} {m0 : List Bl} {n0 : Nat} (hr : RightB m0) : ∀ (ds : List Dd) {k : Nat} {s : GS}, GI sp is m0 n0 k s → GI sp is m0 n0 (k + ds.length) (ds.foldl (stepA sp is) s)
  | [], _, _, h => h
  | d :: ds, k, s, h => by
    have := genA_in hr ds (h.step hr d)
    rw [List.length_cons, ← Nat.add_assoc, Nat.add_right_comm]; exact this
theorem genA_ok {sp : Int} {is : Bool} {m0 : List Bl} {n0 : Nat} (hr : RightB m0) (ds : List Dd) : GI sp is m0 n0 ds.length (genA sp is m0 n0 ds) := by
  have := genA_in (sp := sp) (is := is) (n0 := n0) hr ds GI.zero
  rwa [Nat.zero_add] at this
theorem badG_app : ∀ {xs : List Tx} {x : Tx} {d : List Bl}, badG (xs ++ [x]) d = (badG xs d || (live x && !actsOK x.acts (aftG xs d)))
  | [], x, d => by simp [badG, aftG]
  | y :: xs, x, d => by
    rw [List.cons_append]
    conv => lhs; unfold badG
    conv => rhs; unfold badG aftG
    rw [badG_app, Bool.or_assoc]
theorem aftG_app : ∀ {xs : List Tx} {x : Tx} {d : List Bl}, aftG (xs ++ [x]) d = if live x then setsL (aftG xs d) (actsW x.acts) else aftG xs d
  | [], x, d => rfl
  | y :: xs, x, d => by
    rw [List.cons_append]
    conv => lhs; unfold aftG
    conv => rhs; unfold aftG
    rw [aftG_app]
structure OI (sp : Int) (s : OS) : Prop where
  disk : s.disk = aftG s.txs []
  right : RightB s.disk
  ok : ∀ x ∈ s.txs, ActsOk x.acts
  ids : ∀ j (hj : j < s.txs.length), (s.txs[j]).id = 1048577 + (j : Int)
  bad : badG s.txs [] = s.sp
  neg : sp < 0 → s.sp = false
theorem OI.zero {sp : Int} : OI sp ⟨[], [], 0, false⟩ := ⟨rfl, RightB.nil, (fun x hx => by cases hx), (fun j hj => by simp at hj), rfl, fun _ => rfl⟩
theorem OI.step {sp : Int} {ch : List Bool} {s : OS} (h : OI sp s) (ds : List Dd) : OI sp (stepT sp ch s ds) := by
  have g := genA_ok (sp := sp) (is := isC ch s.txs.length) (n0 := s.n) h.right ds
  have hemp : ds.isEmpty = (genA sp (isC ch s.txs.length) s.disk s.n ds).acts.isEmpty := by
    have := g.len
    rw [Bool.eq_iff_iff, List.isEmpty_iff, List.isEmpty_iff]
    constructor
    · rintro rfl; exact List.eq_nil_of_length_eq_zero this
    · intro q; rw [q] at this; exact List.eq_nil_of_length_eq_zero this.symm
  unfold stepT
  dsimp only
  generalize genA sp (isC ch s.txs.length) s.disk s.n ds = G at g hemp
  refine ⟨?_, ?_, fun x hx => ?_, fun j hj => ?_, ?_, fun hs => ?_⟩
  · show _ = aftG (s.txs ++ [_]) []
    rw [aftG_app, ← h.disk, hemp]
    unfold live
    cases he : G.acts.isEmpty with
    | true => simp
    | false =>
      cases isC ch s.txs.length with
      | true => simp [g.m]
      | false => simp
  · show RightB (if ds.isEmpty then s.disk else if isC ch s.txs.length then G.m else s.disk)
    split
    · exact h.right
    · split
      · rw [g.m]; exact sets_right h.right _
      · exact h.right
  · rcases List.mem_append.1 hx with hx | hx
    · exact h.ok x hx
    · rw [List.mem_singleton] at hx; subst hx; exact g.ok
  · have hj' : j < s.txs.length + 1 := by simpa using hj
    show ((s.txs ++ [_])[j]).id = _
    by_cases q : j < s.txs.length
    · rw [List.getElem_append_left q]; exact h.ids j q
    · obtain rfl : j = s.txs.length := by omega
      rw [List.getElem_append_right (Nat.le_refl _)]; simp
  · show badG (s.txs ++ [_]) [] = (s.sp || G.hit)
    rw [badG_app, h.bad, ← h.disk]
    congr 1
    unfold live
    dsimp only
    cases hc : isC ch s.txs.length with
    | false => rw [g.no hc]; simp
    | true =>
      rw [g.good hc]
      cases he : G.acts.isEmpty with
      | false => simp
      | true =>
        have := g.good hc
        rw [List.isEmpty_iff.1 he] at this
        simp [actsOK] at this
        rw [this]; rfl
  · show (s.sp || G.hit) = false
    rw [h.neg hs, g.neg hs]; rfl
theorem serial_in {sp : Int} {ch : List Bool} : ∀ (l : List (List Dd)) {s : OS}, OI sp s → OI sp (l.foldl (stepT sp ch) s)
  | [], _, h => h
  | ds :: l, _, h => serial_in l (h.step ds)
theorem serial_ok {sp : Int} {ch : List Bool} {l : List (List Dd)} : OI sp (serialL l ch sp) := serial_in l OI.zero
theorem OI.dist {sp : Int} {s : OS} (h : OI sp s) : Dist s.txs := by
  unfold Dist
  rw [List.pairwise_iff_getElem]
  intro i j hi hj hij e
  rw [h.ids i hi, h.ids j hj] at e
  omega
/-- the law of WitnessSerial -/
theorem serial_check {sp : Int} {ch : List Bool} {l : List (List Dd)} : checkL (histL (serialL l ch sp).txs) = if (serialL l ch sp).sp then 12 else 0 := by
  have h := serial_ok (sp := sp) (ch := ch) (l := l)
  rw [hist_check h.dist h.ok, h.bad]
end Go.Proofs.Ytobjmehppmhkdaa
