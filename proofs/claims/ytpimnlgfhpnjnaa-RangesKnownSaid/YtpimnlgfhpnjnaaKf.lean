/- The rules by which the walks of this claim go: one step of the model at a time, over a frame that is a function from slots to values. No statement stands here. -/
import Derived.WalkKit
import Derived.OrdersHeld
import Derived.StillTail
namespace Go.Proofs.Ytpimnlgfhpnjnaa.Kf
open Go Go.RowKit

/-! ### Frames -/
abbrev Fr := Nat → Value

def put (f : Fr) (d : Nat) (v : Value) : Fr := fun i => bif Nat.beq i d then v else f i

def init : List Value → Fr
  | [], _ => undef
  | a :: _, 0 => a
  | _ :: l, i + 1 => init l i

def ev (f : Fr) : Operand → Value
  | .tmp t => f t
  | .const v => v
  | .global g => .pointer (some ⟨g, 0, none⟩)
  | .func g => .func (.func g) #[] #[]

def fr (a : Act) : Fr := fun i => a.tmps.getD i undef

theorem eval_eq (a : Act) : a.eval = ev (fr a) := by funext x; cases x <;> rfl

structure Std (N : Nat) (a : Act) : Prop where
  defers : a.defers = []
  size : a.tmps.size = N

theorem put_same (f : Fr) (d : Nat) (v : Value) : put f d v d = v := by simp [put]
theorem put_ne (f : Fr) {d i : Nat} (v : Value) (h : i ≠ d) : put f d v i = f i := by
  have : Nat.beq i d = false := by
    cases hb : Nat.beq i d
    · rfl
    · exact absurd (Nat.eq_of_beq_eq_true hb) h
  simp [put, this]

theorem fr_put {N : Nat} {a : Act} (h : Std N a) {d : Nat} (hd : d < N) (v : Value) : fr (a.put (some d) v) = put (fr a) d v := by
  funext i
  by_cases hi : i = d
  · subst hi
    rw [put_same]
    simp [fr, Act.put, Array.getD, Array.setIfInBounds, h.size, hd]
  · rw [put_ne _ _ hi]
    simp only [fr, Act.put, Array.getD_eq_getD_getElem?]
    rw [Array.getElem?_setIfInBounds_ne (by omega)]

theorem Std.put {N : Nat} {a : Act} (h : Std N a) (d : Option Nat) (v : Value) : Std N (a.put d v) := by
  cases d with
  | none => exact h
  | some d => exact ⟨h.defers, by simp [Act.put, h.size]⟩

theorem init_eq : ∀ (l : List Value) (n i : Nat), (l.toArray ++ Array.replicate n undef).getD i undef = init l i := by
  intro l
  induction l with
  | nil =>
    intro n i
    simp [init, Array.getD_eq_getD_getElem?, Array.getElem?_replicate]
    split <;> rfl
  | cons a l ih =>
    intro n i
    cases i with
    | zero => simp [init, Array.getD_eq_getD_getElem?, Array.getElem?_append]
    | succ i =>
      have := ih n i
      simp only [Array.getD_eq_getD_getElem?, init] at *
      rw [← this]
      simp [Array.getElem?_append]

/-! ### Code -/
abbrev Post := Exit → Fr → World → Prop

def lift (N : Nat) (Q : Post) : Exit → Act → World → Prop := fun e a w => Std N a ∧ Q e (fr a) w

def WF (P : Program) (N : Nat) (c : Code) (Q : Post) (f : Fr) (w : World) : Prop :=
  ∀ a, Std N a → fr a = f → c.wp P (lift N Q) a w

def thn (k : Fr → World → Prop) (Q : Post) : Post
  | .normal, f, w => k f w
  | e, f, w => Q e f w

def blk (id : Nat) (Q : Post) : Post
  | .exit id', f, w => bif Nat.beq id' id then Q .normal f w else Q (.exit id') f w
  | e, f, w => Q e f w

def resv (rs : List Nat) (f : Fr) : Value :=
  match rs with
  | [r] => f r
  | rs => .tuple (rs.map f).toArray

def fin (rs : List Nat) (R : Value → World → Prop) : Post
  | .normal, f, w | .ret, f, w => R (resv rs f) w
  | _, _, _ => False

/-- A call that returns. -/
def FnOk (P : Program) (K : FuncId) (args : List Value) (w : World) (R : Value → World → Prop) : Prop :=
  Calls P K args.toArray w fun e w' => ∃ v, e = .returned v ∧ R v w'

theorem FnOk.mono {P : Program} {K : FuncId} {args : List Value} {w : World} {R R' : Value → World → Prop} (h : FnOk P K args w R) (hr : ∀ v w', R v w' → R' v w') : FnOk P K args w R' :=
  Calls.mono h fun _ _ ⟨v, e, r⟩ => ⟨v, e, hr _ _ r⟩

section code
variable {P : Program} {N : Nat} {Q : Post} {f : Fr} {w : World} {k : Fr → World → Prop}

theorem thn_n (h : k f w) : thn k Q .normal f w := h
theorem thn_x {i : Nat} (h : Q (.exit i) f w) : thn k Q (.exit i) f w := h
theorem thn_r (h : Q .ret f w) : thn k Q .ret f w := h
theorem blk_n {i : Nat} (h : Q .normal f w) : blk i Q .normal f w := h
theorem blk_r {i : Nat} (h : Q .ret f w) : blk i Q .ret f w := h
theorem blk_eq {i : Nat} (h : Q .normal f w) : blk i Q (.exit i) f w := by simpa [blk] using h
theorem blk_ne {i j : Nat} (hij : Nat.beq j i = false) (h : Q (.exit j) f w) : blk i Q (.exit j) f w := by simpa [blk, hij] using h
theorem fin_n {rs : List Nat} {R : Value → World → Prop} (h : R (resv rs f) w) : fin rs R .normal f w := h
theorem fin_r {rs : List Nat} {R : Value → World → Prop} (h : R (resv rs f) w) : fin rs R .ret f w := h

theorem WF.mono {c : Code} {Q' : Post} (h : WF P N c Q f w) (hq : ∀ e f w, Q e f w → Q' e f w) : WF P N c Q' f w :=
  fun a hs hf => wp_mono (h a hs hf) fun _ _ _ ⟨s, q⟩ => ⟨s, hq _ _ _ q⟩

theorem WF.seq {x y : Code} (h : WF P N x (thn (WF P N y Q) Q) f w) : WF P N (.seq x y) Q f w := by
  intro a hs hf
  refine wp_seq (wp_mono (h a hs hf) ?_)
  intro e a' w' ⟨s, q⟩
  cases e with
  | normal => exact q a' s rfl
  | _ => exact ⟨s, q⟩

/-- The ways through x meet again: J holds behind x. -/
theorem WF.cut {x y : Code} (J : Fr → World → Prop) (h : WF P N x (thn J Q) f w) (h2 : ∀ f w, J f w → WF P N y Q f w) : WF P N (.seq x y) Q f w :=
  WF.seq (h.mono fun e f w q => by cases e <;> first | exact h2 _ _ q | exact q)

theorem WF.skip (h : Q .normal f w) : WF P N .skip Q f w := fun a hs hf => by subst hf; exact wp_skip ⟨hs, h⟩
theorem WF.label {l : Nat} (h : Q .normal f w) : WF P N (.label l) Q f w := fun a hs hf => by subst hf; exact wp_label ⟨hs, h⟩
theorem WF.exit {i : Nat} (h : Q (.exit i) f w) : WF P N (.exit i) Q f w := fun a hs hf => by subst hf; exact wp_exit ⟨hs, h⟩
theorem WF.ret (h : Q .ret f w) : WF P N .ret Q f w := fun a hs hf => by subst hf; exact wp_ret ⟨hs, h⟩
theorem WF.cond {c : Operand} {x y : Code} {t : Bool} (hc : ev f c = .bool t) (ht : t = true → WF P N x Q f w) (hf : t = false → WF P N y Q f w) : WF P N (.cond c x y) Q f w := by
  intro a hs he
  subst he
  refine wp_cond_split (t := t) (by rw [eval_eq]; exact hc) (fun h => ht h a hs rfl) (fun h => hf h a hs rfl)
theorem WF.cond_t {c : Operand} {x y : Code} (hc : ev f c = .bool true) (ht : WF P N x Q f w) : WF P N (.cond c x y) Q f w := WF.cond hc (fun _ => ht) (fun h => by cases h)
theorem WF.cond_f {c : Operand} {x y : Code} (hc : ev f c = .bool false) (hf : WF P N y Q f w) : WF P N (.cond c x y) Q f w := WF.cond hc (fun h => by cases h) (fun _ => hf)

theorem WF.block {i : Nat} {c : Code} (h : WF P N c (blk i Q) f w) : WF P N (.block i c) Q f w := by
  intro a hs hf
  refine wp_block (wp_mono (h a hs hf) ?_)
  intro e a' w' ⟨s, q⟩
  cases e with
  | exit j =>
    simp only [Exit.inBlock]
    by_cases hj : j = i
    · subst hj
      simp only [if_true]
      exact ⟨s, by simpa [blk] using q⟩
    · have hb : Nat.beq j i = false := by
        cases hb : Nat.beq j i
        · rfl
        · exact absurd (Nat.eq_of_beq_eq_true hb) hj
      simp only [hj, if_false]
      exact ⟨s, by simpa [blk, hb] using q⟩
  | _ => exact ⟨s, q⟩

theorem WF.scope {c : Code} (h : WF P N c Q f w) (hg : ∀ l f w, ¬ Q (.goto l) f w) : WF P N (.scope c) Q f w := by
  intro a hs hf
  refine wp_scope_straight (wp_mono (h a hs hf) ?_)
  intro e a' w' ⟨s, q⟩
  cases e with
  | goto l => exact (hg _ _ _ q).elim
  | _ => exact ⟨s, q⟩

theorem WF.loop {c : Code} (I : Fr → World → Prop) (μ : Fr → World → Nat) (h0 : I f w)
    (round : ∀ f w, I f w → WF P N c (thn (fun f' w' => I f' w' ∧ μ f' w' < μ f w) Q) f w) : WF P N (.loop c) Q f w := by
  intro a hs hf
  subst hf
  refine wp_loop (fun a w => Std N a ∧ I (fr a) w) (fun a w => μ (fr a) w) ⟨hs, h0⟩ ?_
  intro a w ⟨hs, hI⟩
  refine wp_mono (round (fr a) w hI a hs rfl) ?_
  intro e a' w' ⟨s, q⟩
  cases e with
  | normal => exact ⟨⟨s, q.1⟩, q.2⟩
  | _ => exact ⟨s, q⟩

/-! ### Regions -/
def WL (P : Program) (N : Nat) (ops : Array Oper) (Q : Post) (l : List Oper) (f : Fr) (w : World) : Prop :=
  ∀ a, Std N a → fr a = f → wpList P ops (lift N Q) l a w

theorem WF.region {id : Nat} {l : List Oper} (h : WL P N l.toArray Q l f w) : WF P N (.region id l.toArray false) Q f w :=
  fun a hs hf => wp_region_lit (h a hs hf)

theorem WL.nil {ops : Array Oper} (h : Q .normal f w) : WL P N ops Q [] f w := fun a hs hf => by subst hf; exact wpList_nil ⟨hs, h⟩

/-- What one operation does. -/
def OW (P : Program) (N : Nat) (o : Oper) (Q : Post) (k : Fr → World → Prop) (f : Fr) (w : World) : Prop :=
  ∀ a, Std N a → fr a = f → o.wp P a w (fun a' w' => Std N a' ∧ k (fr a') w') (lift N Q)

theorem wp_op_mono {o : Oper} {a : Act} {w : World} {k k' : Act → World → Prop} {Q : Exit → Act → World → Prop} (h : o.wp P a w k Q) (hk : ∀ a w, k a w → k' a w) : o.wp P a w k' Q := by
  unfold Oper.wp at *
  generalize (execOp a.eval o).run P w = r at *
  cases r with
  | ok n w' =>
    cases n <;> simp only [Oper.upon] at h ⊢
    case value v => exact hk _ _ h
    case skip => exact hk _ _ h
    case enter g args =>
      refine h.mono ?_
      intro e w'' he
      cases e with
      | returned v => exact hk _ _ he
      | panicked c => exact he
      | outgrown => exact he
    case row r args => exact h.mono fun v w'' he => hk _ _ he
    all_goals first | exact h | exact hk _ _ h
  | halt h' w' => cases h' <;> simp only [Oper.upon] at h ⊢ <;> exact h

theorem WL.op {ops : Array Oper} {rest : List Oper} {o : Oper} (hg : o.guard = none) (h : OW P N o Q (WL P N ops Q rest) f w) : WL P N ops Q (o :: rest) f w := by
  intro a hs hf
  unfold wpList
  rw [if_pos (by simp [Region.wanted, hg])]
  exact .inl (wp_op_mono (h a hs hf) fun a' w' ⟨s, q⟩ => q a' s rfl)

/-- the answer of a guard, read off the frame -/
def yd (ops : Array Oper) (f : Fr) (j : Nat) : Option Bool :=
  match (ops[j]?).bind (·.dst) with
  | some d => match f d with
    | .bool b => some b
    | _ => none
  | none => none

theorem yielded_eq {ops : Array Oper} {a : Act} {j : Nat} {b : Bool} (h : yd ops (fr a) j = some b) : yielded ops a.tmps j = some b := by
  unfold yd at h
  unfold yielded
  cases hd : (ops[j]?).bind (·.dst) with
  | none => rw [hd] at h; cases h
  | some d =>
    rw [hd] at h
    simp only [fr, Array.getD_eq_getD_getElem?] at h
    simp only [Option.bind_some]
    cases hv : a.tmps[d]? with
    | none => rw [hv] at h; simp [undef] at h
    | some v => rw [hv] at h; simp only [Option.getD_some] at h; cases v <;> first | exact h | cases h

/-- the answer of a guard is not b: it is the other one, or the guard was passed itself -/
def nyd (ops : Array Oper) (f : Fr) (j : Nat) (b : Bool) : Prop := yd ops f j = some (!b) ∨ yd ops f j = none
theorem not_yielded {ops : Array Oper} {a : Act} {j : Nat} {b : Bool} (h : nyd ops (fr a) j b) : (yielded ops a.tmps j == some b) = false := by
  rcases h with h | h
  · rw [yielded_eq h]; cases b <;> rfl
  · unfold yd at h
    unfold yielded
    cases hd : (ops[j]?).bind (·.dst) with
    | none => rfl
    | some d =>
      rw [hd] at h
      simp only [fr, Array.getD_eq_getD_getElem?] at h
      simp only [Option.bind_some]
      cases hv : a.tmps[d]? with
      | none => rfl
      | some v => rw [hv] at h; simp only [Option.getD_some] at h; cases v <;> first | rfl | cases h

theorem WL.opg {ops : Array Oper} {rest : List Oper} {o : Oper} {j : Nat} {b : Bool} (hg : o.guard = some (j, b)) (hy : yd ops f j = some b) (h : OW P N o Q (WL P N ops Q rest) f w) : WL P N ops Q (o :: rest) f w := by
  intro a hs hf
  subst hf
  unfold wpList
  rw [if_pos (by simp [Region.wanted, hg, yielded_eq hy])]
  exact .inl (wp_op_mono (h a hs rfl) fun a' w' ⟨s, q⟩ => q a' s rfl)

theorem WL.pass {ops : Array Oper} {rest : List Oper} {o : Oper} {j d : Nat} {b : Bool} (hg : o.guard = some (j, b)) (hd : o.dst = some d) (hdN : d < N) (hy : nyd ops f j b) (h : WL P N ops Q rest (put f d undef) w) : WL P N ops Q (o :: rest) f w := by
  intro a hs hf
  subst hf
  unfold wpList
  rw [if_neg (by have hn := not_yielded hy; simp only [beq_eq_false_iff_ne] at hn; simp [Region.wanted, hg, hn])]
  rw [hd]
  exact h _ (hs.put _ _) (fr_put hs hdN _)

theorem WL.pass0 {ops : Array Oper} {rest : List Oper} {o : Oper} {j : Nat} {b : Bool} (hg : o.guard = some (j, b)) (hd : o.dst = none) (hy : nyd ops f j b) (h : WL P N ops Q rest f w) : WL P N ops Q (o :: rest) f w := by
  intro a hs hf
  subst hf
  unfold wpList
  rw [if_neg (by have hn := not_yielded hy; simp only [beq_eq_false_iff_ne] at hn; simp [Region.wanted, hg, hn])]
  rw [hd]
  exact h _ hs rfl

theorem OW.val {o : Oper} {d : Nat} {v : Value} {w' : World} (hd : o.dst = some d) (hdN : d < N) (hr : (execOp (ev f) o).run P w = .ok (.value v) w') (h : k (put f d v) w') : OW P N o Q k f w := by
  intro a hs hf
  subst hf
  unfold Oper.wp
  rw [eval_eq, hr]
  simp only [Oper.upon, hd]
  exact ⟨hs.put _ _, by rw [fr_put hs hdN]; exact h⟩

theorem OW.skip {o : Oper} {w' : World} (hd : o.dst = none) (hr : (execOp (ev f) o).run P w = .ok .skip w') (h : k f w') : OW P N o Q k f w := by
  intro a hs hf
  subst hf
  unfold Oper.wp
  rw [eval_eq, hr]
  simp only [Oper.upon, hd]
  exact ⟨hs, h⟩

theorem OW.enter {o : Oper} {d : Nat} {g : FuncId} {args : List Value} {R : Value → World → Prop} {w' : World} (hd : o.dst = some d) (hdN : d < N) (hr : (execOp (ev f) o).run P w = .ok (.enter g args.toArray) w') (hc : FnOk P g args w' R)
    (h : ∀ v w'', R v w'' → k (put f d v) w'') : OW P N o Q k f w := by
  intro a hs hf
  subst hf
  unfold Oper.wp
  rw [eval_eq, hr]
  simp only [Oper.upon]
  refine Calls.mono hc ?_
  rintro e w'' ⟨v, rfl, hR⟩
  simp only [hd]
  exact ⟨hs.put _ _, by rw [fr_put hs hdN]; exact h _ _ hR⟩

theorem OW.enter0 {o : Oper} {g : FuncId} {args : List Value} {R : Value → World → Prop} {w' : World} (hd : o.dst = none) (hr : (execOp (ev f) o).run P w = .ok (.enter g args.toArray) w') (hc : FnOk P g args w' R)
    (h : ∀ v w'', R v w'' → k f w'') : OW P N o Q k f w := by
  intro a hs hf
  subst hf
  unfold Oper.wp
  rw [eval_eq, hr]
  simp only [Oper.upon]
  refine Calls.mono hc ?_
  rintro e w'' ⟨v, rfl, hR⟩
  simp only [hd]
  exact ⟨hs, h _ _ hR⟩
end code

theorem results_eq {fn : Func} {rs : List Nat} (h : fn.results = (rs.map ResultVar.tmp).toArray) (hl : rs.length ≤ 6) (a : Act) (P : Program) (w : World) :
    (results fn a.tmps).run P w = .ok (resv rs (fr a)) w := by
  match rs with
  | [] => simp [results, h, resv]
  | [_] => simp [results, h, resv, fr]
  | [_, _] => simp [results, h, resv, fr]
  | [_, _, _] => simp [results, h, resv, fr]
  | [_, _, _, _] => simp [results, h, resv, fr]
  | [_, _, _, _, _] => simp [results, h, resv, fr]
  | [_, _, _, _, _, _] => simp [results, h, resv, fr]
  | _ :: _ :: _ :: _ :: _ :: _ :: _ :: rs => simp at hl

theorem FnOk.enter {P : Program} {K : FuncId} {args : List Value} {w : World} {R : Value → World → Prop} {fn : Func} {c : Code} {N : Nat} {rs : List Nat} (hf : P.funcs[K]? = some fn) (hb : fn.body = some c) (hn : fn.ntmps = N)
    (hr : fn.results = (rs.map ResultVar.tmp).toArray) (ha : Nat.ble args.length N = true) (hl : Nat.ble rs.length 6 = true) (h : WF P N c (fin rs R) (init args) w) : FnOk P K args w R := by
  refine calls_of_wp hf hb (wp_mono (h _ ⟨rfl, ?_⟩ ?_) ?_)
  · have := Nat.le_of_ble_eq_true ha; simp [hn]; omega
  · funext i
    simp only [fr]
    exact init_eq args _ i
  · intro e a w' ⟨s, q⟩
    cases e with
    | normal => exact ⟨s.defers, _, results_eq hr (Nat.le_of_ble_eq_true hl) a P w', _, rfl, q⟩
    | ret => exact ⟨s.defers, _, results_eq hr (Nat.le_of_ble_eq_true hl) a P w', _, rfl, q⟩
    | _ => exact q.elim


/-! ### One operation that yields a value -/
section steps
variable {P : Program} {N : Nat} {Q : Post} {f : Fr} {w w' : World} {ops : Array Oper} {rest : List Oper} {o : Oper} {d : Nat} {v : Value}

theorem lt_of_blt {d N : Nat} (h : Nat.blt d N = true) : d < N := by simpa [Nat.blt_eq] using h

theorem WL.va (hg : o.guard = none) (hd : o.dst = some d) (hdN : Nat.blt d N = true) (hr : (execOp (ev f) o).run P w = .ok (.value v) w') (h : WL P N ops Q rest (put f d v) w') : WL P N ops Q (o :: rest) f w :=
  WL.op hg (OW.val hd (lt_of_blt hdN) hr h)
theorem WL.vg {j : Nat} {b : Bool} (hg : o.guard = some (j, b)) (hy : yd ops f j = some b) (hd : o.dst = some d) (hdN : Nat.blt d N = true) (hr : (execOp (ev f) o).run P w = .ok (.value v) w') (h : WL P N ops Q rest (put f d v) w') : WL P N ops Q (o :: rest) f w :=
  WL.opg hg hy (OW.val hd (lt_of_blt hdN) hr h)
theorem WL.s (hg : o.guard = none) (hd : o.dst = none) (hr : (execOp (ev f) o).run P w = .ok .skip w') (h : WL P N ops Q rest f w') : WL P N ops Q (o :: rest) f w :=
  WL.op hg (OW.skip hd hr h)
theorem WL.sg {j : Nat} {b : Bool} (hg : o.guard = some (j, b)) (hy : yd ops f j = some b) (hd : o.dst = none) (hr : (execOp (ev f) o).run P w = .ok .skip w') (h : WL P N ops Q rest f w') : WL P N ops Q (o :: rest) f w :=
  WL.opg hg hy (OW.skip hd hr h)
theorem WL.c {g : FuncId} {args : List Value} {R : Value → World → Prop} (hg : o.guard = none) (hd : o.dst = some d) (hdN : Nat.blt d N = true) (hr : (execOp (ev f) o).run P w = .ok (.enter g args.toArray) w') (hc : FnOk P g args w' R)
    (h : ∀ v w'', R v w'' → WL P N ops Q rest (put f d v) w'') : WL P N ops Q (o :: rest) f w := WL.op hg (OW.enter hd (lt_of_blt hdN) hr hc h)
theorem WL.cg {j : Nat} {b : Bool} {g : FuncId} {args : List Value} {R : Value → World → Prop} (hg : o.guard = some (j, b)) (hy : yd ops f j = some b) (hd : o.dst = some d) (hdN : Nat.blt d N = true) (hr : (execOp (ev f) o).run P w = .ok (.enter g args.toArray) w') (hc : FnOk P g args w' R)
    (h : ∀ v w'', R v w'' → WL P N ops Q rest (put f d v) w'') : WL P N ops Q (o :: rest) f w := WL.opg hg hy (OW.enter hd (lt_of_blt hdN) hr hc h)
theorem WL.c0 {g : FuncId} {args : List Value} {R : Value → World → Prop} (hg : o.guard = none) (hd : o.dst = none) (hr : (execOp (ev f) o).run P w = .ok (.enter g args.toArray) w') (hc : FnOk P g args w' R)
    (h : ∀ v w'', R v w'' → WL P N ops Q rest f w'') : WL P N ops Q (o :: rest) f w := WL.op hg (OW.enter0 hd hr hc h)
theorem WL.p {j : Nat} {b : Bool} (hg : o.guard = some (j, b)) (hd : o.dst = some d) (hdN : Nat.blt d N = true) (hy : yd ops f j = some (!b)) (h : WL P N ops Q rest (put f d undef) w) : WL P N ops Q (o :: rest) f w :=
  WL.pass hg hd (lt_of_blt hdN) (.inl hy) h
theorem WL.pn {j : Nat} {b : Bool} (hg : o.guard = some (j, b)) (hd : o.dst = some d) (hdN : Nat.blt d N = true) (hy : yd ops f j = none) (h : WL P N ops Q rest (put f d undef) w) : WL P N ops Q (o :: rest) f w :=
  WL.pass hg hd (lt_of_blt hdN) (.inr hy) h
theorem WL.p0 {j : Nat} {b : Bool} (hg : o.guard = some (j, b)) (hd : o.dst = none) (hy : yd ops f j = some (!b)) (h : WL P N ops Q rest f w) : WL P N ops Q (o :: rest) f w :=
  WL.pass0 hg hd (.inl hy) h
theorem WL.pn0 {j : Nat} {b : Bool} (hg : o.guard = some (j, b)) (hd : o.dst = none) (hy : yd ops f j = none) (h : WL P N ops Q rest f w) : WL P N ops Q (o :: rest) f w :=
  WL.pass0 hg hd (.inr hy) h

theorem WL.split {t : Bool} {j : Nat} (hy : yd ops f j = some t) (h1 : t = true → WL P N ops Q rest f w) (h2 : t = false → WL P N ops Q rest f w) : WL P N ops Q rest f w := by
  cases t
  · exact h2 rfl
  · exact h1 rfl

/-- Two frames agree at some slots. -/
def Agree (S : List Nat) (f g : Fr) : Prop := ∀ i, S.contains i = true → f i = g i
end steps

/-- the operands of a call -/
def evl (f : Fr) : List Operand → List Value
  | [] => []
  | x :: l => ev f x :: evl f l
theorem evl_eq (f : Fr) : ∀ l, evl f l = l.map (ev f)
  | [] => rfl
  | x :: l => by simp [evl, evl_eq f l]
theorem evl_nil {f : Fr} : evl f [] = [] := rfl
theorem evl_cons {f : Fr} {x : Operand} {v : Value} {l : List Operand} {r : List Value} (h : ev f x = v) (k : evl f l = r) : evl f (x :: l) = v :: r := by rw [← h, ← k]; rfl

/-! ### What the operations yield -/
namespace X
variable {P : Program} {f : Fr} {w : World} {dst : Option Tmp} {ty t t' : TypeId} {pos : String} {aft : Array Edge} {g : Option (Nat × Bool)} {x y z : Operand} {v u : Value} {k k' : IntKind} {m n s : Int} {b c : Bool}

theorem move (hx : ev f x = v) : (execOp (ev f) ⟨dst, .move x, ty, pos, aft, g⟩).run P w = .ok (.value v) w := by subst hx; rfl
theorem assign (hx : ev f x = v) : (execOp (ev f) ⟨dst, .assign x, ty, pos, aft, g⟩).run P w = .ok (.value v) w := by subst hx; rfl
theorem moveI (hx : ev f x = .int k m) : (execOp (ev f) ⟨dst, .move x, ty, pos, aft, g⟩).run P w = .ok (.value (.int k m)) w := move hx
theorem assignI (hx : ev f x = .int k m) : (execOp (ev f) ⟨dst, .assign x, ty, pos, aft, g⟩).run P w = .ok (.value (.int k m)) w := assign hx
theorem moveB (hx : ev f x = .bool b) : (execOp (ev f) ⟨dst, .move x, ty, pos, aft, g⟩).run P w = .ok (.value (.bool b)) w := move hx
theorem assignB (hx : ev f x = .bool b) : (execOp (ev f) ⟨dst, .assign x, ty, pos, aft, g⟩).run P w = .ok (.value (.bool b)) w := assign hx
theorem pickT (hx : ev f x = .bool b) (hb : b = true) (hy : ev f y = v) : (execOp (ev f) ⟨dst, .pick x y z, ty, pos, aft, g⟩).run P w = .ok (.value v) w := by
  subst hb; subst hy; simp [execOp, hx, asBool]
theorem pickF (hx : ev f x = .bool b) (hb : b = false) (hz : ev f z = v) : (execOp (ev f) ⟨dst, .pick x y z, ty, pos, aft, g⟩).run P w = .ok (.value v) w := by
  subst hb; subst hz; simp [execOp, hx, asBool]

theorem add (hx : ev f x = .int k m) (hy : ev f y = .int k n) (hs : k.wrap (m + n) = s) : (execOp (ev f) ⟨dst, .binOp .add t x y t', ty, pos, aft, g⟩).run P w = .ok (.value (.int k s)) w := by
  subst hs; simp [execOp, hx, hy, eqGuard, binOp, Op.intArith]
theorem sub (hx : ev f x = .int k m) (hy : ev f y = .int k n) (hs : k.wrap (m - n) = s) : (execOp (ev f) ⟨dst, .binOp .sub t x y t', ty, pos, aft, g⟩).run P w = .ok (.value (.int k s)) w := by
  subst hs; simp [execOp, hx, hy, eqGuard, binOp, Op.intArith]
theorem mul (hx : ev f x = .int k m) (hy : ev f y = .int k n) (hs : k.wrap (m * n) = s) : (execOp (ev f) ⟨dst, .binOp .mul t x y t', ty, pos, aft, g⟩).run P w = .ok (.value (.int k s)) w := by
  subst hs; simp [execOp, hx, hy, eqGuard, binOp, Op.intArith]
theorem quo (hx : ev f x = .int k m) (hy : ev f y = .int k n) (hn : n ≠ 0) (hs : k.wrap (m.tdiv n) = s) : (execOp (ev f) ⟨dst, .binOp .quo t x y t', ty, pos, aft, g⟩).run P w = .ok (.value (.int k s)) w := by
  subst hs; simp [execOp, hx, hy, eqGuard, binOp, Op.intDiv, hn]
theorem rem (hx : ev f x = .int k m) (hy : ev f y = .int k n) (hn : n ≠ 0) (hs : m.tmod n = s) : (execOp (ev f) ⟨dst, .binOp .rem t x y t', ty, pos, aft, g⟩).run P w = .ok (.value (.int k s)) w := by
  subst hs; simp [execOp, hx, hy, eqGuard, binOp, Op.intDiv, hn]
theorem lss (hx : ev f x = .int k m) (hy : ev f y = .int k n) : (execOp (ev f) ⟨dst, .binOp .lss t x y t', ty, pos, aft, g⟩).run P w = .ok (.value (.bool (decide (m < n)))) w := by
  simp [execOp, hx, hy, eqGuard, binOp, Op.intCmp]
theorem leq (hx : ev f x = .int k m) (hy : ev f y = .int k n) : (execOp (ev f) ⟨dst, .binOp .leq t x y t', ty, pos, aft, g⟩).run P w = .ok (.value (.bool (decide (m ≤ n)))) w := by
  simp [execOp, hx, hy, eqGuard, binOp, Op.intCmp]
theorem gtr (hx : ev f x = .int k m) (hy : ev f y = .int k n) : (execOp (ev f) ⟨dst, .binOp .gtr t x y t', ty, pos, aft, g⟩).run P w = .ok (.value (.bool (decide (n < m)))) w := by
  simp [execOp, hx, hy, eqGuard, binOp, Op.intCmp]
theorem geq (hx : ev f x = .int k m) (hy : ev f y = .int k n) : (execOp (ev f) ⟨dst, .binOp .geq t x y t', ty, pos, aft, g⟩).run P w = .ok (.value (.bool (decide (n ≤ m)))) w := by
  simp [execOp, hx, hy, eqGuard, binOp, Op.intCmp]
theorem eql (hx : ev f x = .int k m) (hy : ev f y = .int k n) : (execOp (ev f) ⟨dst, .binOp .eql t x y t', ty, pos, aft, g⟩).run P w = .ok (.value (.bool (decide (m = n)))) w := by
  simp only [execOp, hx, hy]
  by_cases h : m = n <;> simp [eqGuard, binOp, Op.intCmp, h]
theorem neq (hx : ev f x = .int k m) (hy : ev f y = .int k n) : (execOp (ev f) ⟨dst, .binOp .neq t x y t', ty, pos, aft, g⟩).run P w = .ok (.value (.bool (decide (m ≠ n)))) w := by
  simp only [execOp, hx, hy]
  by_cases h : m = n <;> simp [eqGuard, binOp, Op.intCmp, h]
theorem bits (op : BinOp) (ho : op = .and ∨ op = .or ∨ op = .xor ∨ op = .andNot) (hx : ev f x = .int k m) (hy : ev f y = .int k n) (hs : (Op.intBits op k m n).run P w = .ok (.int k s) w) :
    (execOp (ev f) ⟨dst, .binOp op t x y t', ty, pos, aft, g⟩).run P w = .ok (.value (.int k s)) w := by
  rcases ho with rfl | rfl | rfl | rfl <;> simp [execOp, hx, hy, eqGuard, binOp, hs]
theorem and (hx : ev f x = .int k m) (hy : ev f y = .int k n) (hs : k.wrap (BitVec.ofInt k.bits m &&& BitVec.ofInt k.bits n).toNat = s) : (execOp (ev f) ⟨dst, .binOp .and t x y t', ty, pos, aft, g⟩).run P w = .ok (.value (.int k s)) w :=
  bits _ (by simp) hx hy (by subst hs; rfl)
theorem or (hx : ev f x = .int k m) (hy : ev f y = .int k n) (hs : k.wrap (BitVec.ofInt k.bits m ||| BitVec.ofInt k.bits n).toNat = s) : (execOp (ev f) ⟨dst, .binOp .or t x y t', ty, pos, aft, g⟩).run P w = .ok (.value (.int k s)) w :=
  bits _ (by simp) hx hy (by subst hs; rfl)
theorem xor (hx : ev f x = .int k m) (hy : ev f y = .int k n) (hs : k.wrap (BitVec.ofInt k.bits m ^^^ BitVec.ofInt k.bits n).toNat = s) : (execOp (ev f) ⟨dst, .binOp .xor t x y t', ty, pos, aft, g⟩).run P w = .ok (.value (.int k s)) w :=
  bits _ (by simp) hx hy (by subst hs; rfl)
theorem compl (hx : ev f x = .int k m) (hs : k.wrap (BitVec.ofInt k.bits (if k.signed then -1 else k.max) ^^^ BitVec.ofInt k.bits m).toNat = s) : (execOp (ev f) ⟨dst, .unOp .xor t x, ty, pos, aft, g⟩).run P w = .ok (.value (.int k s)) w := by
  subst hs; simp [execOp, hx, Op.unary, Op.intBits]
theorem shl (hx : ev f x = .int k m) (hy : ev f y = .int k' n) (hn : 0 ≤ n) (hs : k.wrap (m * 2 ^ (min n.toNat k.bits)) = s) : (execOp (ev f) ⟨dst, .binOp .shl t x y t', ty, pos, aft, g⟩).run P w = .ok (.value (.int k s)) w := by
  subst hs; simp [execOp, hx, hy, eqGuard, binOp, Op.shift, Int.not_lt.2 hn]
theorem shr (hx : ev f x = .int k m) (hy : ev f y = .int k' n) (hn : 0 ≤ n) (hs : m.fdiv (2 ^ (min n.toNat k.bits)) = s) : (execOp (ev f) ⟨dst, .binOp .shr t x y t', ty, pos, aft, g⟩).run P w = .ok (.value (.int k s)) w := by
  subst hs; simp [execOp, hx, hy, eqGuard, binOp, Op.shift, Int.not_lt.2 hn]
theorem not (hx : ev f x = .bool b) : (execOp (ev f) ⟨dst, .unOp .not t x, ty, pos, aft, g⟩).run P w = .ok (.value (.bool (!b))) w := by
  simp [execOp, hx, Op.unary]
theorem neg (hx : ev f x = .int k m) (hs : k.wrap (0 - m) = s) : (execOp (ev f) ⟨dst, .unOp .neg t x, ty, pos, aft, g⟩).run P w = .ok (.value (.int k s)) w := by
  subst hs; simp [execOp, hx, Op.unary, Op.intArith]
theorem run_equal_bool (ht : P.underlying t = some .bool) : (Op.equal t (.bool b) (.bool c)).run P w = .ok (b == c) w := by
  unfold Op.equal
  rw [show Op.maxDepth = 9999 + 1 from rfl, Op.equalIn]
  simp only [Sem.run_bind, run_underlying ht, Result.andThen]
  rfl
theorem eqlB (hx : ev f x = .bool b) (hy : ev f y = .bool c) (ht : P.underlying t = some .bool) : (execOp (ev f) ⟨dst, .binOp .eql t x y t', ty, pos, aft, g⟩).run P w = .ok (.value (.bool (b == c))) w := by
  simp [execOp, hx, hy, eqGuard, binOp, run_equal_bool ht]
theorem neqB (hx : ev f x = .bool b) (hy : ev f y = .bool c) (ht : P.underlying t = some .bool) : (execOp (ev f) ⟨dst, .binOp .neq t x y t', ty, pos, aft, g⟩).run P w = .ok (.value (.bool (!(b == c)))) w := by
  simp [execOp, hx, hy, eqGuard, binOp, run_equal_bool ht]
theorem conv {src : TypeId} (hx : ev f x = .int k m) (hs : (P.underlying src).isSome = true) (hd : P.underlying t = some (.int k')) (hm : k'.wrap m = s) : (execOp (ev f) ⟨dst, .convert src t x, ty, pos, aft, g⟩).run P w = .ok (.value (.int k' s)) w := by
  subst hm
  obtain ⟨d, hd'⟩ := Option.isSome_iff_exists.mp hs
  simp [execOp, hx, convert, run_underlying hd', run_underlying hd, Conv.intToInt]
theorem min2 (hx : ev f x = .int k m) (hy : ev f y = .int k n) {at_ : Array TypeId} : (execOp (ev f) ⟨dst, .call ⟨.builtin .min, #[x, y], at_⟩, ty, pos, aft, g⟩).run P w = .ok (.value (.int k (min m n))) w := by
  have e : (if n < m then n else m) = min m n := by split <;> omega
  simp [execOp, resolve, invoke, builtin, hx, hy, Builtin.min_, Builtin.min2, e]
theorem min2N {a b : Nat} (hx : ev f x = .int k (a : Int)) (hy : ev f y = .int k (b : Int)) {at_ : Array TypeId} : (execOp (ev f) ⟨dst, .call ⟨.builtin .min, #[x, y], at_⟩, ty, pos, aft, g⟩).run P w = .ok (.value (.int k ((min a b : Nat) : Int))) w := by
  have := min2 (P := P) (w := w) (dst := dst) (ty := ty) (pos := pos) (aft := aft) (g := g) hx hy (at_ := at_)
  rwa [show min (a : Int) (b : Int) = ((min a b : Nat) : Int) by omega] at this
theorem min3N {a b c : Nat} (hx : ev f x = .int k (a : Int)) (hy : ev f y = .int k (b : Int)) (hz : ev f z = .int k (c : Int)) {at_ : Array TypeId} : (execOp (ev f) ⟨dst, .call ⟨.builtin .min, #[x, y, z], at_⟩, ty, pos, aft, g⟩).run P w = .ok (.value (.int k ((min (min a b) c : Nat) : Int))) w := by
  have e : (if (b : Int) < (a : Int) then (b : Int) else (a : Int)) = ((min a b : Nat) : Int) := by split <;> omega
  have e2 : (if (c : Int) < ((min a b : Nat) : Int) then (c : Int) else ((min a b : Nat) : Int)) = ((min (min a b) c : Nat) : Int) := by split <;> omega
  simp only [execOp, resolve, invoke, builtin, List.map_toArray, List.map_cons, List.map_nil, hx, hy, hz, Builtin.min_, List.foldlM_cons, List.foldlM_nil, Builtin.min2, e, e2, pure_bind]
  simp
theorem min3V {a b c N : Nat} (hN : N = min (min a b) c) (hx : ev f x = .int k (a : Int)) (hy : ev f y = .int k (b : Int)) (hz : ev f z = .int k (c : Int)) {at_ : Array TypeId} : (execOp (ev f) ⟨dst, .call ⟨.builtin .min, #[x, y, z], at_⟩, ty, pos, aft, g⟩).run P w = .ok (.value (.int k (N : Int))) w := by
  rw [hN]; exact min3N hx hy hz
theorem max2 (hx : ev f x = .int k m) (hy : ev f y = .int k n) {at_ : Array TypeId} : (execOp (ev f) ⟨dst, .call ⟨.builtin .max, #[x, y], at_⟩, ty, pos, aft, g⟩).run P w = .ok (.value (.int k (max m n))) w := by
  have e : (if m < n then n else m) = max m n := by split <;> omega
  simp [execOp, resolve, invoke, builtin, hx, hy, Builtin.max_, Builtin.max2, e]
theorem min3 (hx : ev f x = .int k m) (hy : ev f y = .int k n) (hz : ev f z = .int k s) {at_ : Array TypeId} : (execOp (ev f) ⟨dst, .call ⟨.builtin .min, #[x, y, z], at_⟩, ty, pos, aft, g⟩).run P w = .ok (.value (.int k (min (min m n) s))) w := by
  have e : (if n < m then n else m) = min m n := by split <;> omega
  have e2 : (if s < min m n then s else min m n) = min (min m n) s := by split <;> omega
  simp [execOp, resolve, invoke, builtin, hx, hy, hz, Builtin.min_, Builtin.min2, e, e2]
theorem extract {vs : Array Value} {i : Nat} (hx : ev f x = .tuple vs) (hi : vs[i]? = some v) : (execOp (ev f) ⟨dst, .extract x i, ty, pos, aft, g⟩).run P w = .ok (.value v) w := by
  simp [execOp, hx, Instr.extract, hi]
theorem call {K : FuncId} {args : List Operand} {at_ : Array TypeId} {vs : List Value} (hc : ∀ (as : Array Value) (w : World), (callFunc K as).run P w = .ok (.enter K as) w) (ha : evl f args = vs) :
    (execOp (ev f) ⟨dst, .call ⟨.value (.func K), args.toArray, at_⟩, ty, pos, aft, g⟩).run P w = .ok (.enter K vs.toArray) w := by
  have ha' : args.toArray.map (ev f) = vs.toArray := by rw [← ha, evl_eq]; simp
  simp [execOp, resolve, ev, Deferred.ofValue, invoke, ha', hc]
end X

/-! ### Memory -/
/-- Nothing that was there has changed. -/
abbrev Ext (w w' : World) : Prop := w.grownBy w' none

theorem Ext.refl (w : World) : Ext w w := ⟨rfl, rfl, rfl, Nat.le_refl _, fun _ _ _ => rfl⟩
theorem grown_trans {a b c : World} {row : Option Nat} (h : Ext a b) (k : b.grownBy c row) (hr : ∀ i, row = some i → a.heap.size ≤ i) : Ext a c :=
  ⟨k.os.trans h.os, k.tape.trans h.tape, k.output.trans h.output, Nat.le_trans h.size k.size, fun i hi _ =>
    (k.block i (Nat.lt_of_lt_of_le hi h.size) (fun e => by have := hr i e.symm; omega)).trans (h.block i hi (by simp))⟩
theorem Ext.trans {a b c : World} (h : Ext a b) (k : Ext b c) : Ext a c := grown_trans h k (by simp)
theorem Ext.drew (w : World) : Ext w w.drew := ⟨rfl, rfl, rfl, Nat.le_refl _, fun _ _ _ => rfl⟩
theorem Ext.alloc (w : World) (o : Obj) : Ext w (w.alloc o) := World.grownBy_alloc w o none
theorem Ext.below {w w' : World} (h : Ext w w') : Below w.heap.size w w' := ⟨h.os, h.tape, h.output, h.size, fun k hk => h.block k hk (by simp)⟩
/-- behind a write to memory of the call's own -/
theorem Ext.own {a b c : World} (h : Ext a b) {e : TypeId} {sz n : Nat} {v : Value} {xs : List Value} {B : Nat} (ho : b.ownsRow B e sz v n xs) (hB : a.heap.size ≤ B) (k : b.grownBy c v.ownBlock) : Ext a c :=
  grown_trans h k fun i hi => Nat.le_trans hB (ho.lt i hi).1

/-- where a slice's elements begin -/
def base : Value → Addr
  | .slice (some a) _ _ => a
  | _ => ⟨0, 0, none⟩

/-- A slice of n elements of sz cells each, which hold cs. -/
structure Row (w : World) (v : Value) (n sz : Nat) (cs : List Value) : Prop where
  shape : ∃ a c, v = .slice a n c ∧ n ≤ c ∧ c ≤ maxLen ∧ (0 < n → ∃ b o, a = some ⟨b, o, none⟩)
  len : cs.length = n * sz
  cell : ∀ i u, cs[i]? = some u → w.cell? ((base v).add i) = some u

theorem Row.grown {w w' : World} {v : Value} {n sz : Nat} {cs : List Value} {row : Option Nat} (h : Row w v n sz cs) (g : w.grownBy w' row) (hne : v.ownBlock = none ∨ v.ownBlock ≠ row) : Row w' v n sz cs := by
  refine ⟨h.shape, h.len, fun i u hu => ?_⟩
  have hc := h.cell i u hu
  refine g.cell hc ?_
  obtain ⟨a, c, rfl, _⟩ := h.shape
  cases a with
  | none =>
    exfalso
    have h1 : i < cs.length := (List.getElem?_eq_some_iff.1 hu).1
    have h2 := h.len
    have h3 := h.shape
    obtain ⟨a', c', e, _, _, h4⟩ := h3
    cases n with
    | zero => simp at h2; rw [h2] at h1; simp at h1
    | succ n => obtain ⟨b, o, e'⟩ := h4 (by omega); rw [e'] at e; cases e
  | some a =>
    have : ((base (.slice (some a) n c)).add i).block = a.block := by simp only [base, Addr.add]; split <;> rfl
    rw [this]
    simp only [Value.ownBlock] at hne
    rcases hne with hne | hne
    · cases hne
    · exact hne

theorem Row.ext {w w' : World} {v : Value} {n sz : Nat} {cs : List Value} (h : Row w v n sz cs) (g : Ext w w') : Row w' v n sz cs :=
  h.grown g (by cases hv : v.ownBlock <;> simp)

theorem Row.of_own {w : World} {v : Value} {n sz B : Nat} {e : TypeId} {cs : List Value} (h : w.ownsRow B e sz v n cs) : Row w v n sz cs := by
  refine ⟨?_, h.1, ?_⟩
  · rcases h.2 with ⟨rfl, rfl⟩ | ⟨g, cap, cur, rfl, _, _, h1, h2, _⟩
    · exact ⟨none, 0, rfl, Nat.le_refl _, by simp [maxLen], fun h => by omega⟩
    · exact ⟨_, cap, rfl, h1, h2, fun _ => ⟨g, 0, rfl⟩⟩
  · intro i u hu
    rcases h.2 with ⟨rfl, rfl⟩ | ⟨g, cap, cur, rfl, _⟩
    · have := h.1; simp at this; rw [this] at hu; simp at hu
    · exact h.cells (g := g) rfl i u hu

theorem Row.nil (w : World) (sz : Nat) : Row w (.slice none 0 0) 0 sz [] := ⟨⟨none, 0, rfl, Nat.le_refl _, by simp [maxLen], fun h => by omega⟩, by simp, fun i u h => by simp at h⟩

theorem own_ext {w w' : World} {v : Value} {n sz B : Nat} {e : TypeId} {cs : List Value} (h : w.ownsRow B e sz v n cs) (g : Ext w w') : w'.ownsRow B e sz v n cs :=
  h.kept g (by cases hv : v.ownBlock <;> simp)

theorem own_mono {w : World} {v : Value} {n sz B B' : Nat} {e : TypeId} {cs : List Value} (h : w.ownsRow B' e sz v n cs) (hB : B ≤ B') : w.ownsRow B e sz v n cs := by
  refine ⟨h.1, ?_⟩
  rcases h.2 with h2 | ⟨g, cap, cur, h1, h2, h3⟩
  · exact .inl h2
  · exact .inr ⟨g, cap, cur, h1, Nat.le_trans hB h2, h3⟩

/-- two slices that do not share their block -/
def Apart (u v : Value) : Prop := ∀ k, u.ownBlock = some k → v.ownBlock ≠ some k
theorem Apart.symm {u v : Value} (h : Apart u v) : Apart v u := fun k h1 h2 => h k h2 h1
theorem Apart.ne {u v : Value} (h : Apart u v) : u.ownBlock = none ∨ u.ownBlock ≠ v.ownBlock := by
  cases hu : u.ownBlock with
  | none => exact .inl rfl
  | some k => exact .inr fun e => h k hu e.symm
theorem own_apart {w1 w2 : World} {v1 v2 : Value} {n1 n2 sz1 sz2 B1 B2 : Nat} {e1 e2 : TypeId} {xs1 xs2 : List Value} (h1 : w1.ownsRow B1 e1 sz1 v1 n1 xs1) (h2 : w2.ownsRow B2 e2 sz2 v2 n2 xs2) (hle : w1.heap.size ≤ B2) : Apart v1 v2 := by
  intro k hk hk2
  have := (h1.lt k hk).2
  have := (h2.lt k hk2).1
  omega
/-- behind an append: the same block, or a new one -/
def Moved (w : World) (v v' : Value) : Prop := v'.ownBlock = v.ownBlock ∨ ∀ k, v'.ownBlock = some k → w.heap.size ≤ k
theorem Apart.moved {w : World} {u v v' : Value} {n sz B : Nat} {e : TypeId} {xs : List Value} (h : Apart u v) (hu : w.ownsRow B e sz u n xs) (hm : Moved w v v') : Apart u v' := by
  intro k hk hk'
  rcases hm with hm | hm
  · exact h k hk (hm ▸ hk')
  · have := (hu.lt k hk).2
    have := hm k hk'
    omega
theorem Apart.of_ext {w : World} {u v : Value} {n sz B n2 sz2 : Nat} {e e2 : TypeId} {xs xs2 : List Value} (hu : w.ownsRow B e sz u n xs) {w2 : World} (hv : w2.ownsRow w.heap.size e2 sz2 v n2 xs2) : Apart u v := own_apart hu hv (Nat.le_refl _)

theorem run_append_moved {P : Program} (w : World) (base : Nat) (t ty e : TypeId) (i : TypeInfo) (z : Value) (size bytes : Nat) (ht : P.underlying t = some (.slice e)) (hi : P.info? e = some i) (hz : i.zero = some z)
    (hsize : i.size = size) (hby : i.bytes = bytes) (hzs : z.cells.size = size) (hsz : 0 < size)
    (v : Value) (n : Nat) (xs : List Value) (hown : w.ownsRow base e size v n xs)
    (a : Addr) (m c : Nat) (news : List Value) (hl : news.length = m * size) (hnews : ∀ j u, news[j]? = some u → w.cell? (a.add j) = some u) (h1 : ∀ u ∈ news, u.oneCell' = true)
    (h63 : n + m ≤ maxLen) (hbytes : (n + m) * bytes ≤ 140737488355328) (hbase : base ≤ w.heap.size) :
    ∃ v' w', (Builtin.append_ #[t, t] ty #[v, .slice (some a) m c]).run P w = .ok v' w' ∧ w'.ownsRow base e size v' (n + m) (xs ++ news) ∧ w.grownBy w' v.ownBlock ∧ Moved w v v' := by
  rcases hown.2 with ⟨rfl, rfl⟩ | ⟨g, cap, cur, rfl, hbg, hg, hnc, hcm, hcs, htake⟩
  · have hx : xs = [] := List.eq_nil_of_length_eq_zero (by simpa using hown.1)
    subst hx
    obtain ⟨v', w', hr, h2, h3, _⟩ := run_append_own (P := P) w w.heap.size t ty e i z size bytes ht hi hz hsize hby hzs hsz _ 0 [] (World.ownsRow_nil w _ e size) a m c news hl hnews h1 h63 hbytes (Nat.le_refl _)
    exact ⟨v', w', hr, own_mono h2 hbase, h3, .inr fun k hk => (h2.lt k hk).1⟩
  · by_cases hroom : n + m ≤ cap
    · obtain ⟨w', hr, h2, h3⟩ := run_append_fits (P := P) w base t ty e i size ht hi hsize g n cap xs hown a m c news hl hnews h1 hroom
      exact ⟨_, w', hr, h2, h3, .inl rfl⟩
    · have holds : ∀ j u, xs[j]? = some u → w.cell? ((⟨g, 0, none⟩ : Addr).add j) = some u := hown.cells (g := g) rfl
      obtain ⟨v', w', hr, h2, h3⟩ := run_append_arg_grows (P := P) w t ty e i z size bytes ht hi hz hsize hby hzs hsz ⟨g, 0, none⟩ n cap xs hown.1 holds a m c news hl hnews (by omega) h63 hbytes
      exact ⟨v', w', hr, own_mono h2 hbase, ⟨h3.os, h3.tape, h3.output, h3.size, fun k hk _ => h3.block k hk (by simp)⟩, .inr fun k hk => (h2.lt k hk).1⟩

/-- a part of a slice -/
def part (v : Value) (lo hi sz : Nat) : Value :=
  match v with
  | .slice a _ c => sliced a lo hi c sz
  | v => v

theorem Addr.add_add (b o i j : Nat) : ((⟨b, o, none⟩ : Addr).add i).add j = (⟨b, o, none⟩ : Addr).add (i + j) := by
  simp [Addr.add_lit, Nat.add_assoc]

theorem Row.part {w : World} {v : Value} {n sz : Nat} {cs : List Value} (h : Row w v n sz cs) (lo hi : Nat) (h1 : lo ≤ hi) (h2 : hi ≤ n) : Row w (part v lo hi sz) (hi - lo) sz ((cs.drop (lo * sz)).take ((hi - lo) * sz)) := by
  obtain ⟨a, c, rfl, hc, hm, ha⟩ := h.shape
  have hlen := h.len
  refine ⟨?_, ?_, ?_⟩
  · refine ⟨if c = lo then a else a.map (·.add (lo * sz)), c - lo, rfl, by omega, by omega, fun hpos => ?_⟩
    obtain ⟨b, o, rfl⟩ := ha (by omega)
    rw [if_neg (by omega)]
    exact ⟨b, o + lo * sz, by simp [Addr.add_lit]⟩
  · rw [List.length_take, List.length_drop, hlen]
    have e1 : (hi - lo) * sz = hi * sz - lo * sz := Nat.sub_mul ..
    have e2 : hi * sz ≤ n * sz := Nat.mul_le_mul_right _ h2
    omega
  · intro i u hu
    rw [List.getElem?_take] at hu
    split at hu
    case isFalse => cases hu
    case isTrue hi' =>
      rw [List.getElem?_drop] at hu
      have hpos : 0 < hi - lo := by
        cases hh : hi - lo with
        | zero => rw [hh] at hi'; simp at hi'
        | succ => omega
      obtain ⟨b, o, rfl⟩ := ha (by omega)
      have := h.cell _ _ hu
      simp only [Kf.part, sliced]
      rw [if_neg (by omega)]
      simp only [base, Option.map_some] at *
      rw [Addr.add_add]
      exact this

theorem own_take {w : World} {v : Value} {n sz B : Nat} {e : TypeId} {cs : List Value} (h : w.ownsRow B e sz v n cs) (hi : Nat) (h2 : hi ≤ n) : w.ownsRow B e sz (part v 0 hi sz) hi (cs.take (hi * sz)) := by
  have hl := h.1
  have e2 : hi * sz ≤ n * sz := Nat.mul_le_mul_right _ h2
  refine ⟨by rw [List.length_take, hl]; omega, ?_⟩
  rcases h.2 with ⟨rfl, rfl⟩ | ⟨g, cap, cur, rfl, h3, h4, h5, h6, h7, h8⟩
  · left; obtain rfl : hi = 0 := by omega
    exact ⟨rfl, rfl⟩
  · right
    refine ⟨g, cap, cur, ?_, h3, h4, by omega, h6, h7, ?_⟩
    · simp only [Kf.part, sliced, Nat.sub_zero, Nat.zero_mul]
      by_cases hc : cap = 0
      · rw [if_pos hc]
      · rw [if_neg hc]; simp [Addr.add_lit]
    · rw [← h8, List.take_take, Nat.min_eq_left e2]

namespace X
variable {P : Program} {f : Fr} {w w0 : World} {dst : Option Tmp} {ty t t' e : TypeId} {pos : String} {aft : Array Edge} {g : Option (Nat × Bool)} {x y z : Operand} {v u : Value} {n m sz k : Nat} {cs : List Value} {kd kd' : IntKind}

theorem len (h : Row w0 v n sz cs) (hx : ev f x = v) (ht : P.underlying t = some (.slice e)) : (execOp (ev f) ⟨dst, .call ⟨.builtin .len, #[x], #[t]⟩, ty, pos, aft, g⟩).run P w = .ok (.value (.int .i64 (n : Int))) w := by
  obtain ⟨a, c, rfl, _⟩ := h.shape
  simp [execOp, resolve, invoke, builtin, hx, Builtin.len_, run_underlying ht, goInt]

theorem idx (h : Row w0 v n sz cs) (hx : ev f x = v) (hy : ev f y = .int kd (k : Int)) (hk : k < n) (ht : P.underlying t = some (.slice e)) (hs : ∀ w, (sizeOf e).run P w = .ok sz w) :
    (execOp (ev f) ⟨dst, .indexAddr t x y, ty, pos, aft, g⟩).run P w = .ok (.value (.pointer (some ((base v).add (k * sz))))) w := by
  obtain ⟨a, c, rfl, _, _, ha⟩ := h.shape
  obtain ⟨b, o, rfl⟩ := ha (by omega)
  have he : P.elem t = e := by simp [Program.elem, ht]
  simp only [execOp, hx, hy]
  simp [run_indexAt_slice w t _ _ _ _ _ (by rw [he]; exact ht), he, hs, Result.andThen, base, hk]

theorem load {a : Addr} (hx : ev f x = .pointer (some a)) (hc : w.cell? a = some u) (ht : ∀ w, (isAgg t).run P w = .ok false w) :
    (execOp (ev f) ⟨dst, .load t x, ty, pos, aft, g⟩).run P w = .ok (.value u) w := by
  simp [execOp, hx, Instr.loadAt, Instr.sureAddr, loadVar, ht, hc]

theorem sl (h : Row w0 v n sz cs) (hx : ev f x = v) (hy : ev f y = .int kd (k : Int)) (hz : ev f z = .int kd' (m : Int)) (h1 : k ≤ m) (h2 : m ≤ n) (ht : P.underlying t = some (.slice e)) (hs : ∀ w, (sizeOf e).run P w = .ok sz w) :
    (execOp (ev f) ⟨dst, .slice t x (some y) (some z) none, ty, pos, aft, g⟩).run P w = .ok (.value (part v k m sz)) w := by
  obtain ⟨a, c, rfl, hc, _⟩ := h.shape
  have he : P.elem t = e := by simp [Program.elem, ht]
  have ht' : P.underlying t = some (.slice (P.elem t)) := by rw [he]; exact ht
  simp only [execOp, hx, hy, hz, Option.map_some, Option.map_none]
  simp [run_sliceAt_slice w t _ _ _ _ ht', run_slice_lh w t a n c ht' kd kd' k m (by omega) (by omega) (by omega), he, hs, Result.andThen, part]
theorem slH (h : Row w0 v n sz cs) (hx : ev f x = v) (hz : ev f z = .int kd' (m : Int)) (h2 : m ≤ n) (ht : P.underlying t = some (.slice e)) (hs : ∀ w, (sizeOf e).run P w = .ok sz w) :
    (execOp (ev f) ⟨dst, .slice t x none (some z) none, ty, pos, aft, g⟩).run P w = .ok (.value (part v 0 m sz)) w := by
  obtain ⟨a, c, rfl, hc, _⟩ := h.shape
  have he : P.elem t = e := by simp [Program.elem, ht]
  have ht' : P.underlying t = some (.slice (P.elem t)) := by rw [he]; exact ht
  simp only [execOp, hx, hz, Option.map_some, Option.map_none]
  simp [run_sliceAt_slice w t _ _ _ _ ht', run_slice_h w t a n c ht' kd' m (by omega) (by omega), he, hs, Result.andThen, part]
theorem slL (h : Row w0 v n sz cs) (hx : ev f x = v) (hy : ev f y = .int kd (k : Int)) (h1 : k ≤ n) (ht : P.underlying t = some (.slice e)) (hs : ∀ w, (sizeOf e).run P w = .ok sz w) :
    (execOp (ev f) ⟨dst, .slice t x (some y) none none, ty, pos, aft, g⟩).run P w = .ok (.value (part v k n sz)) w := by
  obtain ⟨a, c, rfl, hc, _⟩ := h.shape
  have he : P.elem t = e := by simp [Program.elem, ht]
  have ht' : P.underlying t = some (.slice (P.elem t)) := by rw [he]; exact ht
  simp only [execOp, hx, hy, Option.map_some, Option.map_none]
  simp [run_sliceAt_slice w t _ _ _ _ ht', run_slice_l w t a n c ht' kd k (by omega) (by omega), he, hs, Result.andThen, part]
end X

section mem
variable {P : Program} {N : Nat} {Q : Post} {f : Fr} {w : World} {k : Fr → World → Prop} {d : Nat} {ty t e : TypeId} {pos : String} {aft : Array Edge} {g : Option (Nat × Bool)} {x y : Operand} {u v : Value} {n m sz B : Nat} {xs news : List Value}

theorem cells_one {u : Value} (h : u.oneCell' = true) : u.cells = #[u] := by cases u <;> first | rfl | simp [Value.oneCell'] at h

theorem OW.store {a : Addr} {u0 : Value} (hx : ev f x = .pointer (some a)) (hy : ev f y = u) (h1 : u.oneCell' = true) (hc : w.cell? a = some u0) (hz : w.frozen? a = false) (ht : ∀ w, (sizeOf t).run P w = .ok 1 w)
    (h : k f (w.setCell a u)) : OW P N ⟨none, .store t x y, ty, pos, aft, g⟩ Q k f w := by
  refine OW.skip rfl ?_ h
  have ha0 : a.add 0 = a := Addr.add_zero' a
  simp [execOp, hx, hy, Instr.storeAt, Instr.sureAddr, storeVar, ht, cells_one h1, storeCells, ha0, run_store P w a u _ h1, hc, hz, Result.andThen]

theorem OW.storeOwn {j : Nat} (ho : w.ownsRow B e sz v n xs) (hj : j < n * sz) (hx : ev f x = .pointer (some ((base v).add j))) (hy : ev f y = u) (h1 : u.oneCell' = true) (ht : ∀ w, (sizeOf t).run P w = .ok 1 w)
    (h : ∀ w', w'.ownsRow B e sz v n (xs.set j u) → w.grownBy w' v.ownBlock → k f w') : OW P N ⟨none, .store t x y, ty, pos, aft, g⟩ Q k f w := by
  rcases ho.2 with ⟨rfl, rfl⟩ | ⟨b, cap, cur, rfl, _, _, _, _, _, _⟩
  · simp at hj
  · have hlen := ho.1
    have hc := ho.cellAt j hj
    have hz := ho.frozenAt j
    have hs := ho.stored j u
    simp only [base, Addr.add_lit, Nat.zero_add] at hx
    have hx' : xs[j]? = some xs[j] := List.getElem?_eq_getElem (by omega)
    exact OW.store hx hy h1 (hc.trans hx') hz ht (h _ hs.1 (by simpa [Value.ownBlock] using hs.2))

/-- 'append' onto a slice of the call's own, whatever its room. -/
theorem OW.append {i : TypeInfo} {z : Value} {bytes : Nat} (ho : w.ownsRow B e sz v n xs) (hr : Row w u m sz news) (h1 : ∀ u ∈ news, u.oneCell' = true) (hx : ev f x = v) (hy : ev f y = u)
    (ht : P.underlying t = some (.slice e)) (hi : P.info? e = some i) (hz : i.zero = some z) (hsize : i.size = sz) (hby : i.bytes = bytes) (hzs : z.cells.size = sz) (hsz : 0 < sz)
    (h63 : n + m ≤ maxLen) (hbytes : (n + m) * bytes ≤ 140737488355328) (hB : B ≤ w.heap.size)
    (h : ∀ v' w', w'.ownsRow B e sz v' (n + m) (xs ++ news) → w.grownBy w' v.ownBlock → Moved w v v' → k (put f d v') w') (hd : d < N) : OW P N ⟨some d, .call ⟨.builtin .append, #[x, y], #[t, t]⟩, ty, pos, aft, g⟩ Q k f w := by
  obtain ⟨a, c, rfl, hmc, _, ha⟩ := hr.shape
  have hl := hr.len
  have none_case : ∀ (s : Value), a = none → (Builtin.append_ #[t, t] ty #[v, .slice none m c]).run P w = .ok v w ∧ m = 0 := by
    intro _ ha0
    have hm0 : m = 0 := by
      cases m with
      | zero => rfl
      | succ m => obtain ⟨b, o, e'⟩ := ha (by omega); rw [ha0] at e'; cases e'
    refine ⟨?_, hm0⟩
    subst hm0
    rcases ho.2 with ⟨rfl, rfl⟩ | ⟨g, cap, cur, rfl, _, _, hnc, _⟩
    · simp [Builtin.append_, run_underlying ht, sizeOf, typeInfo, hi, Builtin.lenOf, Builtin.firstCells]
    · simp [Builtin.append_, run_underlying ht, sizeOf, typeInfo, hi, Builtin.lenOf, Builtin.firstCells, hnc, storeCells]
  cases a with
  | none =>
    obtain ⟨hrun, rfl⟩ := none_case v rfl
    have hn : news = [] := List.eq_nil_of_length_eq_zero (by rw [hl]; simp)
    subst hn
    refine OW.val rfl hd (v := v) (w' := w) ?_ (h v w (by simpa using ho) (World.grownBy.refl w _) (.inl rfl))
    simp [execOp, resolve, invoke, builtin, hx, hy, hrun]
  | some a =>
    obtain ⟨v', w', hrun, h2, h3, h4⟩ := run_append_moved (P := P) w B t ty e i z sz bytes ht hi hz hsize hby hzs hsz v n xs ho a m c news hl hr.cell h1 h63 hbytes hB
    refine OW.val rfl hd (v := v') (w' := w') ?_ (h v' w' h2 h3 h4)
    simp [execOp, resolve, invoke, builtin, hx, hy, hrun]

/-- 'make([]T, n)' -/
theorem OW.make {i : TypeInfo} {z : Value} {kl kc : IntKind} (hx : ev f x = .int kl (n : Int)) (hy : ev f y = .int kc (n : Int)) (ht : P.underlying t = some (.slice e)) (hi : P.info? e = some i) (hz : i.zero = some z) (hsize : i.size = sz)
    (hbytes : i.bytes * n ≤ 281474976710656) (h63 : n ≤ maxLen)
    (h : ∀ v w', w'.ownsRow w.heap.size e sz v n (madeCells z.cells (n * sz)).toList → Ext w w' → k (put f d v) w') (hd : d < N) : OW P N ⟨some d, .makeSlice t x y, ty, pos, aft, g⟩ Q k f w := by
  obtain ⟨w', hrun, h2, h3⟩ := run_make_full (P := P) w w.heap.size t e i z sz ht hi hz hsize kl kc n hbytes h63 (Nat.le_refl _)
  exact OW.val rfl hd (by simp [execOp, hx, hy, hrun]) (h _ w' h2 h3)
/-- 'make([]T, 0, c)' -/
theorem OW.make0 {i : TypeInfo} {z : Value} {kl kc : IntKind} (hx : ev f x = .int kl 0) (hy : ev f y = .int kc (n : Int)) (ht : P.underlying t = some (.slice e)) (hi : P.info? e = some i) (hz : i.zero = some z) (hsize : i.size = sz)
    (hbytes : i.bytes * n ≤ 281474976710656) (h63 : n ≤ maxLen)
    (h : ∀ v w', w'.ownsRow w.heap.size e sz v 0 [] → Ext w w' → k (put f d v) w') (hd : d < N) : OW P N ⟨some d, .makeSlice t x y, ty, pos, aft, g⟩ Q k f w := by
  obtain ⟨w', hrun, h2, h3⟩ := run_make_own (P := P) w w.heap.size t e i z sz ht hi hz hsize kl kc n hbytes h63 (Nat.le_refl _)
  exact OW.val rfl hd (by simp [execOp, hx, hy, hrun]) (h _ w' h2 h3)

/-- the parts of a literal -/
def evp (f : Fr) : List (Nat × Operand) → List (Nat × Value)
  | [] => []
  | (i, x) :: l => (i, ev f x) :: evp f l
theorem evp_eq (f : Fr) : ∀ l, evp f l = l.map fun q => (q.1, ev f q.2)
  | [] => rfl
  | (i, x) :: l => by simp [evp, evp_eq f l]
theorem evp_nil {f : Fr} : evp f [] = [] := rfl
theorem evp_cons {f : Fr} {x : Operand} {v : Value} {i : Nat} {l : List (Nat × Operand)} {r : List (Nat × Value)} (h : ev f x = v) (k : evp f l = r) : evp f ((i, x) :: l) = (i, v) :: r := by rw [← h, ← k]; rfl

/-- numbered from k on -/
def enumF : Nat → List Value → List (Nat × Value)
  | _, [] => []
  | k, v :: l => (k, v) :: enumF (k + 1) l

theorem set_range : ∀ (l : List Value) (off j : Nat) (cs : Array Value), off + j + l.length ≤ cs.size →
    ((l.zipIdx j).foldl (fun cs (q : Value × Nat) => cs.setIfInBounds (off + q.2) q.1) cs).toList = cs.toList.take (off + j) ++ l ++ cs.toList.drop (off + j + l.length)
  | [], off, j, cs, _ => by simp
  | v :: l, off, j, cs, h => by
    simp only [List.length_cons] at h
    rw [List.zipIdx_cons, List.foldl_cons, set_range l off (j + 1) _ (by simp; omega)]
    simp only [Array.toList_setIfInBounds, List.length_cons]
    have e1 : (cs.toList.set (off + j) v).take (off + (j + 1)) = cs.toList.take (off + j) ++ [v] := by
      rw [← Nat.add_assoc, List.take_succ_eq_append_getElem (by simp; omega), List.take_set_of_le (Nat.le_refl _)]
      simp
    rw [e1, List.drop_set_of_lt (by omega)]
    simp only [List.append_assoc, List.singleton_append]
    have e2 : off + (j + 1) + l.length = off + j + (l.length + 1) := by omega
    rw [e2]

theorem fill_all (sz : Nat) : ∀ (vs : List Value) (k : Nat) (cs : Array Value), (∀ v ∈ vs, v.cells.size = sz) → cs.size = (k + vs.length) * sz →
    Instr.fill (fun i => some (i * sz, sz)) cs (enumF k vs) = some (cs.toList.take (k * sz) ++ vs.flatMap fun v => v.cells.toList).toArray
  | [], k, cs, _, h => by
    simp only [enumF, Instr.fill, List.flatMap_nil, List.append_nil, Option.some.injEq]
    rw [List.take_of_length_le (by simp at h; simp [h])]
  | v :: vs, k, cs, hv, h => by
    have h1 : v.cells.size = sz := hv v (by simp)
    have h2 : (k + (v :: vs).length) * sz = k * sz + sz + vs.length * sz := by simp only [List.length_cons, Nat.add_mul, Nat.one_mul]; omega
    rw [h2] at h
    have hc : ¬ (v.cells.size ≠ sz ∨ k * sz + v.cells.size > cs.size) := by omega
    simp only [enumF, Instr.fill]
    rw [if_neg (by simpa using hc)]
    have hf : (v.cells.zipIdx.foldl (fun cs (x : Value × Nat) => match x with | (c, j) => cs.setIfInBounds (k * sz + j) c) cs) = (cs.toList.take (k * sz) ++ v.cells.toList ++ cs.toList.drop (k * sz + sz)).toArray := by
      apply Array.ext'
      have := set_range v.cells.toList (k * sz) 0 cs (by simp; omega)
      simp only [Nat.add_zero, Array.length_toList, h1] at this
      rw [List.toList_toArray, ← this, ← Array.foldl_toList]
      simp
    rw [hf, fill_all sz vs (k + 1) _ (fun u hu => hv u (by simp [hu])) (by simp [h1, h]; rw [show (k + 1 + vs.length) * sz = k * sz + sz + vs.length * sz from by simp only [Nat.add_mul, Nat.one_mul]]; omega)]
    congr 2
    have hl : (cs.toList.take (k * sz)).length = k * sz := by simp; omega
    rw [List.toList_toArray, show (k + 1) * sz = k * sz + sz from by simp only [Nat.add_mul, Nat.one_mul], List.take_append_of_le_length (by simp [h1]; omega), List.take_of_length_le (by simp [h1]; omega)]
    simp only [List.flatMap_cons, List.append_assoc]

/-- each has so many cells -/
def AllSz (sz : Nat) : List Value → Prop
  | [] => True
  | v :: l => v.cells.size = sz ∧ AllSz sz l
theorem AllSz.all {sz : Nat} : ∀ {l : List Value}, AllSz sz l → ∀ v ∈ l, v.cells.size = sz
  | [], _, v, hv => by cases hv
  | u :: l, h, v, hv => by
    rcases List.mem_cons.1 hv with rfl | hv
    · exact h.1
    · exact h.2.all v hv

/-- '[]T{..}' -/
theorem OW.lits {parts : List (Nat × Operand)} {vs : List Value} {zc : Value} (hp : evp f parts = enumF 0 vs) (ht : P.underlying t = some (.slice e)) (hs : ∀ w, (sizeOf e).run P w = .ok sz w) (hzv : ∀ w, (zeroValue e).run P w = .ok zc w)
    (hv' : AllSz sz vs) (hl : vs.length = n) (hn : Nat.ble (n * sz) 16777216 = true) (h0 : (n * sz == 0) = false)
    (h : ∀ v w', w'.ownsRow w.heap.size e sz v n (vs.flatMap fun v => v.cells.toList) → Ext w w' → k (put f d v) w') (hd : d < N) : OW P N ⟨some d, .buildSlice t n parts.toArray, ty, pos, aft, g⟩ Q k f w := by
  have hv := hv'.all
  have hp' : parts.toArray.map (fun q => (q.1, ev f q.2)) = (enumF 0 vs).toArray := by rw [← hp, evp_eq]; simp
  have hn1 : n * sz ≤ 16777216 := Nat.le_of_ble_eq_true hn
  have h01 : n * sz ≠ 0 := by simpa using h0
  have hfill := fill_all sz vs 0 ((Array.range (n * sz)).map (zc.cells[· % zc.cells.size]!)) hv (by simp [hl])
  simp only [Nat.zero_mul, List.take_zero, List.nil_append] at hfill
  have hc : ((vs.flatMap fun v => v.cells.toList).toArray).size = n * sz := by
    subst hl
    clear hp hp' hfill hn hn1 h0 h01 h hv'
    induction vs with
    | nil => simp
    | cons v vs ih =>
      have := ih (fun u hu => hv u (by simp [hu]))
      have h1 := hv v (by simp)
      simp only [List.size_toArray] at this ⊢
      simp only [List.flatMap_cons, List.length_append, Array.length_toList, h1, this, List.length_cons, Nat.add_mul, Nat.one_mul]
      omega
  have hm : n ≤ maxLen := by
    have : n ≤ n * sz := Nat.le_mul_of_pos_right n (by cases sz with | zero => simp at h01 | succ => omega)
    unfold maxLen; omega
  refine OW.val rfl hd (v := .slice (some ⟨w.heap.size, 0, none⟩) n n) (w' := w.alloc (.cells (vs.flatMap fun v => v.cells.toList).toArray e)) ?_ (h _ _ (by have := World.ownsRow_lit w (vs.flatMap fun v => v.cells.toList).toArray n (Nat.le_refl w.heap.size) hm hc (e := e); simpa using this) (Ext.alloc _ _))
  have hn' : ¬ (16777216 < n * sz) := by omega
  simp only [execOp, hp', Instr.buildSlice, List.toList_toArray]
  simp [run_underlying ht, hs, hzv, hn', h01, hfill, newRow, Result.andThen]
end mem

/-! ### A region whose order is open -/
section drawn
open Region
variable {P : Program} {ops : Array Oper} {N : Nat}

/-- In whatever order from here on: the first n operations, E behind each; then L. -/
def FQ : Exit → Act → World → Prop := fun _ _ _ => False

theorem wpOp_of_FQ {Q : Exit → Act → World → Prop} {i : Nat} {K : Act → World → Prop} {a : Act} {w : World} (h : wpOp P ops FQ i K a w) : wpOp P ops Q i K a w := by
  unfold wpOp at *
  split
  · simpa [*] using h
  · rename_i o ho
    simp only [ho] at h
    split
    · rename_i hw
      simp only [hw, if_true] at h
      rcases h with h | ⟨_, _, _, h⟩
      · refine .inl ?_
        unfold Oper.wp at *
        generalize (execOp a.eval o).run P w = r at *
        cases r with
        | ok n w' =>
          cases n <;> simp only [Oper.upon] at h ⊢ <;> first
            | exact h
            | exact Calls.mono h (fun e w'' he => by
                cases e with
                | returned v => exact he
                | panicked c => exact he.elim
                | outgrown => obtain ⟨_, _, h⟩ := he; exact h.elim)
        | halt x w' => cases x <;> simp only [Oper.upon] at h ⊢ <;> exact h.elim
      · exact h.elim
    · rename_i hw; simp only [hw] at h; exact h

def anyT (P : Program) (ops : Array Oper) (E : World → Prop) (n : Nat) (L : Array Bool → Act → World → Prop) : Nat → Array Bool → Act → World → Prop
  | 0, listed, a, w => L listed a w
  | k + 1, listed, a, w => ready .any ops listed ≠ [] ∧ ∀ i ∈ ready .any ops listed, i < n ∧ wpOp P ops FQ i (fun a' w' => E w' ∧ anyT P ops E n L k (listed.setIfInBounds i true) a' w') a w

theorem anyT_any {Q : Exit → Act → World → Prop} {E : World → Prop} {n g : Nat} {L : Array Bool → Act → World → Prop} (hL : ∀ listed a w, L listed a w → wpAny P .any ops Q g listed a w) :
    ∀ (k : Nat) (listed : Array Bool) (a : Act) (w : World), anyT P ops E n L k listed a w → wpAny P .any ops Q (k + g) listed a w
  | 0, listed, a, w, h => by rw [Nat.zero_add]; exact hL _ _ _ h
  | k + 1, listed, a, w, h => by
    rw [show k + 1 + g = (k + g) + 1 by omega]
    exact ⟨fun h0 => absurd h0 h.1, fun i hi => wpOp_of_FQ (wpOp_mono (fun a' w' h' => anyT_any hL k _ a' w' h'.2) (h.2 i hi).2)⟩

/-- while one of the first n is left, none behind them may come up -/
def Holds (ops : Array Oper) (n : Nat) : Prop := ∀ listed, HeadInv .any ops n listed → ∀ i, i < n → listed.getD i true = false → ∀ t, n ≤ t → t ∉ ready .any ops listed

theorem holds_tail {n : Nat} (hs : sinkB .any ops n = true) (hc : chainB .any ops n = true) (hn : n < ops.size) : Holds ops n :=
  fun _ inv i hi hun t ht => tail_waits hs hc hn inv _ i rfl hi hun t ht
theorem holds_all : Holds ops ops.size := fun _ _ _ _ _ t ht hr => by
  have := (mem_ready.1 hr).2
  obtain ⟨o, ho, _⟩ := this
  have := (Array.getElem?_eq_some_iff.1 ho).1
  omega

theorem anyT_first {E : World → Prop} {n i : Nat} {oi : Oper} {v : Value} {L : Array Bool → Act → World → Prop} (hi : ops[i]? = some oi) (hsel : ∀ (j : Nat) (o : Oper) cs b, ops[j]? = some o → o.op ≠ .select cs b)
    (hh : Holds ops n) (hin : i < n) (hdone : ∀ listed a w, L listed a w → ∀ j ∈ ready .any ops listed, n ≤ j) :
    ∀ (k : Nat) (listed : Array Bool) (a : Act) (w : World), HeadInv .any ops n listed →
      (∀ j oj, ops[j]? = some oj → j ≠ i → listed.getD j true = false → (∀ e ∈ oj.after, binds .any e = true → e.on ≠ i) → oi.apart ops oj = true) →
      i ∈ ready .any ops listed → YieldsIf P ops E oi v a → E w →
      anyT P ops E n L k (listed.setIfInBounds i true) (a.put oi.dst v) w → anyT P ops E n L (k + 1) listed a w := by
  intro k
  induction k with
  | zero =>
    intro listed a w inv _ hr hy hE H
    have hun := (mem_ready.1 hr).1
    refine ⟨fun h => (by rw [h] at hr; cases hr), fun j hj => ?_⟩
    have hjn : j < n := by
      rcases Nat.lt_or_ge j n with h | h
      · exact h
      · exact absurd hj (hh listed inv i hin hun j h)
    refine ⟨hjn, ?_⟩
    by_cases hji : j = i
    · subst hji; exact hy.wpOp hi hE ⟨hE, H⟩
    · have := hdone _ _ _ H j (ready_mono hj hji)
      omega
  | succ k ih =>
    intro listed a w inv hfree hr hy hE H
    have hun := (mem_ready.1 hr).1
    refine ⟨fun h => (by rw [h] at hr; cases hr), fun j hj => ?_⟩
    have hjn : j < n := by
      rcases Nat.lt_or_ge j n with h | h
      · exact h
      · exact absurd hj (hh listed inv i hin hun j h)
    refine ⟨hjn, ?_⟩
    by_cases hji : j = i
    · subst hji; exact hy.wpOp hi hE ⟨hE, H⟩
    · have h1 := (H.2 j (ready_mono hj hji)).2
      obtain ⟨hjun, oj, hoj, hall⟩ := mem_ready.1 hj
      have hnot : ∀ e ∈ oj.after, binds .any e = true → e.on ≠ i := fun e he hb heq => by
        have h1 := hall e he hb
        rw [heq, getD_both hun] at h1
        cases h1
      have h2 := wpOp_putIf hoj (hfree j oj hoj hji hjun hnot) (fun cs b => hsel i oi cs b hi) (fun cs b => hsel j oj cs b hoj) (fun c a w h => h) hy h1
      have hfree' : ∀ k ok, ops[k]? = some ok → k ≠ i → (listed.setIfInBounds j true).getD k true = false →
          (∀ e ∈ ok.after, binds .any e = true → e.on ≠ i) → oi.apart ops ok = true := fun k ok hk hki hun hno => by
        refine hfree k ok hk hki ?_ hno
        by_cases hjk : j = k
        · subst hjk; exact hjun
        · rw [getD_set_ne true hjk] at hun; exact hun
      refine wpOp_mono (fun a' w' h3 => ⟨h3.2.1, ih (listed.setIfInBounds j true) a' w' (inv.set hj hjn) hfree' (ready_mono hr (Ne.symm hji)) h3.1 h3.2.1 ?_⟩) h2
      rw [Array.setIfInBounds_comm _ _ hji]
      exact h3.2.2

/-- The order in which a walk goes: 'q i': number i yields whatever comes ahead of it; 'l i': only i may come up; 'b', 'b3': one of these. -/
inductive Plan where
  | nil
  | q (i : Nat) (p : Plan)
  | l (i : Nat) (p : Plan)
  | b (i j : Nat) (p1 p2 : Plan)
  | b3 (i j k : Nat) (p1 p2 p3 : Plan)
  | b4 (i j k m : Nat) (p1 p2 p3 p4 : Plan)
def Plan.len : Plan → Nat
  | .nil => 0
  | .q _ p | .l _ p | .b _ _ p _ | .b3 _ _ _ p _ _ | .b4 _ _ _ _ p _ _ _ => p.len + 1

def planB (ops : Array Oper) (n : Nat) : Plan → Array Bool → Bool
  | .nil, listed => seqB .any ops (ops.size - n) n listed
  | .q i p, listed => decide (i < n) && ((ready .any ops listed).contains i && free .any ops listed i) && planB ops n p (listed.setIfInBounds i true)
  | .l i p, listed => decide (i < n) && decide (ready .any ops listed = [i]) && planB ops n p (listed.setIfInBounds i true)
  | .b i j p1 p2, listed => decide (i < n) && decide (j < n) && decide (ready .any ops listed = [i, j]) && decide (p2.len = p1.len) && planB ops n p1 (listed.setIfInBounds i true) && planB ops n p2 (listed.setIfInBounds j true)
  | .b3 i j k p1 p2 p3, listed => decide (i < n) && decide (j < n) && decide (k < n) && decide (ready .any ops listed = [i, j, k]) && decide (p2.len = p1.len) && decide (p3.len = p1.len) && planB ops n p1 (listed.setIfInBounds i true) && planB ops n p2 (listed.setIfInBounds j true) && planB ops n p3 (listed.setIfInBounds k true)
  | .b4 i j k m p1 p2 p3 p4, listed => decide (i < n) && decide (j < n) && decide (k < n) && decide (m < n) && decide (ready .any ops listed = [i, j, k, m]) && decide (p2.len = p1.len) && decide (p3.len = p1.len) && decide (p4.len = p1.len) && planB ops n p1 (listed.setIfInBounds i true) && planB ops n p2 (listed.setIfInBounds j true) && planB ops n p3 (listed.setIfInBounds k true) && planB ops n p4 (listed.setIfInBounds m true)

def wantF (ops : Array Oper) (f : Fr) (o : Oper) : Bool :=
  match o.guard with
  | none => true
  | some (j, b) => yd ops f j == some b

/-- an operation that is carried out: E behind it -/
def LO (P : Program) (N : Nat) (ops : Array Oper) (E : World → Prop) (i : Nat) (K : Fr → World → Prop) (f : Fr) (w : World) : Prop :=
  ∃ o, ops[i]? = some o ∧
      (((o.guard = none ∨ ∃ j b, o.guard = some (j, b) ∧ yd ops f j = some b) ∧ OW P N o (fun _ _ _ => False) (fun f' w' => E w' ∧ K f' w') f w) ∨
       (E w ∧ (∃ j b d, o.guard = some (j, b) ∧ nyd ops f j b ∧ o.dst = some d ∧ d < N ∧ K (put f d undef) w)) ∨
       (E w ∧ (∃ j b, o.guard = some (j, b) ∧ nyd ops f j b ∧ o.dst = none ∧ K f w)))

/-- What is to be shown of each operation of the plan. -/
def WO (P : Program) (N : Nat) (ops : Array Oper) (E : World → Prop) (T : Fr → World → Prop) : Plan → Fr → World → Prop
  | .nil, f, w => T f w
  | .q i r, f, w => ∃ o d v, ops[i]? = some o ∧ o.dst = some d ∧ d < N ∧
      (((o.guard = none ∨ ∃ j b, o.guard = some (j, b) ∧ yd ops f j = some b) ∧ ∀ w', E w' → (execOp (ev f) o).run P w' = .ok (.value v) w') ∨ ((∃ j b, o.guard = some (j, b) ∧ nyd ops f j b) ∧ v = undef)) ∧
      WO P N ops E T r (put f d v) w
  | .l i r, f, w => LO P N ops E i (WO P N ops E T r) f w
  | .b i j r s, f, w => LO P N ops E i (WO P N ops E T r) f w ∧ LO P N ops E j (WO P N ops E T s) f w
  | .b3 i j k r s u, f, w => LO P N ops E i (WO P N ops E T r) f w ∧ LO P N ops E j (WO P N ops E T s) f w ∧ LO P N ops E k (WO P N ops E T u) f w
  | .b4 i j k m r s u t, f, w => LO P N ops E i (WO P N ops E T r) f w ∧ LO P N ops E j (WO P N ops E T s) f w ∧ LO P N ops E k (WO P N ops E T u) f w ∧ LO P N ops E m (WO P N ops E T t) f w

theorem wanted_of {o : Oper} {a : Act} (h : o.guard = none ∨ ∃ j b, o.guard = some (j, b) ∧ yd ops (fr a) j = some b) : wanted o (yielded ops a.tmps) = true := by
  rcases h with h | ⟨j, b, hg, hy⟩
  · simp [wanted, h]
  · simp [wanted, hg, yielded_eq hy]
theorem not_wanted_of {o : Oper} {a : Act} (h : ∃ j b, o.guard = some (j, b) ∧ nyd ops (fr a) j b) : wanted o (yielded ops a.tmps) = false := by
  obtain ⟨j, b, hg, hy⟩ := h
  have hn := not_yielded hy
  simp only [wanted, hg]
  exact hn

theorem LO.op {E : World → Prop} {n i fuel : Nat} {K : Fr → World → Prop} {L : Array Bool → Act → World → Prop} {listed : Array Bool} {a : Act} {w : World} (h : LO P N ops E i K (fr a) w) (hs : Std N a)
    (hk : ∀ a' w', Std N a' → K (fr a') w' → E w' → anyT P ops E n L fuel (listed.setIfInBounds i true) a' w') :
    wpOp P ops FQ i (fun a' w' => E w' ∧ anyT P ops E n L fuel (listed.setIfInBounds i true) a' w') a w := by
  obtain ⟨o, ho, hy⟩ := h
  unfold wpOp
  simp only [ho]
  rcases hy with ⟨hw, hv⟩ | ⟨hE', hw⟩ | ⟨hE', hw⟩
  · rw [if_pos (wanted_of hw)]
    have h1 := hv a hs rfl
    have h2 : o.wp P a w (fun a' w' => Std N a' ∧ E w' ∧ K (fr a') w') FQ := by
      have hl : lift N (fun _ _ _ => False) = FQ := by funext e a w; simp [lift, FQ]
      rw [hl] at h1
      exact h1
    refine .inl (Oper.wp_mono ?_ h2)
    rintro a' w' ⟨s, e, q⟩
    exact ⟨e, hk a' w' s q e⟩
  · obtain ⟨j', b, d, hg, hyd, hd, hdN, hrest⟩ := hw
    rw [if_neg (by rw [not_wanted_of ⟨j', b, hg, hyd⟩]; simp)]
    refine ⟨hE', hk _ _ (hs.put _ _) ?_ hE'⟩
    rw [hd, fr_put hs hdN]
    exact hrest
  · obtain ⟨j', b, hg, hyd, hd, hrest⟩ := hw
    rw [if_neg (by rw [not_wanted_of ⟨j', b, hg, hyd⟩]; simp)]
    refine ⟨hE', hk _ _ (hs.put _ _) ?_ hE'⟩
    rw [hd]
    exact hrest

theorem anyT_plan {E : World → Prop} {T : Fr → World → Prop} {n : Nat} (hsel : noSelect ops = true) (hh : Holds ops n) :
    ∀ (plan : Plan) (listed : Array Bool) (f : Fr) (w : World) (a : Act), planB ops n plan listed = true → HeadInv .any ops n listed → WO P N ops E T plan f w → Std N a → fr a = f → E w →
      anyT P ops E n (fun listed a w => seqB .any ops (ops.size - n) n listed = true ∧ Std N a ∧ T (fr a) w) plan.len listed a w
  | .nil, listed, f, w, a, hB, _, h, hs, hf, _ => by subst hf; exact ⟨hB, hs, h⟩
  | .q i r, listed, f, w, a, hB, inv, h, hs, hf, hE => by
    subst hf
    simp only [planB, Bool.and_eq_true, decide_eq_true_eq] at hB
    obtain ⟨⟨hin, hr, hfr⟩, hB'⟩ := hB
    obtain ⟨o, d, v, ho, hd, hdN, hy, hrest⟩ := h
    have hr' : i ∈ ready .any ops listed := by simpa using hr
    have hy' : YieldsIf P ops E o v a := by
      rcases hy with ⟨hw, hv⟩ | ⟨hw, hv⟩
      · exact .inl ⟨wanted_of hw, fun w' hE' => by rw [eval_eq]; exact hv w' hE'⟩
      · exact .inr ⟨not_wanted_of hw, hv⟩
    refine anyT_first ho (noSelect_spec hsel) hh hin (fun listed a w hL => seqB_ready hL.1) r.len listed a w inv (free_spec ho hfr) hr' hy' hE ?_
    refine anyT_plan hsel hh r _ _ w _ hB' (inv.set hr' hin) hrest (hs.put _ _) ?_ hE
    rw [hd]
    exact fr_put hs hdN v
  | .l i r, listed, f, w, a, hB, inv, h, hs, hf, hE => by
    subst hf
    simp only [planB, Bool.and_eq_true, decide_eq_true_eq] at hB
    obtain ⟨⟨hin, hr⟩, hB'⟩ := hB
    refine ⟨by rw [hr]; simp, fun j hj => ?_⟩
    have hr' := hj
    rw [hr] at hj
    obtain rfl : j = i := by simpa using hj
    exact ⟨hin, LO.op h hs fun a' w' s q e => anyT_plan hsel hh r _ _ w' a' hB' (inv.set hr' hin) q s rfl e⟩
  | .b i j r s, listed, f, w, a, hB, inv, h, hs, hf, hE => by
    subst hf
    simp only [planB, Bool.and_eq_true, decide_eq_true_eq] at hB
    obtain ⟨⟨⟨⟨⟨hin, hjn⟩, hr⟩, hl⟩, hB1⟩, hB2⟩ := hB
    refine ⟨by rw [hr]; simp, fun m hm => ?_⟩
    have hr' := hm
    rw [hr] at hm
    have : m = i ∨ m = j := by simpa using hm
    rcases this with rfl | rfl
    · exact ⟨hin, LO.op h.1 hs fun a' w' s' q e => anyT_plan hsel hh r _ _ w' a' hB1 (inv.set hr' hin) q s' rfl e⟩
    · refine ⟨hjn, LO.op h.2 hs fun a' w' s' q e => ?_⟩
      have := anyT_plan hsel hh s _ _ w' a' hB2 (inv.set hr' hjn) q s' rfl e
      rw [hl] at this
      exact this
  | .b3 i j k r s u, listed, f, w, a, hB, inv, h, hs, hf, hE => by
    subst hf
    simp only [planB, Bool.and_eq_true, decide_eq_true_eq] at hB
    obtain ⟨⟨⟨⟨⟨⟨⟨⟨hin, hjn⟩, hkn⟩, hr⟩, hl⟩, hl3⟩, hB1⟩, hB2⟩, hB3⟩ := hB
    refine ⟨by rw [hr]; simp, fun m hm => ?_⟩
    have hr' := hm
    rw [hr] at hm
    have : m = i ∨ m = j ∨ m = k := by simpa using hm
    rcases this with rfl | rfl | rfl
    · exact ⟨hin, LO.op h.1 hs fun a' w' s' q e => anyT_plan hsel hh r _ _ w' a' hB1 (inv.set hr' hin) q s' rfl e⟩
    · refine ⟨hjn, LO.op h.2.1 hs fun a' w' s' q e => ?_⟩
      have := anyT_plan hsel hh s _ _ w' a' hB2 (inv.set hr' hjn) q s' rfl e
      rw [hl] at this
      exact this
    · refine ⟨hkn, LO.op h.2.2 hs fun a' w' s' q e => ?_⟩
      have := anyT_plan hsel hh u _ _ w' a' hB3 (inv.set hr' hkn) q s' rfl e
      rw [hl3] at this
      exact this
  | .b4 i j k l r s u t, listed, f, w, a, hB, inv, h, hs, hf, hE => by
    subst hf
    simp only [planB, Bool.and_eq_true, decide_eq_true_eq] at hB
    obtain ⟨⟨⟨⟨⟨⟨⟨⟨⟨⟨⟨hin, hjn⟩, hkn⟩, hln⟩, hr⟩, hl⟩, hl3⟩, hl4⟩, hB1⟩, hB2⟩, hB3⟩, hB4⟩ := hB
    refine ⟨by rw [hr]; simp, fun m hm => ?_⟩
    have hr' := hm
    rw [hr] at hm
    have : m = i ∨ m = j ∨ m = k ∨ m = l := by simpa using hm
    rcases this with rfl | rfl | rfl | rfl
    · exact ⟨hin, LO.op h.1 hs fun a' w' s' q e => anyT_plan hsel hh r _ _ w' a' hB1 (inv.set hr' hin) q s' rfl e⟩
    · refine ⟨hjn, LO.op h.2.1 hs fun a' w' s' q e => ?_⟩
      have := anyT_plan hsel hh s _ _ w' a' hB2 (inv.set hr' hjn) q s' rfl e
      rw [hl] at this
      exact this
    · refine ⟨hkn, LO.op h.2.2.1 hs fun a' w' s' q e => ?_⟩
      have := anyT_plan hsel hh u _ _ w' a' hB3 (inv.set hr' hkn) q s' rfl e
      rw [hl3] at this
      exact this
    · refine ⟨hln, LO.op h.2.2.2 hs fun a' w' s' q e => ?_⟩
      have := anyT_plan hsel hh t _ _ w' a' hB4 (inv.set hr' hln) q s' rfl e
      rw [hl4] at this
      exact this

theorem inv0 (n : Nat) : HeadInv .any ops n (Array.replicate ops.size false) :=
  ⟨by simp, fun j oj _ hl => (by rw [getD_replicate_false] at hl; cases hl), fun t _ ht => getD_in (by simpa using ht) (getD_replicate_false _ _)⟩

/-- all in one walk; behind the first n operations the others stand in their order -/
theorem WF.drawn {id : Nat} {l : List Oper} {Q : Post} {f : Fr} {w : World} (plan : Plan) (E : World → Prop) (n : Nat) (hm : P.follows .mixedOrders = true)
    (hB : (noSelect l.toArray && ((sinkB .any l.toArray n && chainB .any l.toArray n && decide (n < l.length)) || decide (n = l.length)) && decide (plan.len = n) && planB l.toArray n plan (Array.replicate l.length false)) = true) (hE : E w.drew)
    (h : WO P N l.toArray E (WL P N l.toArray Q (l.drop n)) plan f w.drew) : WF P N (.region id l.toArray true) Q f w := by
  intro a hs hf
  simp only [Bool.and_eq_true, Bool.or_eq_true, decide_eq_true_eq] at hB
  obtain ⟨⟨⟨hsel, ht⟩, hlen⟩, hp⟩ := hB
  have hh : Holds l.toArray n := by
    rcases ht with ⟨⟨hsk, hch⟩, hn⟩ | hn
    · exact holds_tail hsk hch (by simpa using hn)
    · have := holds_all (ops := l.toArray); simp only [List.size_toArray] at this; rw [hn]; exact this
  have hnl : n ≤ l.length := by rcases ht with ⟨_, hn⟩ | hn <;> omega
  have H := anyT_plan hsel hh plan (Array.replicate l.toArray.size false) f w.drew a (by simpa using hp) (inv0 n) h hs hf hE
  have hdl : (l.drop n).length = l.toArray.size - n := by simp
  refine wp_region_any hm ?_
  have H2 := anyT_any (Q := lift N Q) (g := l.toArray.size - n) (fun listed a' w' hL => by
    have := wpAny_of_seq (P := P) (md := .any) (Q' := lift N Q) (l.drop n) n listed a' w' (fun j => by simp [List.getElem?_drop]) (by rw [hdl]; exact hL.1) (hL.2.2 a' hL.2.1 rfl)
    rwa [hdl] at this) _ _ _ _ H
  rw [hlen, show n + (l.toArray.size - n) = l.toArray.size by simp; omega] at H2
  exact H2
end drawn

section plan
variable {P : Program} {ops : Array Oper} {N : Nat} {E : World → Prop} {T : Fr → World → Prop} {r r2 r3 : Plan} {f : Fr} {w : World} {o : Oper} {i d j : Nat} {v : Value} {b : Bool}
theorem WO.split {t : Bool} {pl : Plan} (hy : yd ops f j = some t) (h1 : t = true → WO P N ops E T pl f w) (h2 : t = false → WO P N ops E T pl f w) : WO P N ops E T pl f w := by
  cases t
  · exact h2 rfl
  · exact h1 rfl
theorem WO.nil (h : T f w) : WO P N ops E T .nil f w := h
theorem WO.q (ho : ops[i]? = some o) (hg : o.guard = none) (hd : o.dst = some d) (hdN : Nat.blt d N = true) (hr : ∀ w', E w' → (execOp (ev f) o).run P w' = .ok (.value v) w') (h : WO P N ops E T r (put f d v) w) : WO P N ops E T (.q i r) f w :=
  ⟨o, d, v, ho, hd, lt_of_blt hdN, .inl ⟨.inl hg, hr⟩, h⟩
theorem WO.qg (ho : ops[i]? = some o) (hg : o.guard = some (j, b)) (hy : yd ops f j = some b) (hd : o.dst = some d) (hdN : Nat.blt d N = true) (hr : ∀ w', E w' → (execOp (ev f) o).run P w' = .ok (.value v) w') (h : WO P N ops E T r (put f d v) w) : WO P N ops E T (.q i r) f w :=
  ⟨o, d, v, ho, hd, lt_of_blt hdN, .inl ⟨.inr ⟨j, b, hg, hy⟩, hr⟩, h⟩
theorem WO.qp (ho : ops[i]? = some o) (hg : o.guard = some (j, b)) (hd : o.dst = some d) (hdN : Nat.blt d N = true) (hy : yd ops f j = some (!b)) (h : WO P N ops E T r (put f d undef) w) : WO P N ops E T (.q i r) f w :=
  ⟨o, d, undef, ho, hd, lt_of_blt hdN, .inr ⟨⟨j, b, hg, .inl hy⟩, rfl⟩, h⟩
theorem WO.qpn (ho : ops[i]? = some o) (hg : o.guard = some (j, b)) (hd : o.dst = some d) (hdN : Nat.blt d N = true) (hy : yd ops f j = none) (h : WO P N ops E T r (put f d undef) w) : WO P N ops E T (.q i r) f w :=
  ⟨o, d, undef, ho, hd, lt_of_blt hdN, .inr ⟨⟨j, b, hg, .inr hy⟩, rfl⟩, h⟩
theorem LO.split {K : Fr → World → Prop} {t : Bool} (hy : yd ops f j = some t) (h1 : t = true → LO P N ops E i K f w) (h2 : t = false → LO P N ops E i K f w) : LO P N ops E i K f w := by
  cases t
  · exact h2 rfl
  · exact h1 rfl
theorem LO.go {K : Fr → World → Prop} (ho : ops[i]? = some o) (hg : o.guard = none) (h : OW P N o (fun _ _ _ => False) (fun f' w' => E w' ∧ K f' w') f w) : LO P N ops E i K f w :=
  ⟨o, ho, .inl ⟨.inl hg, h⟩⟩
theorem LO.gog {K : Fr → World → Prop} (ho : ops[i]? = some o) (hg : o.guard = some (j, b)) (hy : yd ops f j = some b) (h : OW P N o (fun _ _ _ => False) (fun f' w' => E w' ∧ K f' w') f w) : LO P N ops E i K f w :=
  ⟨o, ho, .inl ⟨.inr ⟨j, b, hg, hy⟩, h⟩⟩
theorem LO.pass {K : Fr → World → Prop} (ho : ops[i]? = some o) (hE : E w) (hg : o.guard = some (j, b)) (hd : o.dst = some d) (hdN : Nat.blt d N = true) (hy : yd ops f j = some (!b)) (h : K (put f d undef) w) : LO P N ops E i K f w :=
  ⟨o, ho, .inr (.inl ⟨hE, j, b, d, hg, .inl hy, hd, lt_of_blt hdN, h⟩)⟩
theorem LO.passn {K : Fr → World → Prop} (ho : ops[i]? = some o) (hE : E w) (hg : o.guard = some (j, b)) (hd : o.dst = some d) (hdN : Nat.blt d N = true) (hy : yd ops f j = none) (h : K (put f d undef) w) : LO P N ops E i K f w :=
  ⟨o, ho, .inr (.inl ⟨hE, j, b, d, hg, .inr hy, hd, lt_of_blt hdN, h⟩)⟩
theorem LO.passn0 {K : Fr → World → Prop} (ho : ops[i]? = some o) (hE : E w) (hg : o.guard = some (j, b)) (hd : o.dst = none) (hy : yd ops f j = none) (h : K f w) : LO P N ops E i K f w :=
  ⟨o, ho, .inr (.inr ⟨hE, j, b, hg, .inr hy, hd, h⟩)⟩
theorem LO.pass0 {K : Fr → World → Prop} (ho : ops[i]? = some o) (hE : E w) (hg : o.guard = some (j, b)) (hd : o.dst = none) (hy : yd ops f j = some (!b)) (h : K f w) : LO P N ops E i K f w :=
  ⟨o, ho, .inr (.inr ⟨hE, j, b, hg, .inl hy, hd, h⟩)⟩
theorem OW.mono {o : Oper} {Q : Post} {k k' : Fr → World → Prop} (h : OW P N o Q k f w) (hk : ∀ f w, k f w → k' f w) : OW P N o Q k' f w := fun a hs hf => Oper.wp_mono (fun _ _ q => ⟨q.1, hk _ _ q.2⟩) (h a hs hf)
theorem LO.mono {K K' : Fr → World → Prop} (h : LO P N ops E i K f w) (hk : ∀ f w, K f w → K' f w) : LO P N ops E i K' f w := by
  obtain ⟨o, ho, hy⟩ := h
  refine ⟨o, ho, ?_⟩
  rcases hy with ⟨hw, hv⟩ | ⟨e, j, b, d, h1, h2, h3, h4, h5⟩ | ⟨e, j, b, h1, h2, h3, h4⟩
  · exact .inl ⟨hw, OW.mono hv fun f w q => ⟨q.1, hk _ _ q.2⟩⟩
  · exact .inr (.inl ⟨e, j, b, d, h1, h2, h3, h4, hk _ _ h5⟩)
  · exact .inr (.inr ⟨e, j, b, h1, h2, h3, hk _ _ h4⟩)
theorem WO.mono {T' : Fr → World → Prop} (hT : ∀ f w, T f w → T' f w) : ∀ (pl : Plan) {f : Fr} {w : World}, WO P N ops E T pl f w → WO P N ops E T' pl f w
  | .nil, _, _, h => hT _ _ h
  | .q i r, f, w, h => by
    obtain ⟨o, d, v, h1, h2, h3, h4, h5⟩ := h
    exact ⟨o, d, v, h1, h2, h3, h4, WO.mono hT r h5⟩
  | .l i r, f, w, h => LO.mono h fun _ _ q => WO.mono hT r q
  | .b i j r s, f, w, h => ⟨LO.mono h.1 fun _ _ q => WO.mono hT r q, LO.mono h.2 fun _ _ q => WO.mono hT s q⟩
  | .b3 i j k r s u, f, w, h => ⟨LO.mono h.1 fun _ _ q => WO.mono hT r q, LO.mono h.2.1 fun _ _ q => WO.mono hT s q, LO.mono h.2.2 fun _ _ q => WO.mono hT u q⟩
  | .b4 i j k m r s u t, f, w, h => ⟨LO.mono h.1 fun _ _ q => WO.mono hT r q, LO.mono h.2.1 fun _ _ q => WO.mono hT s q, LO.mono h.2.2.1 fun _ _ q => WO.mono hT u q, LO.mono h.2.2.2 fun _ _ q => WO.mono hT t q⟩
/-- all orders end in one state -/
theorem WO.cut {pl : Plan} (J : Fr → World → Prop) (h : WO P N ops E J pl f w) (h2 : ∀ f' w', J f' w' → T f' w') : WO P N ops E T pl f w := WO.mono h2 pl h
theorem WO.l (h : LO P N ops E i (WO P N ops E T r) f w) : WO P N ops E T (.l i r) f w := h
theorem WO.b2 {i2 : Nat} (h : LO P N ops E i (WO P N ops E T r) f w) (h2 : LO P N ops E i2 (WO P N ops E T r2) f w) : WO P N ops E T (.b i i2 r r2) f w := ⟨h, h2⟩
theorem WO.b3 {i2 i3 : Nat} (h : LO P N ops E i (WO P N ops E T r) f w) (h2 : LO P N ops E i2 (WO P N ops E T r2) f w) (h3 : LO P N ops E i3 (WO P N ops E T r3) f w) : WO P N ops E T (.b3 i i2 i3 r r2 r3) f w := ⟨h, h2, h3⟩
theorem WO.b4 {i2 i3 i4 : Nat} {r4 : Plan} (h : LO P N ops E i (WO P N ops E T r) f w) (h2 : LO P N ops E i2 (WO P N ops E T r2) f w) (h3 : LO P N ops E i3 (WO P N ops E T r3) f w) (h4 : LO P N ops E i4 (WO P N ops E T r4) f w) : WO P N ops E T (.b4 i i2 i3 i4 r r2 r3 r4) f w := ⟨h, h2, h3, h4⟩
end plan

/-! ### Names for frames, loops by a ghost measure -/
theorem WF.named {P : Program} {N : Nat} {c : Code} {Q : Post} {f : Fr} {w : World} (h : ∀ F, F = f → WF P N c Q F w) : WF P N c Q f w := h f rfl

theorem WF.loopN {P : Program} {N : Nat} {c : Code} {Q : Post} {f : Fr} {w : World} (I : Nat → Fr → World → Prop) (h0 : ∃ n, I n f w)
    (round : ∀ n f w, I n f w → WF P N c (thn (fun f' w' => ∃ n', n' < n ∧ I n' f' w') Q) f w) : WF P N (.loop c) Q f w := by
  classical
  have least : ∀ f w, (∃ n, I n f w) → ∃ n, I n f w ∧ ∀ m, I m f w → n ≤ m := by
    intro f w ⟨n, hn⟩
    induction n using Nat.strongRecOn with
    | _ n ih =>
      by_cases h : ∃ m, m < n ∧ I m f w
      · obtain ⟨m, hm, hI⟩ := h; exact ih m hm hI
      · exact ⟨n, hn, fun m hm => Nat.le_of_not_lt fun hlt => h ⟨m, hlt, hm⟩⟩
  let μ : Fr → World → Nat := fun f w => if h : ∃ n, I n f w then Classical.choose (least f w h) else 0
  have hμ : ∀ f w (h : ∃ n, I n f w), I (μ f w) f w ∧ ∀ m, I m f w → μ f w ≤ m := by
    intro f w h
    simp only [μ, dif_pos h]
    exact Classical.choose_spec (least f w h)
  refine WF.loop (fun f w => ∃ n, I n f w) μ h0 ?_
  intro f w h
  refine WF.mono (round _ f w (hμ f w h).1) ?_
  intro e f' w' hq
  cases e with
  | normal =>
    obtain ⟨n', hlt, hI⟩ := hq
    exact ⟨⟨n', hI⟩, Nat.lt_of_le_of_lt ((hμ f' w' ⟨n', hI⟩).2 n' hI) hlt⟩
  | _ => exact hq

theorem Agree.refl (S : List Nat) (f : Fr) : Agree S f f := fun _ _ => rfl
theorem Agree.put {S : List Nat} {f g : Fr} (h : Agree S f g) {d : Nat} {v : Value} (hd : S.contains d = false) : Agree S (put f d v) g := by
  intro i hi
  by_cases e : i = d
  · subst e; rw [hi] at hd; cases hd
  · rw [put_ne _ _ e]; exact h i hi
theorem Agree.sub {S S' : List Nat} {f g h : Fr} (hA : Agree S' f g) (hs : S.all (fun i => S'.contains i) = true) (k : Agree S g h) : Agree S f h := by
  intro i hi
  rw [hA i (List.all_eq_true.1 hs i (by simpa using hi))]
  exact k i hi
theorem Agree.named {S : List Nat} {f g h : Fr} (hF : f = g) (k : Agree S g h) : Agree S f h := by rw [hF]; exact k
theorem nt {b : Bool} (h : (!b) = true) : b = false := by simpa using h
theorem nf {b : Bool} (h : (!b) = false) : b = true := by simpa using h
theorem Agree.eq {S : List Nat} {f g : Fr} (h : Agree S f g) (i : Nat) (hi : S.contains i = true := by rfl) : f i = g i := h i hi

theorem cons_eq {α : Type} {a b : α} {l m : List α} (h : a = b) (k : l = m) : a :: l = b :: m := by rw [h, k]
theorem cons_eq2 {i : Nat} {a b : Value} {l m : List (Nat × Value)} (h : a = b) (k : l = m) : (i, a) :: l = (i, b) :: m := by rw [h, k]

/-! ### Numbers -/
abbrev w64 {n : Int} (h : -9223372036854775808 ≤ n ∧ n ≤ 9223372036854775807) : IntKind.i64.wrap n = n := IntWalk.i64_in n h
abbrev wu64 {n : Int} (h : 0 ≤ n ∧ n ≤ 18446744073709551615) : IntKind.u64.wrap n = n := IntWalk.u64_in n h
abbrev wu32 {n : Int} (h : 0 ≤ n ∧ n ≤ 4294967295) : IntKind.u32.wrap n = n := IntWalk.u32_in n h
abbrev wi32 {n : Int} (h : -2147483648 ≤ n ∧ n ≤ 2147483647) : IntKind.i32.wrap n = n := IntWalk.i32_in n h
abbrev wu8 {n : Int} (h : 0 ≤ n ∧ n ≤ 255) : IntKind.u8.wrap n = n := IntWalk.u8_in n h

/-- a byte as a value -/
abbrev u8 (x : UInt8) : Value := .int .u8 (x.toNat : Int)
abbrev i64 (n : Int) : Value := .int .i64 n

/-- A slice of bytes. -/
abbrev Bytes (w : World) (v : Value) (l : List UInt8) : Prop := Row w v l.length 1 (l.map u8)
/-- A slice of bytes of the call's own. -/
abbrev OwnB (w : World) (B : Nat) (e : TypeId) (v : Value) (l : List UInt8) : Prop := w.ownsRow B e 1 v l.length (l.map u8)

theorem Bytes.at {w w' : World} {v : Value} {l : List UInt8} (h : Bytes w v l) (hx : Ext w w') {k : Nat} (hk : k < l.length) : w'.cell? ((base v).add (k * 1)) = some (u8 l[k]) := by
  rw [Nat.mul_one]
  exact (Row.ext h hx).cell k _ (by simp [hk])
theorem Bytes.le {w : World} {v : Value} {l : List UInt8} (h : Bytes w v l) : l.length ≤ maxLen := by
  obtain ⟨a, c, _, h1, h2, _⟩ := h.shape; omega
theorem Bytes.le64 {w : World} {v : Value} {l : List UInt8} (h : Bytes w v l) : (l.length : Int) ≤ 9223372036854775807 := by
  have := h.le; unfold maxLen at this; omega
theorem bytes_one (l : List UInt8) : ∀ u ∈ l.map u8, u.oneCell' = true := by
  intro u hu
  obtain ⟨x, _, rfl⟩ := List.mem_map.1 hu
  rfl
theorem Bytes.part {w : World} {v : Value} {l : List UInt8} (h : Bytes w v l) (lo hi : Nat) (h1 : lo ≤ hi) (h2 : hi ≤ l.length) : Bytes w (Kf.part v lo hi 1) ((l.drop lo).take (hi - lo)) := by
  have := Row.part h lo hi h1 h2
  have e : ((l.drop lo).take (hi - lo)).length = hi - lo := by simp; omega
  unfold Bytes
  rw [e, List.map_take, List.map_drop]
  simpa using this
theorem Bytes.of_own {w : World} {B : Nat} {e : TypeId} {v : Value} {l : List UInt8} (h : OwnB w B e v l) : Bytes w v l := Row.of_own h

section bytes
variable {P : Program} {N : Nat} {Q : Post} {f : Fr} {w : World} {k : Fr → World → Prop} {d : Nat} {ty t e : TypeId} {pos : String} {aft : Array Edge} {g : Option (Nat × Bool)} {x y : Operand} {u v : Value} {n B j : Nat} {l m : List UInt8} {c : UInt8}

theorem OW.storeB (ho : OwnB w B e v l) (hj : j < l.length) (hx : ev f x = .pointer (some ((base v).add (j * 1)))) (hy : ev f y = u8 c) (ht : ∀ w, (sizeOf t).run P w = .ok 1 w)
    (h : ∀ w', OwnB w' B e v (l.set j c) → w.grownBy w' v.ownBlock → k f w') : OW P N ⟨none, .store t x y, ty, pos, aft, g⟩ Q k f w :=
  OW.storeOwn (j := j) ho (by simpa using hj) (by rw [hx, Nat.mul_one]) hy rfl ht fun w' h1 h2 => h w' (by simpa [OwnB, List.map_set] using h1) h2

theorem OW.appendB {i : TypeInfo} {z : Value} (ho : OwnB w B e v l) (hr : Bytes w u m) (hx : ev f x = v) (hy : ev f y = u)
    (ht : P.underlying t = some (.slice e)) (hi : P.info? e = some i) (hz : i.zero = some z) (hsize : i.size = 1) (hby : i.bytes = 1) (hzs : z.cells.size = 1)
    (hb : l.length + m.length ≤ 140737488355328) (hB : B ≤ w.heap.size)
    (h : ∀ v' w', OwnB w' B e v' (l ++ m) → w.grownBy w' v.ownBlock → Moved w v v' → k (put f d v') w') (hd : d < N) : OW P N ⟨some d, .call ⟨.builtin .append, #[x, y], #[t, t]⟩, ty, pos, aft, g⟩ Q k f w :=
  OW.append ho hr (bytes_one m) hx hy ht hi hz hsize hby hzs (by decide) (by unfold maxLen; omega) (by omega) hB (fun v' w' h1 h2 h3 => h v' w' (by simpa [OwnB] using h1) h2 h3) hd

theorem OW.makeB {i : TypeInfo} {kl kc : IntKind} (hx : ev f x = .int kl (n : Int)) (hy : ev f y = .int kc (n : Int)) (ht : P.underlying t = some (.slice e)) (hi : P.info? e = some i) (hz : i.zero = some (u8 0)) (hsize : i.size = 1) (hby : i.bytes = 1)
    (hb : n ≤ 281474976710656) (h : ∀ v w', OwnB w' w.heap.size e v (List.replicate n 0) → Ext w w' → k (put f d v) w') (hd : d < N) : OW P N ⟨some d, .makeSlice t x y, ty, pos, aft, g⟩ Q k f w :=
  OW.make hx hy ht hi hz hsize (by rw [hby]; omega) (by unfold maxLen; omega) (fun v w' h1 h2 => h v w' (by
    have e : (madeCells (u8 0).cells (n * 1)).toList = (List.replicate n (0 : UInt8)).map u8 := by
      rw [Nat.mul_one, show (u8 0).cells = #[u8 0] from rfl, toList_madeCells_one, List.map_replicate]
    rw [e] at h1
    simpa [OwnB] using h1) h2) hd
theorem OW.make0B {i : TypeInfo} {z : Value} {kl kc : IntKind} (hx : ev f x = .int kl 0) (hy : ev f y = .int kc (n : Int)) (ht : P.underlying t = some (.slice e)) (hi : P.info? e = some i) (hz : i.zero = some z) (hsize : i.size = 1) (hby : i.bytes = 1)
    (hb : n ≤ 281474976710656) (h : ∀ v w', OwnB w' w.heap.size e v [] → Ext w w' → k (put f d v) w') (hd : d < N) : OW P N ⟨some d, .makeSlice t x y, ty, pos, aft, g⟩ Q k f w :=
  OW.make0 hx hy ht hi hz hsize (by rw [hby]; omega) (by unfold maxLen; omega) h hd
end bytes

theorem byte_eq {a b : UInt8} (h : (a.toNat : Int) = (b.toNat : Int)) : a = b := UInt8.toNat_inj.1 (by omega)
theorem X.loadB {P : Program} {f : Fr} {w w0 : World} {dst : Option Tmp} {ty t : TypeId} {pos : String} {aft : Array Edge} {g : Option (Nat × Bool)} {x : Operand} {v : Value} {k : Nat} {l : List UInt8}
    (h : Bytes w0 v l) (hE : Ext w0 w) (hx : ev f x = .pointer (some ((base v).add (k * 1)))) (hk : k < l.length) (ht : ∀ w, (isAgg t).run P w = .ok false w) :
    (execOp (ev f) ⟨dst, .load t x, ty, pos, aft, g⟩).run P w = .ok (.value (u8 (l.getD k 0))) w := X.load hx (by rw [h.at hE hk]; simp [hk]) ht
theorem take_getD (l : List UInt8) (k : Nat) (h : k < l.length) : l.take (k + 1) = l.take k ++ [l.getD k 0] := by
  rw [List.take_succ_eq_append_getElem h]; simp [h]
theorem take_set_succ {α : Type} (L : List α) (k : Nat) (x : α) (h : k < L.length) : (L.set k x).take (k + 1) = L.take k ++ [x] := by
  rw [List.take_succ_eq_append_getElem (by simpa using h), List.take_set_of_le (Nat.le_refl _)]
  simp
theorem OwnB.nil (w : World) (B : Nat) (e : TypeId) : OwnB w B e (.slice none 0 0) [] := World.ownsRow_nil w B e 1
theorem OwnB.ext {w w' : World} {B : Nat} {e : TypeId} {v : Value} {l : List UInt8} (h : OwnB w B e v l) (g : Ext w w') : OwnB w' B e v l := own_ext h g
theorem OwnB.part {w : World} {B : Nat} {e : TypeId} {v : Value} {l : List UInt8} (h : OwnB w B e v l) (n : Nat) (hn : n ≤ l.length) : OwnB w B e (Kf.part v 0 n 1) (l.take n) := by
  have := own_take h n hn
  rw [Nat.mul_one, ← List.map_take] at this
  have e2 : (l.take n).length = n := by simp; omega
  unfold OwnB
  rw [e2]
  exact this
theorem Bytes.nil (w : World) : Bytes w (.slice none 0 0) [] := Row.nil w 1

/-- '[]T{}' -/
theorem OW.lit0 {P : Program} {N : Nat} {Q : Post} {f : Fr} {w : World} {k : Fr → World → Prop} {d : Nat} {ty t e : TypeId} {pos : String} {aft : Array Edge} {g : Option (Nat × Bool)} {sz : Nat}
    (ht : P.underlying t = some (.slice e)) (hs : ∀ w, (sizeOf e).run P w = .ok sz w)
    (h : ∀ v w', w'.ownsRow w.heap.size e sz v 0 [] → Ext w w' → k (put f d v) w') (hd : d < N) : OW P N ⟨some d, .buildSlice t 0 #[], ty, pos, aft, g⟩ Q k f w := by
  refine OW.val rfl hd (v := .slice (some ⟨w.heap.size, 0, none⟩) 0 0) (w' := w.alloc (.cells #[] e)) ?_ (h _ _ (by simpa using World.ownsRow_lit w #[] 0 (Nat.le_refl w.heap.size) (by simp [maxLen]) (by simp) (e := e) (size := sz)) (Ext.alloc _ _))
  have h0 : Array.range 0 = #[] := rfl
  simp [execOp, Instr.buildSlice, run_underlying ht, hs, Instr.fill, newRow, Result.andThen, h0]

/-- '[]byte("..")': the mark of a constant's bytes -/
theorem OW.convB {P : Program} {N : Nat} {Q : Post} {f : Fr} {w : World} {k : Fr → World → Prop} {d : Nat} {ty t e : TypeId} {pos : String} {aft : Array Edge} {g : Option (Nat × Bool)} {x : Operand} {v : Value} {n sz B : Nat} {xs : List Value}
    (ho : w.ownsRow B e sz v n xs) (hn : 0 < n) (hx : ev f x = v) (ht : P.underlying t = some (.slice e)) (he : P.underlying e = some (.int .u8))
    (h : ∀ w', Row w' v n sz xs → w.grownBy w' v.ownBlock → k (put f d v) w') (hd : d < N) : OW P N ⟨some d, .convert t t x, ty, pos, aft, g⟩ Q k f w := by
  have hr := Row.of_own ho
  rcases ho.2 with ⟨_, h0⟩ | ⟨b, cap, cur, rfl, _, hg, _⟩
  · omega
  have hsh : w.shape? b = some (e, cur.size) := by simp [World.shape?, hg]
  have hblt : b < w.heap.size := (Array.getElem?_eq_some_iff.1 hg).1
  have hw : (w.freeze ⟨b, cur.size, none⟩ 1).heap[b]? = some (.cells cur e (cur.size, cur.size + 1)) := by
    simp [World.freeze, Array.getElem?_modify, hg]
  have hgr : w.grownBy (w.freeze ⟨b, cur.size, none⟩ 1) (some b) := by
    refine ⟨rfl, rfl, rfl, by simp [World.freeze], fun i hi hne => ?_⟩
    simp only [World.freeze, if_neg (show ¬ (1 = 0) by decide), Array.getElem?_modify]
    rw [if_neg (fun e => hne (by rw [e]))]
  refine OW.val rfl hd (v := .slice (some ⟨b, 0, none⟩) n cap) (w' := w.freeze ⟨b, cur.size, none⟩ 1) ?_ (h _ ⟨hr.shape, hr.len, fun i u hu => ?_⟩ (by simpa [Value.ownBlock] using hgr))
  · simp [execOp, hx, convert, run_underlying ht, run_underlying he, markStringish, hsh]
  · have := hr.cell i u hu
    simp only [base, Addr.add_lit, Nat.zero_add] at this ⊢
    have hb2 : w.cell? ⟨b, i, none⟩ = cur[i]? := cell_of_row w b i cur e (0, 0) hg
    rw [hb2] at this
    rw [cell_of_row _ b i cur e _ hw]
    exact this

end Go.Proofs.Ytpimnlgfhpnjnaa.Kf
