/- Variables in blocks of their own; whole structs; closures; results in cells; copy, cap, reslices. -/
import Derived.Test.YtobjmehppmhkdaaRec
import Derived.Laws.StructEq
import Derived.Laws.CopyRow
import Derived.Laws.Cells
import Derived.Lib.Overlaps
namespace Go.Proofs.Ytobjmehppmhkdaa.Kf
open Go Go.RowKit

/-! ### A variable in a block of its own -/
abbrev at_ (g : Nat) : Value := .pointer (some ⟨g, 0, none⟩)
abbrev agg (cs : List Value) : Value := .agg cs.toArray
structure Blk (w : World) (g : Nat) (e : TypeId) (cs : List Value) : Prop where
  heap : w.heap[g]? = some (.cells cs.toArray e (0, 0))
section obj
variable {w w' : World} {g g' : Nat} {e : TypeId} {cs : List Value} {row : Option Nat}
theorem Blk.lt (h : Blk w g e cs) : g < w.heap.size := (Array.getElem?_eq_some_iff.1 h.heap).1
theorem Blk.kept (h : Blk w g e cs) (k : w.grownBy w' row) (hne : row ≠ some g) : Blk w' g e cs := ⟨(k.block g h.lt (fun e => hne e.symm)).trans h.heap⟩
theorem Blk.ext (h : Blk w g e cs) (k : Ext w w') : Blk w' g e cs := h.kept k (by simp)
theorem Blk.keptO (h : Blk w g e cs) (k : w.grownBy w' (some g')) (hne : g' ≠ g) : Blk w' g e cs := h.kept k (by simpa using hne)
theorem Blk.cast {ds : List Value} (h : Blk w g e cs) (k : cs = ds) : Blk w g e ds := k ▸ h
theorem Blk.cell (h : Blk w g e cs) {i : Nat} {u : Value} (hu : cs[i]? = some u) : w.cell? ⟨g, i, none⟩ = some u := by
  rw [cell_of_row w g i cs.toArray e (0, 0) h.heap]; simpa using hu
/-- behind a write into a block that is newer than a -/
theorem Ext.store {a b c : World} {g : Nat} (h : Ext a b) (k : b.grownBy c (some g)) (hg : a.heap.size ≤ g) : Ext a c := grown_trans h k fun i hi => by injection hi with hi; omega
theorem Row.keptO {v : Value} {n sz : Nat} (h : Row w v n sz cs) (k : w.grownBy w' (some g')) (hne : v.ownBlock ≠ some g') : Row w' v n sz cs := h.grown k (.inr hne)
theorem own_keptO {B : Nat} {v : Value} {n sz : Nat} (h : w.ownsRow B e sz v n cs) (k : w.grownBy w' (some g')) (hne : g' < B ∨ w.heap.size ≤ g') : w'.ownsRow B e sz v n cs := by
  refine h.kept k ?_
  cases hb : v.ownBlock with
  | none => exact .inl rfl
  | some b =>
    right
    have := h.lt b hb
    intro e
    injection e with e
    omega
/-- a row of the call's own, whose block lies below T -/
structure OwnT (w : World) (B T : Nat) (e : TypeId) (sz : Nat) (v : Value) (n : Nat) (cs : List Value) : Prop where
  own : w.ownsRow B e sz v n cs
  top : ∀ b, v.ownBlock = some b → b < T
theorem OwnT.of {B n sz : Nat} {v : Value} (h : w.ownsRow B e sz v n cs) : OwnT w B w.heap.size e sz v n cs := ⟨h, fun b hb => (h.lt b hb).2⟩
theorem OwnT.ext {B T n sz : Nat} {v : Value} (h : OwnT w B T e sz v n cs) (k : Ext w w') : OwnT w' B T e sz v n cs := ⟨own_ext h.own k, h.top⟩
theorem OwnT.keptO {B T n sz : Nat} {v : Value} (h : OwnT w B T e sz v n cs) (k : w.grownBy w' (some g')) (hne : g' < B ∨ T ≤ g') : OwnT w' B T e sz v n cs := by
  refine ⟨h.own.kept k ?_, h.top⟩
  cases hb : v.ownBlock with
  | none => exact .inl rfl
  | some b =>
    right
    have h1 := (h.own.lt b hb).1
    have h2 := h.top b hb
    intro e
    injection e with e
    omega
theorem OwnT.kept {B T n sz : Nat} {v : Value} (h : OwnT w B T e sz v n cs) (k : w.grownBy w' row) (hne : ∀ g, row = some g → g < B ∨ T ≤ g) : OwnT w' B T e sz v n cs := by
  cases row with
  | none => exact h.ext k
  | some g => exact h.keptO k (hne g rfl)
theorem OwnT.apart {w2 : World} {B T n sz B2 n2 sz2 : Nat} {e2 : TypeId} {v v2 : Value} {xs : List Value} (h : OwnT w B T e sz v n cs) (h2 : w2.ownsRow B2 e2 sz2 v2 n2 xs) (hle : T ≤ B2) : Apart v v2 := fun k hk hk2 => by
  have := h.top k hk
  have := (h2.lt k hk2).1
  omega
theorem OwnT.rd {B T n sz : Nat} {v : Value} (h : OwnT w B T e sz v n cs) : Row w v n sz cs := Row.of_own h.own
theorem Blk.keptR {row : Option Nat} (h : Blk w g e cs) (k : w.grownBy w' row) (hne : ∀ b, row = some b → b ≠ g) : Blk w' g e cs := h.kept k (fun e => hne g e rfl)
end obj

/-- a struct of parts of one cell each, by its cells -/
theorem X.buildL {P : Program} {f : Fr} {w : World} {dst : Option Tmp} {ty t : TypeId} {pos : String} {aft : Array Edge} {g : Option (Nat × Bool)} {parts : List (Nat × Operand)} {vs : List (Nat × Value)} {it : TypeInfo} {fs : Array Field} {z : Value} {places : List (Nat × Nat)} {cs : List Value}
    (hp : evp f parts = vs) (hi : P.info? t = some it) (hu : P.underlying t = some (.struct fs)) (hz : it.zero = some z) (hm : fs.toList.mapM (fun f => (P.info? f.type).map fun i => (f.offset, i.size)) = some places)
    (h1 : Ones vs) (hc : fill1 (places.toArray[·]?) z.cells vs = some cs.toArray) :
    (execOp (ev f) ⟨dst, .build t parts.toArray, ty, pos, aft, g⟩).run P w = .ok (.value (agg cs)) w := X.build hp hi hu hz hm h1 hc

/-- the same, told on lists: it does not grow with the number of parts -/
def fillL (pl : List (Nat × Nat)) (n : Nat) (cs : List Value) : List (Nat × Value) → Option (List Value)
  | [] => some cs
  | (i, v) :: rest =>
    match pl[i]? with
    | some (off, 1) => bif Nat.blt off n then fillL pl n (cs.set off v) rest else none
    | _ => none
theorem fillL_eq (pl : List (Nat × Nat)) (n : Nat) : ∀ (parts : List (Nat × Value)) (cs out : List Value), cs.length = n → fillL pl n cs parts = some out → fill1 (pl.toArray[·]?) cs.toArray parts = some out.toArray
  | [], cs, out, _, h => by injection h with h; subst h; rfl
  | (i, v) :: rest, cs, out, hn, h => by
    unfold fillL at h
    unfold fill1
    simp only [List.getElem?_toArray]
    cases hp : pl[i]? with
    | none => rw [hp] at h; cases h
    | some q =>
      obtain ⟨off, size⟩ := q
      rw [hp] at h
      match size, h with
      | 1, h =>
        simp only [List.size_toArray, hn] at h ⊢
        cases hb : Nat.blt off n with
        | false => rw [hb] at h; cases h
        | true =>
          rw [hb] at h
          simp only [cond_true] at h ⊢
          have := fillL_eq pl n rest (cs.set off v) out (by simpa using hn) h
          simpa using this
      | 0, h => cases h
      | (m + 2), h => cases h
theorem X.buildT {P : Program} {f : Fr} {w : World} {dst : Option Tmp} {ty t : TypeId} {pos : String} {aft : Array Edge} {g : Option (Nat × Bool)} {parts : List (Nat × Operand)} {vs : List (Nat × Value)} {it : TypeInfo} {fs : Array Field} {z : Value} {places : List (Nat × Nat)} {cs zs : List Value} {n : Nat}
    (hp : evp f parts = vs) (hi : P.info? t = some it) (hu : P.underlying t = some (.struct fs)) (hz : it.zero = some z) (hm : fs.toList.mapM (fun f => (P.info? f.type).map fun i => (f.offset, i.size)) = some places)
    (h1 : Ones vs) (hzs : z.cells = zs.toArray) (hn : zs.length = n) (hc : fillL places n zs vs = some cs) :
    (execOp (ev f) ⟨dst, .build t parts.toArray, ty, pos, aft, g⟩).run P w = .ok (.value (agg cs)) w := X.build hp hi hu hz hm h1 (by rw [hzs]; exact fillL_eq _ _ _ _ _ hn hc)

/-- a struct of any parts -/
theorem X.buildF {P : Program} {f : Fr} {w : World} {dst : Option Tmp} {ty t : TypeId} {pos : String} {aft : Array Edge} {g : Option (Nat × Bool)} {parts : List (Nat × Operand)} {vs : List (Nat × Value)} {it : TypeInfo} {fs : Array Field} {z : Value} {places : List (Nat × Nat)} {cs : List Value}
    (hp : evp f parts = vs) (hi : P.info? t = some it) (hu : P.underlying t = some (.struct fs)) (hz : it.zero = some z) (hm : fs.toList.mapM (fun f => (P.info? f.type).map fun i => (f.offset, i.size)) = some places)
    (hc : Instr.fill (places.toArray[·]?) z.cells vs = some cs.toArray) :
    (execOp (ev f) ⟨dst, .build t parts.toArray, ty, pos, aft, g⟩).run P w = .ok (.value (agg cs)) w := by
  have hb : P.built t vs = some cs.toArray := by
    simp only [Program.built, hi, hu, hz, hm]
    exact hc
  have hr := run_build (P := P) w t vs.toArray cs.toArray hb
  have he : parts.toArray.map (fun (i, x) => (i, ev f x)) = vs.toArray := by
    rw [← hp, evp_eq]; simp
  simp only [execOp]
  rw [he]
  simp [hr]
theorem run_loadCells_of {P : Program} {w : World} {a : Addr} {cs : List Value} {n : Nat} (h : ∀ j v, cs[j]? = some v → w.cell? (a.add j) = some v) (hl : cs.length = n) : (loadCells a n).run P w = .ok cs.toArray w := by
  subst hl; exact run_loadCells_list w a cs h

namespace X
variable {P : Program} {f : Fr} {w w0 : World} {dst : Option Tmp} {ty t t' e s : TypeId} {pos : String} {aft : Array Edge} {x y z : Operand} {v u p : Value} {n m sz k B off g q : Nat} {cs : List Value} {kd kd' : IntKind} {gd : Option (Nat × Bool)}
theorem fieldAddrO {fs : Array Field} {fl : Field} {i : Nat} (hx : ev f x = at_ g) (hs : P.underlying s = some (.struct fs)) (hf : fs[i]? = some fl) (ho : fl.offset = off) (hz : ∀ w, (sizeOf fl.type).run P w = .ok (q + 1) w) :
    (execOp (ev f) ⟨dst, .fieldAddr s x i, ty, pos, aft, gd⟩).run P w = .ok (.value (.pointer (some ⟨g, off, none⟩))) w := by
  subst ho
  simp [execOp, hx, Instr.fieldAt, Instr.sureAddr, run_underlying hs, hf, fieldPlace, hz, Addr.add_lit]
theorem fieldAddrP {fs : Array Field} {fl : Field} {i : Nat} (hx : ev f x = .pointer (some ⟨g, k, none⟩)) (hs : P.underlying s = some (.struct fs)) (hf : fs[i]? = some fl) (ho : fl.offset = off) (hz : ∀ w, (sizeOf fl.type).run P w = .ok (q + 1) w) :
    (execOp (ev f) ⟨dst, .fieldAddr s x i, ty, pos, aft, gd⟩).run P w = .ok (.value (.pointer (some ⟨g, k + off, none⟩))) w := by
  subst ho
  simp [execOp, hx, Instr.fieldAt, Instr.sureAddr, run_underlying hs, hf, fieldPlace, hz, Addr.add_lit]
theorem fieldAddrAA {a : Addr} {fs : Array Field} {fl : Field} {i : Nat} (hx : ev f x = .pointer (some (a.add k))) (hs : P.underlying s = some (.struct fs)) (hf : fs[i]? = some fl) (ho : fl.offset = off) (hz : ∀ w, (sizeOf fl.type).run P w = .ok (q + 1) w) :
    (execOp (ev f) ⟨dst, .fieldAddr s x i, ty, pos, aft, gd⟩).run P w = .ok (.value (.pointer (some (a.add (k + off))))) w := by
  have := fieldAddrA (w := w) (dst := dst) (ty := ty) (pos := pos) (aft := aft) (g := gd) hx hs hf ho hz
  have e : (a.add k).add off = a.add (k + off) := by
    unfold Addr.add
    by_cases hm : k = 0 <;> by_cases hn : off = 0 <;> simp [hm, hn, Nat.add_assoc]
  rwa [e] at this
theorem loadO (h : Blk w0 g e cs) (hE : Ext w0 w) (hx : ev f x = .pointer (some ⟨g, off, none⟩)) (hu : cs[off]? = some u) (ht : ∀ w, (isAgg t).run P w = .ok false w) :
    (execOp (ev f) ⟨dst, .load t x, ty, pos, aft, gd⟩).run P w = .ok (.value u) w := X.load hx ((h.ext hE).cell hu) ht
theorem loadA {a : Addr} (hx : ev f x = .pointer (some a)) (hc : ∀ j v, cs[j]? = some v → w.cell? (a.add j) = some v) (hl : cs.length = sz) (ht : ∀ w, (isAgg t).run P w = .ok true w) (hs : ∀ w, (sizeOf t).run P w = .ok sz w) :
    (execOp (ev f) ⟨dst, .load t x, ty, pos, aft, gd⟩).run P w = .ok (.value (agg cs)) w := by
  simp [execOp, hx, Instr.loadAt, Instr.sureAddr, loadVar, ht, hs, run_loadCells_of hc hl]
theorem loadOA (h : Blk w0 g e cs) (hE : Ext w0 w) (hx : ev f x = at_ g) (hl : cs.length = sz) (ht : ∀ w, (isAgg t).run P w = .ok true w) (hs : ∀ w, (sizeOf t).run P w = .ok sz w) :
    (execOp (ev f) ⟨dst, .load t x, ty, pos, aft, gd⟩).run P w = .ok (.value (agg cs)) w :=
  loadA hx (fun j v hj => by rw [Addr.add_lit, Nat.zero_add]; exact (h.ext hE).cell hj) hl ht hs
/-- a part of a variable that is a struct itself -/
theorem loadOP {ds : List Value} (h : Blk w0 g e cs) (hE : Ext w0 w) (hx : ev f x = .pointer (some ⟨g, off, none⟩)) (hd : (cs.drop off).take sz = ds) (hl : ds.length = sz) (ht : ∀ w, (isAgg t).run P w = .ok true w) (hs : ∀ w, (sizeOf t).run P w = .ok sz w) :
    (execOp (ev f) ⟨dst, .load t x, ty, pos, aft, gd⟩).run P w = .ok (.value (agg ds)) w :=
  loadA hx (fun j v hj => by
    rw [Addr.add_lit]
    refine (h.ext hE).cell ?_
    rw [← hd, List.getElem?_take] at hj
    split at hj
    · rwa [List.getElem?_drop] at hj
    · cases hj) hl ht hs
/-- an element of a slice, whole -/
theorem loadEl {ds : List Value} (h : Row w0 v n sz cs) (hE : Ext w0 w) (hx : ev f x = .pointer (some ((base v).add (k * sz)))) (hk : k < n) (hd : (cs.drop (k * sz)).take sz = ds) (ht : ∀ w, (isAgg t).run P w = .ok true w) (hs : ∀ w, (sizeOf t).run P w = .ok sz w) :
    (execOp (ev f) ⟨dst, .load t x, ty, pos, aft, gd⟩).run P w = .ok (.value (agg ds)) w := by
  have hl : ds.length = sz := by
    have := h.len
    have h2 : k * sz + sz ≤ n * sz := by rw [← Nat.succ_mul]; exact Nat.mul_le_mul_right _ hk
    rw [← hd]; simp; omega
  refine loadA hx (fun j u hj => ?_) hl ht hs
  have hj' : j < sz := by have := (List.getElem?_eq_some_iff.1 hj).1; omega
  refine (h.ext hE).fld hk ?_
  rw [← hd, List.getElem?_take, if_pos hj', List.getElem?_drop] at hj
  exact hj
/-- a part of an element of a slice, a struct itself -/
theorem loadEP {ds : List Value} {sp : Nat} (h : Row w0 v n sz cs) (hE : Ext w0 w) (hx : ev f x = .pointer (some (((base v).add (k * sz)).add off))) (hk : k < n) (hd : (cs.drop (k * sz + off)).take sp = ds) (hl : ds.length = sp) (ht : ∀ w, (isAgg t).run P w = .ok true w) (hs : ∀ w, (sizeOf t).run P w = .ok sp w) :
    (execOp (ev f) ⟨dst, .load t x, ty, pos, aft, gd⟩).run P w = .ok (.value (agg ds)) w := by
  refine loadA hx (fun j u hj => ?_) hl ht hs
  obtain ⟨a, c, rfl, _, _, h4⟩ := h.shape
  obtain ⟨b, o, rfl⟩ := h4 (by omega)
  rw [show base (.slice (some ⟨b, o, none⟩) n c) = ⟨b, o, none⟩ from rfl] at *
  rw [Addr.add_add, Addr.add_add, Nat.add_assoc]
  refine (h.ext hE).cell _ _ ?_
  rw [← hd, List.getElem?_take] at hj
  split at hj
  · rwa [List.getElem?_drop, Nat.add_assoc] at hj
  · cases hj
theorem field {vs : Array Value} {fs : Array Field} {fl : Field} {i : Nat} (hx : ev f x = .agg vs) (hs : P.underlying s = some (.struct fs)) (hf : fs[i]? = some fl) (ho : fl.offset = off) (ht : ∀ w, (isAgg fl.type).run P w = .ok false w) (hv : vs[off]? = some v) :
    (execOp (ev f) ⟨dst, .field s x i, ty, pos, aft, gd⟩).run P w = .ok (.value v) w := by
  subst ho
  simp [execOp, hx, Instr.field, run_underlying hs, hf, asAgg, Go.part, ht, hv]
theorem makeFunc {K : FuncId} {caps : List Operand} {vs : List Value} (hc : evl f caps = vs) : (execOp (ev f) ⟨dst, .makeFunc (.func K) #[] caps.toArray, ty, pos, aft, gd⟩).run P w = .ok (.value (.func (.func K) #[] vs.toArray)) w := by
  have : caps.toArray.map (ev f) = vs.toArray := by rw [← hc, evl_eq]; simp
  simp [execOp, Instr.makeFunc, this]
theorem callV {K : FuncId} {args : List Operand} {at_ : Array TypeId} {vs caps : List Value} (hv : ev f x = .func (.func K) #[] caps.toArray) (hc : ∀ (as : Array Value) (w : World), (callFunc K as).run P w = .ok (.enter K as) w) (ha : evl f args = vs) :
    (execOp (ev f) ⟨dst, .call ⟨.value x, args.toArray, at_⟩, ty, pos, aft, gd⟩).run P w = .ok (.enter K (vs ++ caps).toArray) w := by
  have ha' : args.toArray.map (ev f) = vs.toArray := by rw [← ha, evl_eq]; simp
  simp only [execOp, resolve, ha', hv]
  simp [Deferred.ofValue, invoke, hc]
/-- what a slice has room for -/
def _root_.Go.Proofs.Ytobjmehppmhkdaa.Kf.capOf : Value → Nat
  | .slice _ _ c => c
  | _ => 0
theorem cap (h : Row w0 v n sz cs) (hx : ev f x = v) (ht : P.underlying t = some (.slice e)) : (execOp (ev f) ⟨dst, .call ⟨.builtin .cap, #[x], #[t]⟩, ty, pos, aft, gd⟩).run P w = .ok (.value (.int .i64 (capOf v : Int))) w := by
  obtain ⟨a, c, rfl, _⟩ := h.shape
  have he : P.elem t = e := by simp [Program.elem, ht]
  have ht' : P.underlying t = some (.slice (P.elem t)) := by rw [he]; exact ht
  simp [execOp, resolve, invoke, builtin, hx, run_cap_slice w t ty a n c ht', capOf, goInt]
end X

/-! ### Results that stand in variables -/
/-- reading one result -/
def Reads (P : Program) (f : Fr) (w : World) : List ResultVar → List Value → Prop
  | [], [] => True
  | .tmp t :: l, v :: vs => v = f t ∧ Reads P f w l vs
  | .cell a t :: l, v :: vs => (∃ x, f a = .pointer (some x) ∧ (loadVar t x).run P w = .ok v w) ∧ Reads P f w l vs
  | _, _ => False
def tup : List Value → Value
  | [v] => v
  | vs => .tuple vs.toArray
def finC (P : Program) (rs : List ResultVar) (R : Value → World → Prop) : Post
  | .normal, f, w | .ret, f, w => ∃ vs, Reads P f w rs vs ∧ R (tup vs) w
  | _, _, _ => False
theorem finC_n {P : Program} {rs : List ResultVar} {R : Value → World → Prop} {f : Fr} {w : World} {vs : List Value} (h : Reads P f w rs vs) (h2 : R (tup vs) w) : finC P rs R .normal f w := ⟨vs, h, h2⟩
theorem finC_r {P : Program} {rs : List ResultVar} {R : Value → World → Prop} {f : Fr} {w : World} {vs : List Value} (h : Reads P f w rs vs) (h2 : R (tup vs) w) : finC P rs R .ret f w := ⟨vs, h, h2⟩
/-- one result -/
def Read1 (P : Program) (f : Fr) (w : World) : ResultVar → Value → Prop
  | .tmp t, v => v = f t
  | .cell a t, v => ∃ x, f a = .pointer (some x) ∧ (loadVar t x).run P w = .ok v w
def rd1 (tmps : Array Value) : ResultVar → Sem Value
  | .tmp t => pure (tmps.getD t undef)
  | .cell b t => do loadVar t (← asAddr (tmps.getD b undef))
theorem Read1.run {P : Program} {a : Act} {w : World} {r : ResultVar} {v : Value} (h : Read1 P (fr a) w r v) :
    (rd1 a.tmps r).run P w = .ok v w := by
  cases r with
  | tmp t => rw [show v = a.tmps.getD t undef from h]; rfl
  | cell b t =>
    obtain ⟨x, h1, h2⟩ := h
    have h1' : a.tmps.getD b undef = .pointer (some x) := h1
    simp only [rd1, Sem.run_bind, h1']
    simp [asAddr, h2, Result.andThen]
theorem reads_cons {P : Program} {f : Fr} {w : World} {r : ResultVar} {l : List ResultVar} {vs : List Value} (h : Reads P f w (r :: l) vs) : ∃ v vs', vs = v :: vs' ∧ Read1 P f w r v ∧ Reads P f w l vs' := by
  cases vs with
  | nil => cases r <;> exact h.elim
  | cons v vs => cases r <;> exact ⟨v, vs, rfl, h.1, h.2⟩
theorem reads_nil {P : Program} {f : Fr} {w : World} {vs : List Value} (h : Reads P f w [] vs) : vs = [] := by
  cases vs with
  | nil => rfl
  | cons v vs => exact h.elim
theorem results_eqC {fn : Func} {rs : List ResultVar} {P : Program} {a : Act} {w : World} {vs : List Value} (h : fn.results = rs.toArray) (hl : rs.length ≤ 3) (hr : Reads P (fr a) w rs vs) : (results fn a.tmps).run P w = .ok (tup vs) w := by
  show Sem.run P (do let vs ← fn.results.mapM (rd1 a.tmps); pure (if h : vs.size = 1 then vs[0] else .tuple vs)) w = _
  match rs, hl, h, hr with
  | [], _, h, hr => rw [reads_nil hr]; simp [h, tup]
  | [r], _, h, hr =>
    obtain ⟨v, _, rfl, h1, h2⟩ := reads_cons hr
    rw [reads_nil h2]
    have := h1.run
    simp [h, tup, this, Result.andThen]
  | [r, r2], _, h, hr =>
    obtain ⟨v, _, rfl, h1, h2⟩ := reads_cons hr
    obtain ⟨v2, _, rfl, h3, h4⟩ := reads_cons h2
    rw [reads_nil h4]
    have := h1.run
    have := h3.run
    simp [h, tup, *, Result.andThen]
  | [r, r2, r3], _, h, hr =>
    obtain ⟨v, _, rfl, h1, h2⟩ := reads_cons hr
    obtain ⟨v2, _, rfl, h3, h4⟩ := reads_cons h2
    obtain ⟨v3, _, rfl, h5, h6⟩ := reads_cons h4
    rw [reads_nil h6]
    have := h1.run
    have := h3.run
    have := h5.run
    simp [h, tup, *, Result.andThen]
  | _ :: _ :: _ :: _ :: rs, hl, _, _ => simp at hl
theorem FnOk.enterC {P : Program} {K : FuncId} {args : List Value} {w : World} {R : Value → World → Prop} {fn : Func} {c : Code} {N : Nat} {rs : List ResultVar} (hf : P.funcs[K]? = some fn) (hb : fn.body = some c) (hn : fn.ntmps = N)
    (hr : fn.results = rs.toArray) (ha : Nat.ble args.length N = true) (hl : Nat.ble rs.length 3 = true) (h : WF P N c (finC P rs R) (init args) w) : FnOk P K args w R := by
  refine calls_of_wp hf hb (wp_mono (h _ ⟨rfl, ?_⟩ ?_) ?_)
  · have := Nat.le_of_ble_eq_true ha; simp [hn]; omega
  · funext i
    simp only [fr]
    exact init_eq args _ i
  · intro e a w' ⟨s, q⟩
    cases e with
    | normal => obtain ⟨vs, h1, h2⟩ := q; exact ⟨s.defers, _, results_eqC hr (Nat.le_of_ble_eq_true hl) h1, _, rfl, h2⟩
    | ret => obtain ⟨vs, h1, h2⟩ := q; exact ⟨s.defers, _, results_eqC hr (Nat.le_of_ble_eq_true hl) h1, _, rfl, h2⟩
    | _ => exact q.elim
/-- a struct that stands in a variable, as a result -/
theorem readO {P : Program} {w : World} {g : Nat} {e t : TypeId} {cs : List Value} (h : Blk w g e cs) (ht : ∀ w, (isAgg t).run P w = .ok true w) (hs : ∀ w, (sizeOf t).run P w = .ok cs.length w) : (loadVar t ⟨g, 0, none⟩).run P w = .ok (agg cs) w := by
  have := run_loadCells_of (P := P) (w := w) (a := ⟨g, 0, none⟩) (cs := cs) (n := cs.length) (fun j v hj => by rw [Addr.add_lit, Nat.zero_add]; exact h.cell hj) rfl
  simp [loadVar, ht, hs, this, Result.andThen]
theorem readO1 {P : Program} {w : World} {g : Nat} {e t : TypeId} {u : Value} (h : Blk w g e [u]) (ht : ∀ w, (isAgg t).run P w = .ok false w) : (loadVar t ⟨g, 0, none⟩).run P w = .ok u w := by
  have hc := h.cell (i := 0) (u := u) rfl
  simp [loadVar, ht, run_load, hc, Result.andThen]

/-! ### New variables, and writes -/
section mem
variable {P : Program} {N : Nat} {Q : Post} {f : Fr} {w : World} {k : Fr → World → Prop} {d : Nat} {ty t e : TypeId} {pos : String} {aft : Array Edge} {gd : Option (Nat × Bool)} {x y : Operand} {u v p z : Value} {n m sz B off g j : Nat} {cs ds xs news : List Value}
theorem OW.allocO (hz : ∀ w, (zeroValue e).run P w = .ok z w) (hc : z.cells.toList = cs) (h : ∀ g w', g = w.heap.size → g < w'.heap.size → Blk w' g e cs → Ext w w' → k (put f d (at_ g)) w') (hd : d < N) :
    OW P N ⟨some d, .alloc e, ty, pos, aft, gd⟩ Q k f w := by
  refine OW.val rfl hd (v := at_ w.heap.size) (w' := w.alloc (.cells z.cells e)) ?_ (h _ _ rfl (by simp) ⟨by show (w.heap.push _)[w.heap.size]? = _; rw [← hc]; simp⟩ (Ext.alloc _ _))
  simp [execOp, Instr.alloc, hz, newVar, newRow]
theorem OW.boxA (hx : ev f x = agg cs) (h : ∀ g w', g = w.heap.size → g < w'.heap.size → Blk w' g e cs → Ext w w' → k (put f d (at_ g)) w') (hd : d < N) :
    OW P N ⟨some d, .box e x, ty, pos, aft, gd⟩ Q k f w := by
  refine OW.val rfl hd (v := at_ w.heap.size) (w' := w.alloc (.cells cs.toArray e)) ?_ (h _ _ rfl (by simp) ⟨by show (w.heap.push _)[w.heap.size]? = _; simp⟩ (Ext.alloc _ _))
  simp [execOp, hx, Instr.box, newVar, newRow, Value.cells]
theorem OW.box1 (hx : ev f x = u) (h1 : u.oneCell' = true) (h : ∀ g w', g = w.heap.size → g < w'.heap.size → Blk w' g e [u] → Ext w w' → k (put f d (at_ g)) w') (hd : d < N) :
    OW P N ⟨some d, .box e x, ty, pos, aft, gd⟩ Q k f w := by
  refine OW.val rfl hd (v := at_ w.heap.size) (w' := w.alloc (.cells #[u] e)) ?_ (h _ _ rfl (by simp) ⟨by show (w.heap.push _)[w.heap.size]? = _; simp⟩ (Ext.alloc _ _))
  simp [execOp, hx, Instr.box, newVar, newRow, cells_one h1]
theorem OW.boxO (hx : ev f x = u) (hc : u.cells.toList = cs) (h : ∀ g w', g = w.heap.size → g < w'.heap.size → Blk w' g e cs → Ext w w' → k (put f d (at_ g)) w') (hd : d < N) :
    OW P N ⟨some d, .box e x, ty, pos, aft, gd⟩ Q k f w := by
  refine OW.val rfl hd (v := at_ w.heap.size) (w' := w.alloc (.cells u.cells e)) ?_ (h _ _ rfl (by simp) ⟨by show (w.heap.push _)[w.heap.size]? = _; rw [← hc]; simp⟩ (Ext.alloc _ _))
  simp [execOp, hx, Instr.box, newVar, newRow]
theorem grown_setRow {w : World} {g : Nat} {cs : Array Value} : w.grownBy (w.setRow g cs) (some g) := by
  refine ⟨rfl, rfl, rfl, by simp [World.setRow], fun i hi hn => ?_⟩
  simp only [World.setRow, Array.getElem?_modify]
  rw [if_neg (fun e => hn (by rw [e]))]
theorem OW.storeU {us : List Value} (ho : Blk w g e cs) (hj : off + us.length ≤ cs.length) (hx : ev f x = .pointer (some ⟨g, off, none⟩)) (hy : ev f y = u) (hc : u.cells.toList = us) (h1 : ∀ v ∈ us, v.oneCell' = true) (ht : ∀ w, (sizeOf t).run P w = .ok us.length w)
    (h : ∀ w', Blk w' g e (cs.take off ++ us ++ cs.drop (off + us.length)) → w.grownBy w' (some g) → k f w') : OW P N ⟨none, .store t x y, ty, pos, aft, gd⟩ Q k f w := by
  have hst := run_storeCells_at P g off e us 0 cs.toArray w ho.heap (by simpa using hj) h1
  refine OW.skip (w' := w.setRow g (cs.take off ++ us ++ cs.drop (off + us.length)).toArray) rfl ?_ (h _ ⟨setRow_heap w g cs.toArray _ e _ ho.heap⟩ grown_setRow)
  have hsz : u.cells.size = us.length := by rw [← hc]; simp
  simp only [execOp, hx, hy, Instr.storeAt, Instr.sureAddr, storeVar]
  simp only [Nat.add_zero, List.toList_toArray] at hst
  simp [ht, hsz, hc, hst, Result.andThen]
theorem OW.storeO (ho : Blk w g e cs) (hj : off < cs.length) (hx : ev f x = .pointer (some ⟨g, off, none⟩)) (hy : ev f y = u) (h1 : u.oneCell' = true) (ht : ∀ w, (sizeOf t).run P w = .ok 1 w)
    (h : ∀ w', Blk w' g e (cs.set off u) → w.grownBy w' (some g) → k f w') : OW P N ⟨none, .store t x y, ty, pos, aft, gd⟩ Q k f w := by
  refine OW.storeU (us := [u]) ho (by simp; omega) hx hy (by rw [cells_one h1]) (by simpa using h1) ht fun w' h2 h3 => h w' ?_ h3
  rw [List.set_eq_take_append_cons_drop, if_pos hj]
  simpa using h2
/-- a whole struct into a variable of its own -/
theorem OW.storeOA (ho : Blk w g e cs) (hx : ev f x = at_ g) (hy : ev f y = agg ds) (hl : ds.length = cs.length) (h1 : ∀ v ∈ ds, v.oneCell' = true) (ht : ∀ w, (sizeOf t).run P w = .ok ds.length w)
    (h : ∀ w', Blk w' g e ds → w.grownBy w' (some g) → k f w') : OW P N ⟨none, .store t x y, ty, pos, aft, gd⟩ Q k f w :=
  OW.storeU (us := ds) ho (by omega) hx hy rfl h1 ht fun w' h2 h3 => h w' (by
    rw [Nat.zero_add, List.drop_of_length_le (by omega)] at h2
    simpa using h2) h3
/-- a whole struct into an element of an own slice -/
theorem OW.storeEl (ho : w.ownsRow B e sz v n xs) (hj : j < n) (hx : ev f x = .pointer (some ((base v).add (j * sz)))) (hy : ev f y = agg ds) (hl : ds.length = sz) (h1 : ∀ v ∈ ds, v.oneCell' = true) (ht : ∀ w, (sizeOf t).run P w = .ok sz w)
    (h : ∀ w', w'.ownsRow B e sz v n (xs.take (j * sz) ++ ds ++ xs.drop (j * sz + sz)) → w.grownBy w' v.ownBlock → k f w') : OW P N ⟨none, .store t x y, ty, pos, aft, gd⟩ Q k f w := by
  rcases ho.2 with ⟨rfl, rfl⟩ | ⟨b, cap, cur, rfl, hB, hg, hnc, hcm, hcs, htake⟩
  · omega
  have hle : j * sz + sz ≤ n * sz := by rw [← Nat.succ_mul]; exact Nat.mul_le_mul_right _ hj
  have hxl := ho.1
  have hnc' : n * sz ≤ cap * sz := Nat.mul_le_mul_right _ hnc
  have hx' : ev f x = .pointer (some ⟨b, j * sz, none⟩) := by rw [hx]; simp [base, Addr.add_lit]
  have hO : Blk w b e cur.toList := ⟨by simpa using hg⟩
  refine OW.storeU (us := ds) hO (by simp only [Array.length_toList]; omega) hx' hy rfl h1 (by rw [hl]; exact ht) fun w' h2 h3 => h w' ⟨?_, .inr ⟨b, cap, _, rfl, hB, h2.heap, hnc, hcm, ?_, ?_⟩⟩ (by simpa [Value.ownBlock] using h3)
  · simp; omega
  · simp; omega
  · rw [List.toList_toArray, hl, ← htake, List.take_append, List.take_append]
    simp only [List.take_take, List.length_take, Array.length_toList, List.length_append, hl]
    rw [Nat.min_eq_left (show j * sz ≤ cur.size by omega), Nat.min_eq_right (show j * sz ≤ n * sz by omega), Nat.min_eq_left (show j * sz ≤ n * sz by omega), List.take_of_length_le (show ds.length ≤ n * sz - j * sz by omega), List.drop_take]
/-- a call of a function value -/
def CloOk (P : Program) (v : Value) (args : List Value) (w : World) (R : Value → World → Prop) : Prop :=
  ∃ K caps, v = .func (.func K) #[] (List.toArray caps) ∧ (∀ (as : Array Value) (w : World), (callFunc K as).run P w = .ok (.enter K as) w) ∧ FnOk P K (args ++ caps) w R
theorem CloOk.mono {v : Value} {args : List Value} {R R' : Value → World → Prop} (h : CloOk P v args w R) (hr : ∀ v w', R v w' → R' v w') : CloOk P v args w R' := by
  obtain ⟨K, caps, h1, h2, h3⟩ := h
  exact ⟨K, caps, h1, h2, h3.mono hr⟩
theorem OW.callV {args : List Operand} {ats : Array TypeId} {vs : List Value} {R : Value → World → Prop} (hx : ev f x = v) (ha : evl f args = vs) (hc : CloOk P v vs w R) (h : ∀ v w'', R v w'' → k (put f d v) w'') (hd : d < N) :
    OW P N ⟨some d, .call ⟨.value x, args.toArray, ats⟩, ty, pos, aft, gd⟩ Q k f w := by
  obtain ⟨K, caps, h1, h2, h3⟩ := hc
  exact OW.enter rfl hd (X.callV (hx.trans h1) h2 ha) h3 h
end mem

/-! ### Equality of structs of numbers -/
/-- each field is a number, of one cell -/
def flatB (P : Program) (t : TypeId) (n : Nat) : Bool :=
  !P.stoodInHeld t && !P.eqGuardType P.depth t && (P.fieldsOf t).toList.all fun f => f.name != "_" && Nat.blt f.offset n && (match P.underlying f.type with | some (.int .i64) => true | _ => false)
def offs (P : Program) (t : TypeId) : List Nat := (P.fieldsOf t).toList.map (·.offset)
theorem run_eqFields_flat {P : Program} {w : World} {n : Nat} {na nb : List Int} (ha : na.length = n) (hb : nb.length = n) : ∀ (fs : List Field) (d : Nat),
    (fs.all fun f => f.name != "_" && Nat.blt f.offset n && (match P.underlying f.type with | some (.int .i64) => true | _ => false)) = true →
    (Op.eqFields (d + 1) (na.map i64).toArray (nb.map i64).toArray fs).run P w = .ok ((fs.map (·.offset)).all fun i => na.getD i 0 == nb.getD i 0) w
  | [], d, _ => by simp [Op.eqFields]
  | f :: fs, d, h => by
    simp only [List.all_cons, Bool.and_eq_true, bne_iff_ne] at h
    obtain ⟨⟨⟨h1, h2⟩, h3⟩, h4⟩ := h
    have h2 : f.offset < n := by simpa [Nat.blt_eq] using h2
    have hu : P.underlying f.type = some (.int .i64) := by
      split at h3 <;> simp_all
    have hagg : (isAgg f.type).run P w = .ok false w := by simp [isAgg, run_underlying hu]
    have ih := run_eqFields_flat (P := P) (w := w) ha hb fs d h4
    have pa : (Go.part f.type (na.map i64).toArray f.offset).run P w = .ok (i64 (na.getD f.offset 0)) w := by
      simp [Go.part, hagg, Result.andThen, List.getElem?_eq_getElem (show f.offset < na.length by omega)]
    have pb : (Go.part f.type (nb.map i64).toArray f.offset).run P w = .ok (i64 (nb.getD f.offset 0)) w := by
      simp [Go.part, hagg, Result.andThen, List.getElem?_eq_getElem (show f.offset < nb.length by omega)]
    have he := run_equalIn_int (P := P) w d f.type .i64 .i64 (na.getD f.offset 0) (nb.getD f.offset 0) hu
    simp only [Op.eqFields, if_pos h1, Sem.run_bind, pa, pb, he, Result.andThen_ok, List.map_cons, List.all_cons]
    cases hq : (na.getD f.offset 0 == nb.getD f.offset 0)
    · simp [Result.andThen]
    · simp [ih]
section eqs
variable {P : Program} {f : Fr} {w : World} {dst : Option Tmp} {ty t t' : TypeId} {pos : String} {aft : Array Edge} {x y : Operand} {gd : Option (Nat × Bool)} {n : Nat} {na nb : List Int} {b : Bool} {os : List Nat}
theorem run_equal_flat {na nb : List Int} (hf : flatB P t n = true) (hu : P.underlying t = some (.struct (P.fieldsOf t))) (ha : na.length = n) (hb : nb.length = n) :
    (Op.equalIn 10000 t (.agg (na.map i64).toArray) (.agg (nb.map i64).toArray)).run P w = .ok ((offs P t).all fun i => na.getD i 0 == nb.getD i 0) w := by
  simp only [flatB, Bool.and_eq_true, Bool.not_eq_true'] at hf
  rw [show (10000 : Nat) = 9999 + 1 from rfl, run_equalIn_struct w 9999 t _ _ hu hf.1.1]
  exact run_eqFields_flat ha hb _ 9998 hf.2
theorem X.eqlA (hf : flatB P t n = true) (hu : P.underlying t = some (.struct (P.fieldsOf t))) (ho : offs P t = os) (hx : ev f x = agg (na.map i64)) (hy : ev f y = agg (nb.map i64)) (ha : na.length = n) (hb : nb.length = n) (hr : (os.all fun i => na.getD i 0 == nb.getD i 0) = b) :
    (execOp (ev f) ⟨dst, .binOp .eql t x y t', ty, pos, aft, gd⟩).run P w = .ok (.value (.bool b)) w := by
  have h1 := hf
  simp only [flatB, Bool.and_eq_true, Bool.not_eq_true'] at h1
  subst hr ho
  simp only [execOp, hx, hy, Sem.run_bind]
  rw [run_eqGuard_agg w .eql t x y _ _ h1.1.2]
  simp only [Result.andThen_ok, run_eql_struct, run_equal_flat hf hu ha hb]
  rfl
theorem X.neqA (hf : flatB P t n = true) (hu : P.underlying t = some (.struct (P.fieldsOf t))) (ho : offs P t = os) (hx : ev f x = agg (na.map i64)) (hy : ev f y = agg (nb.map i64)) (ha : na.length = n) (hb : nb.length = n) (hr : (os.all fun i => na.getD i 0 == nb.getD i 0) = b) :
    (execOp (ev f) ⟨dst, .binOp .neq t x y t', ty, pos, aft, gd⟩).run P w = .ok (.value (.bool (!b))) w := by
  have h1 := hf
  simp only [flatB, Bool.and_eq_true, Bool.not_eq_true'] at h1
  subst hr ho
  simp only [execOp, hx, hy, Sem.run_bind]
  rw [run_eqGuard_agg w .neq t x y _ _ h1.1.2]
  simp only [Result.andThen_ok, run_neq_struct, run_equal_flat hf hu ha hb]
  rfl
/-- all numbers alike -/
theorem all_eq : ∀ {n : Nat} {na nb : List Int}, na.length = n → nb.length = n → ((List.range n).all fun i => na.getD i 0 == nb.getD i 0) = decide (na = nb) := by
  intro n na nb ha hb
  by_cases h : na = nb
  · subst h; simp
  · rw [decide_eq_false h, Bool.eq_false_iff]
    intro e
    apply h
    rw [List.all_eq_true] at e
    apply List.ext_getElem (by omega)
    intro i h1 h2
    have := e i (by simp; omega)
    simpa [List.getD_eq_getElem?_getD, h1, h2] using this
end eqs
end Go.Proofs.Ytobjmehppmhkdaa.Kf
