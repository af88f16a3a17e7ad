/- Variables of struct types, lists of numbers, slices with a given room. -/
import Derived.Test.YtobjmehppmhkdaaKf
namespace Go.Proofs.Ytobjmehppmhkdaa.Kf
open Go Go.RowKit

/-! ### A variable of the call's own, behind a pointer -/
/-- the variable behind a pointer, as a row of one element -/
def asRow : Value → Value
  | .pointer (some a) => .slice (some a) 1 1
  | v => v
structure Var (w : World) (B : Nat) (e : TypeId) (sz : Nat) (p : Value) (cs : List Value) : Prop where
  ptr : ∃ g, p = .pointer (some ⟨g, 0, none⟩)
  row : w.ownsRow B e sz (asRow p) 1 cs

section var
variable {w w' : World} {B : Nat} {e : TypeId} {sz : Nat} {p : Value} {cs : List Value} {row : Option Nat}
theorem Var.ext (h : Var w B e sz p cs) (g : Ext w w') : Var w' B e sz p cs := ⟨h.ptr, own_ext h.row g⟩
theorem Var.kept (h : Var w B e sz p cs) (g : w.grownBy w' row) (hne : (asRow p).ownBlock = none ∨ (asRow p).ownBlock ≠ row) : Var w' B e sz p cs := ⟨h.ptr, h.row.kept g hne⟩
theorem Var.cell (h : Var w B e sz p cs) {i : Nat} {u : Value} (hu : cs[i]? = some u) : w.cell? ((base (asRow p)).add i) = some u := (Row.of_own h.row).cell i u hu
theorem Var.len (h : Var w B e sz p cs) : cs.length = sz := by have := h.row.1; omega
theorem Var.mono {B' : Nat} (h : Var w B' e sz p cs) (hB : B ≤ B') : Var w B e sz p cs := ⟨h.ptr, own_mono h.row hB⟩
end var
/-- a write and a write of the same row -/
theorem grown2 {a b c : World} {r : Option Nat} (h : a.grownBy b r) (k : b.grownBy c r) : a.grownBy c r :=
  ⟨k.os.trans h.os, k.tape.trans h.tape, k.output.trans h.output, Nat.le_trans h.size k.size, fun i hi hn => (k.block i (Nat.lt_of_lt_of_le hi h.size) hn).trans (h.block i hi hn)⟩
theorem grown_ext {a b c : World} {r : Option Nat} (h : a.grownBy b r) (k : Ext b c) : a.grownBy c r := grown2 h ⟨k.os, k.tape, k.output, k.size, fun i hi _ => k.block i hi (by simp)⟩
theorem ext_grown {a b c : World} {r : Option Nat} (h : Ext a b) (k : b.grownBy c r) : a.grownBy c r := grown2 ⟨h.os, h.tape, h.output, h.size, fun i hi _ => h.block i hi (by simp)⟩ k
theorem grown_of_ext {a b : World} {r : Option Nat} (h : Ext a b) : a.grownBy b r := ⟨h.os, h.tape, h.output, h.size, fun i hi _ => h.block i hi (by simp)⟩

theorem Row.one {w : World} {v : Value} {n sz : Nat} {cs : List Value} (h : Row w v n sz cs) : v.oneCell' = true := by
  obtain ⟨a, c, rfl, _⟩ := h.shape; rfl

theorem Row.nilLen {w : World} {v : Value} {n sz : Nat} {cs : List Value} (h : Row w v n sz cs) (hv : v = .slice none n 0 ∨ ∀ a b c, v ≠ .slice (some a) b c) : n = 0 := by
  obtain ⟨a, c, rfl, _, _, h4⟩ := h.shape
  cases n with
  | zero => rfl
  | succ n =>
    obtain ⟨b, o, rfl⟩ := h4 (by omega)
    rcases hv with hv | hv
    · cases hv
    · exact absurd rfl (hv _ _ _)

namespace X
variable {P : Program} {f : Fr} {w w0 : World} {dst : Option Tmp} {ty t t' e s : TypeId} {pos : String} {aft : Array Edge} {g : Option (Nat × Bool)} {x y z : Operand} {v u p : Value} {n m sz k B off : Nat} {cs : List Value} {kd kd' : IntKind}

theorem nilCheck {a : Addr} (hx : ev f x = .pointer (some a)) : (execOp (ev f) ⟨dst, .nilCheck x, ty, pos, aft, g⟩).run P w = .ok (.value (.pointer (some a))) w := by
  simp [execOp, hx]
theorem nilCheckV (h : Var w0 B e sz p cs) (hx : ev f x = p) : (execOp (ev f) ⟨dst, .nilCheck x, ty, pos, aft, g⟩).run P w = .ok (.value p) w := by
  obtain ⟨b, rfl⟩ := h.ptr
  exact nilCheck hx
theorem fieldAddr {fs : Array Field} {fl : Field} {i : Nat} (h : Var w0 B e sz p cs) (hx : ev f x = p) (hs : P.underlying s = some (.struct fs)) (hf : fs[i]? = some fl) (ho : fl.offset = off) (hz : ∀ w, (sizeOf fl.type).run P w = .ok (k + 1) w) :
    (execOp (ev f) ⟨dst, .fieldAddr s x i, ty, pos, aft, g⟩).run P w = .ok (.value (.pointer (some ((base (asRow p)).add off)))) w := by
  obtain ⟨b, rfl⟩ := h.ptr
  subst ho
  simp [execOp, hx, Instr.fieldAt, Instr.sureAddr, run_underlying hs, hf, fieldPlace, hz, asRow, base]
theorem loadF (h : Var w0 B e sz p cs) (hE : Ext w0 w) (hx : ev f x = .pointer (some ((base (asRow p)).add off))) (hu : cs[off]? = some u) (ht : ∀ w, (isAgg t).run P w = .ok false w) :
    (execOp (ev f) ⟨dst, .load t x, ty, pos, aft, g⟩).run P w = .ok (.value u) w := X.load hx ((h.ext hE).cell hu) ht
theorem run_equal_ptr_nil {a : Addr} (ht : P.underlying t = some (.pointer e)) : (Op.equal t (.pointer (some a)) (.pointer none)).run P w = .ok false w := by
  unfold Op.equal
  rw [show Op.maxDepth = 9999 + 1 from rfl, Op.equalIn]
  simp only [Sem.run_bind, run_underlying ht, Result.andThen]
  rfl
/-- is a pointer nil? -/
theorem neqNil (h : Var w0 B e sz p cs) (hx : ev f x = p) (hy : ev f y = .pointer none) (ht : P.underlying t = some (.pointer e)) : (execOp (ev f) ⟨dst, .binOp .neq t x y t', ty, pos, aft, g⟩).run P w = .ok (.value (.bool true)) w := by
  obtain ⟨b, rfl⟩ := h.ptr
  simp [execOp, hx, hy, eqGuard, binOp, run_equal_ptr_nil ht]
theorem eqlNil (h : Var w0 B e sz p cs) (hx : ev f x = p) (hy : ev f y = .pointer none) (ht : P.underlying t = some (.pointer e)) : (execOp (ev f) ⟨dst, .binOp .eql t x y t', ty, pos, aft, g⟩).run P w = .ok (.value (.bool false)) w := by
  obtain ⟨b, rfl⟩ := h.ptr
  simp [execOp, hx, hy, eqGuard, binOp, run_equal_ptr_nil ht]
theorem run_equal_slice_nil' {a : Option Addr} (ht : P.underlying t = some (.slice e)) : (Op.equal t (.slice a n m) (.slice none 0 0)).run P w = .ok a.isNone w := by
  unfold Op.equal
  rw [show Op.maxDepth = 9999 + 1 from rfl, Op.equalIn]
  simp only [Sem.run_bind, run_underlying ht, Result.andThen]
  cases a <;> rfl
def _root_.Go.Proofs.Ytobjmehppmhkdaa.Kf.isNilS : Value → Bool
  | .slice none _ _ => true
  | _ => false
theorem eqlNilS (h : Row w0 v n sz cs) (hx : ev f x = v) (hy : ev f y = .slice none 0 0) (ht : P.underlying t = some (.slice e)) : (execOp (ev f) ⟨dst, .binOp .eql t x y t', ty, pos, aft, g⟩).run P w = .ok (.value (.bool (isNilS v))) w := by
  obtain ⟨a, c, rfl, _⟩ := h.shape
  simp [execOp, hx, hy, eqGuard, binOp, run_equal_slice_nil' ht, isNilS]
  cases a <;> rfl

/-- a slice up to m, with no more room -/
def _root_.Go.Proofs.Ytobjmehppmhkdaa.Kf.cutAt (v : Value) (m sz : Nat) : Value :=
  match v with
  | .slice a _ _ => sliced a 0 m m sz
  | v => v
theorem slHM (h : Row w0 v n sz cs) (hx : ev f x = v) (hz : ev f z = .int kd (m : Int)) (hy : ev f y = .int kd' (m : Int)) (h2 : m ≤ n) (ht : P.underlying t = some (.slice e)) (hs : ∀ w, (sizeOf e).run P w = .ok sz w) :
    (execOp (ev f) ⟨dst, .slice t x none (some z) (some y), ty, pos, aft, g⟩).run P w = .ok (.value (cutAt v m sz)) w := by
  obtain ⟨a, c, rfl, hc, _⟩ := h.shape
  have he : P.elem t = e := by simp [Program.elem, ht]
  have ht' : P.underlying t = some (.slice (P.elem t)) := by rw [he]; exact ht
  simp only [execOp, hx, hz, hy, Option.map_some, Option.map_none]
  simp [run_sliceAt_slice w t _ _ _ _ ht', run_slice_hm w t a n c ht' kd kd' m m (by omega) (by omega) (by omega), he, hs, Result.andThen, cutAt]
end X

theorem isNilS_len {w : World} {v : Value} {n sz : Nat} {cs : List Value} (h : Row w v n sz cs) (hv : isNilS v = true) : n = 0 := by
  refine h.nilLen (.inr fun a b c e => ?_)
  rw [e] at hv; cases hv

/-! ### Making a struct -/
def fill1 (place : Nat → Option (Nat × Nat)) (cells : Array Value) : List (Nat × Value) → Option (Array Value)
  | [] => some cells
  | (i, v) :: rest =>
    match place i with
    | some (off, 1) => bif Nat.blt off cells.size then fill1 place (cells.setIfInBounds off v) rest else none
    | _ => none
theorem fill1_eq (place : Nat → Option (Nat × Nat)) : ∀ (parts : List (Nat × Value)) (cells out : Array Value), (∀ q ∈ parts, q.2.oneCell' = true) → fill1 place cells parts = some out → Instr.fill place cells parts = some out
  | [], cells, out, _, h => h
  | (i, v) :: rest, cells, out, h1, h => by
    unfold fill1 at h
    unfold Instr.fill
    have hv : v.cells = #[v] := cells_one (h1 (i, v) (by simp))
    cases hp : place i with
    | none => rw [hp] at h; cases h
    | some q =>
      obtain ⟨off, size⟩ := q
      rw [hp] at h
      match size, h with
      | 1, h =>
        simp only [cond_eq_ite, Nat.blt_eq] at h
        split at h
        case isFalse => cases h
        case isTrue hlt =>
          have := fill1_eq place rest _ out (fun q hq => h1 q (by simp [hq])) h
          simp only [hv]
          rw [if_neg (by simp; omega)]
          simpa using this
      | 0, h => cases h
      | (n + 2), h => cases h
def Ones : List (Nat × Value) → Prop
  | [] => True
  | q :: l => q.2.oneCell' = true ∧ Ones l
theorem Ones.all : ∀ {l : List (Nat × Value)}, Ones l → ∀ q ∈ l, q.2.oneCell' = true
  | [], _, q, h => by simp at h
  | a :: l, h, q, hq => by
    rcases List.mem_cons.1 hq with rfl | h2
    · exact h.1
    · exact h.2.all q h2
/-- a struct of parts of one cell each -/
theorem X.build {P : Program} {f : Fr} {w : World} {dst : Option Tmp} {ty t : TypeId} {pos : String} {aft : Array Edge} {g : Option (Nat × Bool)} {parts : List (Nat × Operand)} {vs : List (Nat × Value)} {it : TypeInfo} {fs : Array Field} {z : Value} {places : List (Nat × Nat)} {cells : Array Value}
    (hp : evp f parts = vs) (hi : P.info? t = some it) (hu : P.underlying t = some (.struct fs)) (hz : it.zero = some z) (hm : fs.toList.mapM (fun f => (P.info? f.type).map fun i => (f.offset, i.size)) = some places)
    (h1 : Ones vs) (hc : fill1 (places.toArray[·]?) z.cells vs = some cells) :
    (execOp (ev f) ⟨dst, .build t parts.toArray, ty, pos, aft, g⟩).run P w = .ok (.value (.agg cells)) w := by
  have hb : P.built t vs = some cells := by
    simp only [Program.built, hi, hu, hz, hm]
    exact fill1_eq _ vs z.cells cells h1.all hc
  have hr := run_build (P := P) w t vs.toArray cells hb
  have he : parts.toArray.map (fun (i, x) => (i, ev f x)) = vs.toArray := by
    rw [← hp, evp_eq]; simp
  simp only [execOp]
  rw [he]
  simp [hr]

section mem
variable {P : Program} {N : Nat} {Q : Post} {f : Fr} {w : World} {k : Fr → World → Prop} {d : Nat} {ty t e : TypeId} {pos : String} {aft : Array Edge} {g : Option (Nat × Bool)} {x y : Operand} {u v p : Value} {n m sz B off : Nat} {cs xs news : List Value}

theorem OW.box {cells : Array Value} (hx : ev f x = .agg cells) (hc : cells.size = sz) (h : ∀ p w', Var w' w.heap.size e sz p cells.toList → Ext w w' → k (put f d p) w') (hd : d < N) :
    OW P N ⟨some d, .box e x, ty, pos, aft, g⟩ Q k f w := by
  refine OW.val rfl hd (v := .pointer (some ⟨w.heap.size, 0, none⟩)) (w' := w.alloc (.cells cells e)) ?_ (h _ _ ⟨⟨_, rfl⟩, ?_⟩ (Ext.alloc _ _))
  · simp [execOp, hx, Instr.box, newVar, newRow, Value.cells]
  · exact World.ownsRow_lit w cells 1 (Nat.le_refl _) (by simp [maxLen]) (by omega)
theorem OW.storeF (ho : Var w B e sz p cs) (hj : off < sz) (hx : ev f x = .pointer (some ((base (asRow p)).add off))) (hy : ev f y = u) (h1 : u.oneCell' = true) (ht : ∀ w, (sizeOf t).run P w = .ok 1 w)
    (h : ∀ w', Var w' B e sz p (cs.set off u) → w.grownBy w' (asRow p).ownBlock → k f w') : OW P N ⟨none, .store t x y, ty, pos, aft, g⟩ Q k f w :=
  OW.storeOwn ho.row (by omega) hx hy h1 ht fun w' h2 h3 => h w' ⟨ho.ptr, h2⟩ h3
end mem

/-! ### Stretches of a row of one-cell elements -/
/-- v is D's stretch from lo to hi (an empty one may begin anywhere) -/
structure Seg (D v : Value) (lo hi : Nat) : Prop where
  le : lo ≤ hi
  shape : ∃ a c, v = .slice a (hi - lo) c ∧ hi - lo ≤ c ∧ c ≤ maxLen ∧ (lo < hi → ∃ g n cD, D = .slice (some ⟨g, 0, none⟩) n cD ∧ a = some ⟨g, lo, none⟩)
theorem Seg.row {w : World} {B : Nat} {e : TypeId} {D v : Value} {n lo hi : Nat} {xs : List Value} (h : Seg D v lo hi) (ho : w.ownsRow B e 1 D n xs) (hhi : hi ≤ n) : Row w v (hi - lo) 1 ((xs.drop lo).take (hi - lo)) := by
  have hle := h.le
  have hl := ho.1
  obtain ⟨a, c, rfl, h1, h2, h3⟩ := h.shape
  refine ⟨⟨a, c, rfl, h1, h2, fun hp => ?_⟩, by simp; omega, fun i u hu => ?_⟩
  · obtain ⟨g, _, _, _, rfl⟩ := h3 (by omega)
    exact ⟨g, lo, rfl⟩
  · rw [List.getElem?_take] at hu
    split at hu
    case isFalse => cases hu
    case isTrue hi' =>
      obtain ⟨g, n', cD, rfl, rfl⟩ := h3 (by omega)
      rw [List.getElem?_drop] at hu
      have := ho.cells (g := g) rfl _ _ hu
      simp only [base, Addr.add_lit] at this ⊢
      simpa using this
theorem Seg.addr {D v : Value} {lo hi k : Nat} (h : Seg D v lo hi) (hk : lo + k < hi) : (base v).add k = (base D).add (lo + k) := by
  obtain ⟨a, c, rfl, h1, h2, h3⟩ := h.shape
  obtain ⟨g, n', cD, rfl, rfl⟩ := h3 (by omega)
  simp [base, Addr.add_lit]
theorem Seg.self {w : World} {B : Nat} {e : TypeId} {D : Value} {n : Nat} {xs : List Value} (ho : w.ownsRow B e 1 D n xs) : Seg D D 0 n := by
  refine ⟨Nat.zero_le _, ?_⟩
  rcases ho.2 with ⟨rfl, rfl⟩ | ⟨g, cap, cur, rfl, _, _, h1, h2, _⟩
  · exact ⟨none, 0, rfl, by omega, by simp [maxLen], fun h => by omega⟩
  · exact ⟨_, cap, rfl, by omega, h2, fun _ => ⟨g, n, cap, rfl, rfl⟩⟩
theorem Seg.nil (D : Value) (lo : Nat) : Seg D (.slice none 0 0) lo lo := ⟨Nat.le_refl _, none, 0, by simp, by simp, by simp [maxLen], fun h => by omega⟩
theorem Seg.cut {D v : Value} {lo hi m : Nat} (h : Seg D v lo hi) (hm : m ≤ hi - lo) : Seg D (cutAt v m 1) lo (lo + m) := by
  obtain ⟨a, c, rfl, h1, h2, h3⟩ := h.shape
  have hle := h.le
  refine ⟨by omega, if m = 0 then a else a.map (·.add (0 * 1)), m, ?_, by omega, by omega, fun hp => ?_⟩
  · simp [cutAt, sliced]
  · obtain ⟨g, n', cD, rfl, rfl⟩ := h3 (by omega)
    exact ⟨g, n', cD, rfl, by rw [if_neg (by omega)]; simp [Addr.add_lit]⟩
theorem Seg.rest {D v : Value} {lo hi m : Nat} (h : Seg D v lo hi) (hm : m ≤ hi - lo) : Seg D (part v m (hi - lo) 1) (lo + m) hi := by
  obtain ⟨a, c, rfl, h1, h2, h3⟩ := h.shape
  have hle := h.le
  refine ⟨by omega, if c = m then a else a.map (·.add (m * 1)), c - m, ?_, by omega, by omega, fun hp => ?_⟩
  · simp only [part, sliced]; congr 1; omega
  · obtain ⟨g, n', cD, rfl, rfl⟩ := h3 (by omega)
    exact ⟨g, n', cD, rfl, by rw [if_neg (by omega)]; simp [Addr.add_lit]⟩

/-! ### Lists of numbers -/
abbrev Ints (w : World) (v : Value) (l : List Int) : Prop := Row w v l.length 1 (l.map i64)
abbrev OwnI (w : World) (B : Nat) (e : TypeId) (v : Value) (l : List Int) : Prop := w.ownsRow B e 1 v l.length (l.map i64)
/-- numbers of 64 bits -/
def In64 (l : List Int) : Prop := ∀ x ∈ l, -9223372036854775808 ≤ x ∧ x ≤ 9223372036854775807
theorem In64.at {l : List Int} (h : In64 l) {k : Nat} (hk : k < l.length) : -9223372036854775808 ≤ l.getD k 0 ∧ l.getD k 0 ≤ 9223372036854775807 := by
  rw [List.getD_eq_getElem?_getD, List.getElem?_eq_getElem hk]
  exact h _ (List.getElem_mem hk)
theorem Ints.at {w w' : World} {v : Value} {l : List Int} (h : Ints w v l) (hx : Ext w w') {k : Nat} (hk : k < l.length) : w'.cell? ((base v).add (k * 1)) = some (i64 l[k]) := by
  rw [Nat.mul_one]
  exact (Row.ext h hx).cell k _ (by simp [hk])
theorem Ints.le {w : World} {v : Value} {l : List Int} (h : Ints w v l) : l.length ≤ maxLen := by
  obtain ⟨a, c, _, h1, h2, _⟩ := h.shape; omega
theorem Ints.le64 {w : World} {v : Value} {l : List Int} (h : Ints w v l) : (l.length : Int) ≤ 9223372036854775807 := by
  have := h.le; unfold maxLen at this; omega
theorem ints_one (l : List Int) : ∀ u ∈ l.map i64, u.oneCell' = true := by
  intro u hu
  obtain ⟨x, _, rfl⟩ := List.mem_map.1 hu
  rfl
theorem Ints.part {w : World} {v : Value} {l : List Int} (h : Ints w v l) (lo hi : Nat) (h1 : lo ≤ hi) (h2 : hi ≤ l.length) : Ints w (Kf.part v lo hi 1) ((l.drop lo).take (hi - lo)) := by
  have := Row.part h lo hi h1 h2
  have e : ((l.drop lo).take (hi - lo)).length = hi - lo := by simp; omega
  unfold Ints
  rw [e, List.map_take, List.map_drop]
  simpa using this
theorem Ints.of_own {w : World} {B : Nat} {e : TypeId} {v : Value} {l : List Int} (h : OwnI w B e v l) : Ints w v l := Row.of_own h
theorem OwnI.nil (w : World) (B : Nat) (e : TypeId) : OwnI w B e (.slice none 0 0) [] := World.ownsRow_nil w B e 1
theorem OwnI.ext {w w' : World} {B : Nat} {e : TypeId} {v : Value} {l : List Int} (h : OwnI w B e v l) (g : Ext w w') : OwnI w' B e v l := own_ext h g
theorem Ints.nil (w : World) : Ints w (.slice none 0 0) [] := Row.nil w 1
theorem takeI (l : List Int) (k : Nat) (h : k < l.length) : l.take (k + 1) = l.take k ++ [l.getD k 0] := by
  rw [List.take_succ_eq_append_getElem h]; simp [h]
section ints
variable {P : Program} {N : Nat} {Q : Post} {f : Fr} {w : World} {k : Fr → World → Prop} {d : Nat} {ty t e : TypeId} {pos : String} {aft : Array Edge} {g : Option (Nat × Bool)} {x y : Operand} {u v : Value} {n B j : Nat} {l m : List Int} {c : Int}
theorem OW.storeI (ho : OwnI w B e v l) (hj : j < l.length) (hx : ev f x = .pointer (some ((base v).add (j * 1)))) (hy : ev f y = i64 c) (ht : ∀ w, (sizeOf t).run P w = .ok 1 w)
    (h : ∀ w', OwnI w' B e v (l.set j c) → w.grownBy w' v.ownBlock → k f w') : OW P N ⟨none, .store t x y, ty, pos, aft, g⟩ Q k f w :=
  OW.storeOwn (j := j) ho (by simpa using hj) (by rw [hx, Nat.mul_one]) hy rfl ht fun w' h1 h2 => h w' (by simpa [OwnI, List.map_set] using h1) h2
theorem OW.appendI {i : TypeInfo} {z : Value} (ho : OwnI w B e v l) (hr : Ints w u m) (hx : ev f x = v) (hy : ev f y = u)
    (ht : P.underlying t = some (.slice e)) (hi : P.info? e = some i) (hz : i.zero = some z) (hsize : i.size = 1) (hby : i.bytes = 8) (hzs : z.cells.size = 1)
    (hb : l.length + m.length ≤ 17592186044416) (hB : B ≤ w.heap.size)
    (h : ∀ v' w', OwnI w' B e v' (l ++ m) → w.grownBy w' v.ownBlock → Moved w v v' → k (put f d v') w') (hd : d < N) : OW P N ⟨some d, .call ⟨.builtin .append, #[x, y], #[t, t]⟩, ty, pos, aft, g⟩ Q k f w :=
  OW.append ho hr (ints_one m) hx hy ht hi hz hsize hby hzs (by decide) (by unfold maxLen; omega) (by omega) hB (fun v' w' h1 h2 h3 => h v' w' (by simpa [OwnI] using h1) h2 h3) hd
theorem OW.makeI {i : TypeInfo} {kl kc : IntKind} (hx : ev f x = .int kl (n : Int)) (hy : ev f y = .int kc (n : Int)) (ht : P.underlying t = some (.slice e)) (hi : P.info? e = some i) (hz : i.zero = some (i64 0)) (hsize : i.size = 1) (hby : i.bytes = 8)
    (hb : n ≤ 35184372088832) (h : ∀ v w', OwnI w' w.heap.size e v (List.replicate n 0) → Ext w w' → k (put f d v) w') (hd : d < N) : OW P N ⟨some d, .makeSlice t x y, ty, pos, aft, g⟩ Q k f w :=
  OW.make hx hy ht hi hz hsize (by rw [hby]; omega) (by unfold maxLen; omega) (fun v w' h1 h2 => h v w' (by
    have e : (madeCells (i64 0).cells (n * 1)).toList = (List.replicate n (0 : Int)).map i64 := by
      rw [Nat.mul_one, show (i64 0).cells = #[i64 0] from rfl, toList_madeCells_one, List.map_replicate]
    rw [e] at h1
    simpa [OwnI] using h1) h2) hd
end ints
theorem X.loadI {P : Program} {f : Fr} {w w0 : World} {dst : Option Tmp} {ty t : TypeId} {pos : String} {aft : Array Edge} {g : Option (Nat × Bool)} {x : Operand} {v : Value} {k : Nat} {l : List Int}
    (h : Ints w0 v l) (hE : Ext w0 w) (hx : ev f x = .pointer (some ((base v).add (k * 1)))) (hk : k < l.length) (ht : ∀ w, (isAgg t).run P w = .ok false w) :
    (execOp (ev f) ⟨dst, .load t x, ty, pos, aft, g⟩).run P w = .ok (.value (i64 (l.getD k 0))) w := X.load hx (by rw [h.at hE hk]; simp [hk]) ht
end Go.Proofs.Ytobjmehppmhkdaa.Kf
