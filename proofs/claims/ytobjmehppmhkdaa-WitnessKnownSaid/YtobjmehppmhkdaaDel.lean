/- Rules for slices.Delete, arrays and binary search. -/
import Derived.Test.YtobjmehppmhkdaaChg
import Derived.Laws.StructEq
import Derived.Stop.BytesEq
namespace Go.Proofs.Ytobjmehppmhkdaa.Kf
open Go Go.RowKit

/-- the same row, k elements of it -/
def rel (v : Value) (k : Nat) : Value :=
  match v with
  | .slice a _ c => .slice a k c
  | v => v
theorem own_shape {w : World} {B sz n : Nat} {e : TypeId} {v : Value} {xs : List Value} (h : w.ownsRow B e sz v n xs) (hn : 0 < n) : ∃ g cap, v = .slice (some ⟨g, 0, none⟩) n cap ∧ n ≤ cap := by
  rcases h.2 with ⟨_, rfl⟩ | ⟨g, cap, cur, rfl, _, _, h1, _⟩
  · omega
  · exact ⟨g, cap, rfl, h1⟩
theorem part_rel {g n cap k sz : Nat} : part (.slice (some ⟨g, 0, none⟩) n cap) 0 k sz = rel (.slice (some ⟨g, 0, none⟩) n cap) k := by
  simp only [part, rel, sliced, Nat.sub_zero, Nat.zero_mul]
  by_cases hc : cap = 0
  · rw [if_pos hc]
  · rw [if_neg hc]; simp [Addr.add_lit]
theorem rel_block {v : Value} {k : Nat} : (rel v k).ownBlock = v.ownBlock := by
  cases v <;> first | rfl | (rename_i a b c; cases a <;> rfl)
theorem rel_cap {v : Value} {k : Nat} : capOf (rel v k) = capOf v := by cases v <;> rfl
def slc (v : Value) (a b c sz : Nat) : Value :=
  match v with
  | .slice p _ _ => sliced p a b c sz
  | v => v

section
variable {P : Program} {N : Nat} {Q : Post} {f : Fr} {w w0 : World} {k : Fr → World → Prop} {d : Nat} {ty t e : TypeId} {pos : String} {aft : Array Edge} {gd : Option (Nat × Bool)} {x y lo hi mx : Operand} {u v z : Value} {n m i sz B a b c : Nat} {xs news cs : List Value} {dst : Option Tmp} {kd kd' kd2 : IntKind}
theorem OW.appendFit {it : TypeInfo} (ho : w.ownsRow B e sz v n xs) (hn : 0 < n) (hi : i ≤ n) (hx : ev f x = part v 0 i sz) (hr : Row w u m sz news) (h1 : ∀ u ∈ news, u.oneCell' = true) (hy : ev f y = u)
    (hsome : ∃ a c, u = .slice (some a) m c) (ht : P.underlying t = some (.slice e)) (hit : P.info? e = some it) (hsize : it.size = sz) (hcap : i + m ≤ capOf v)
    (h : ∀ w', w'.ownsRow B e sz (rel v (i + m)) (i + m) (xs.take (i * sz) ++ news) → w.grownBy w' v.ownBlock → k (put f d (rel v (i + m))) w') (hd : d < N) : OW P N ⟨some d, .call ⟨.builtin .append, #[x, y], #[t, t]⟩, ty, pos, aft, gd⟩ Q k f w := by
  obtain ⟨g, cap, rfl, hnc⟩ := own_shape ho hn
  obtain ⟨a, c, rfl⟩ := hsome
  have ho2 := own_take ho i hi
  rw [part_rel] at ho2 hx
  obtain ⟨w', hrun, h2, h3⟩ := run_append_fits (P := P) w B t ty e it sz ht hit hsize g i cap _ ho2 a m c news hr.len hr.cell h1 hcap
  refine OW.val rfl hd (v := .slice (some ⟨g, 0, none⟩) (i + m) cap) (w' := w') ?_ (h w' h2 h3)
  have hx' : ev f x = .slice (some ⟨g, 0, none⟩) i cap := hx
  simp [execOp, resolve, invoke, builtin, hx', hy, hrun]
theorem X.slB (hv : ∃ a c, v = .slice a n c) (hx : ev f x = v) (hy : ev f y = .int kd (a : Int)) (hz : ev f lo = .int kd' (b : Int)) (h1 : a ≤ b) (h2 : b ≤ capOf v) (ht : P.underlying t = some (.slice e)) (hs : ∀ w, (sizeOf e).run P w = .ok sz w) :
    (execOp (ev f) ⟨dst, .slice t x (some y) (some lo) none, ty, pos, aft, gd⟩).run P w = .ok (.value (part v a b sz)) w := by
  obtain ⟨p, c, rfl⟩ := hv
  have he : P.elem t = e := by simp [Program.elem, ht]
  have ht' : P.underlying t = some (.slice (P.elem t)) := by rw [he]; exact ht
  have h2' : b ≤ c := h2
  simp only [execOp, hx, hy, hz, Option.map_some, Option.map_none]
  simp [run_sliceAt_slice w t _ _ _ _ ht', run_slice_lh w t p n c ht' kd kd' a b (by omega) (by omega) (by omega), he, hs, Result.andThen, part]
theorem X.slM3 (h : Row w0 v n sz cs) (hx : ev f x = v) (hy : ev f lo = .int kd (a : Int)) (hz : ev f hi = .int kd' (b : Int)) (hm : ev f mx = .int kd2 (c : Int)) (h1 : a ≤ b) (h2 : b ≤ c) (h3 : c ≤ n) (ht : P.underlying t = some (.slice e)) (hs : ∀ w, (sizeOf e).run P w = .ok sz w) :
    (execOp (ev f) ⟨dst, .slice t x (some lo) (some hi) (some mx), ty, pos, aft, gd⟩).run P w = .ok (.value (slc v a b c sz)) w := by
  obtain ⟨p, q, rfl, hc, _⟩ := h.shape
  have he : P.elem t = e := by simp [Program.elem, ht]
  have ht' : P.underlying t = some (.slice (P.elem t)) := by rw [he]; exact ht
  simp only [execOp, hx, hy, hz, hm, Option.map_some]
  simp [run_sliceAt_slice w t _ _ _ _ ht', run_slice_lhm w t p n q ht' kd kd' kd2 a b c (by omega) (by omega) (by omega) (by omega), he, hs, Result.andThen, slc]
theorem OW.val0 {o : Oper} {w' : World} {r : Value} (hd : o.dst = none) (hr : (execOp (ev f) o).run P w = .ok (.value r) w') (h : k f w') : OW P N o Q k f w := by
  intro a hs hf
  subst hf
  unfold Oper.wp
  rw [eval_eq, hr]
  simp only [Oper.upon, hd]
  exact ⟨hs, h⟩
theorem zeroCells_one {zc : Array Value} {q : Nat} (h : ∀ u ∈ zc.toList, u.oneCell' = true) (hp : 0 < zc.size) : ∀ u ∈ (Builtin.zeroCells zc q).toList, u.oneCell' = true := by
  intro u hu
  obtain ⟨j, hj, rfl⟩ := List.getElem_of_mem hu
  simp only [Builtin.zeroCells, Array.toList_map, List.getElem_map, Array.toList_range, List.getElem_range]
  have hm : j % zc.size < zc.size := Nat.mod_lt _ hp
  rw [getElem!_pos zc (j % zc.size) hm]
  exact h _ (by simp)
theorem OW.clearT {z : Value} (ho : w.ownsRow B e sz v n xs) (hn : 0 < capOf v) (hx : ev f x = part v n m sz) (h1 : n < m) (h2 : m ≤ capOf v) (ht : P.underlying t = some (.slice e)) (hz : ∀ w, (zeroValue e).run P w = .ok z w) (hzs : z.cells.size = sz) (hz1 : ∀ u ∈ z.cells.toList, u.oneCell' = true) (hsz : 0 < sz)
    (h : ∀ w', w'.ownsRow B e sz v n xs → w.grownBy w' v.ownBlock → k f w') : OW P N ⟨none, .call ⟨.builtin .clear, #[x], #[t]⟩, ty, pos, aft, gd⟩ Q k f w := by
  rcases ho.2 with ⟨rfl, rfl⟩ | ⟨g, cap, cur, rfl, hB, hg, hnc, hcm, hcs, htake⟩
  · simp [capOf] at hn
  have h2' : m ≤ cap := h2
  have hpv : part (.slice (some ⟨g, 0, none⟩) n cap) n m sz = .slice (some ⟨g, n * sz, none⟩) (m - n) (cap - n) := by
    simp only [part, sliced]
    rw [if_neg (by omega)]
    simp [Addr.add_lit]
  have hl : ((Builtin.zeroCells z.cells (m - n)).toList).length = (m - n) * sz := by rw [Array.length_toList, size_zeroCells, hzs]
  have hle : n * sz + (m - n) * sz ≤ cur.size := by rw [hcs, ← Nat.add_mul]; exact Nat.mul_le_mul_right _ (by omega)
  have hst := run_storeCells_at P g (n * sz) e _ 0 cur w hg (by rw [hl]; omega) (zeroCells_one (q := m - n) hz1 (by omega))
  simp only [Nat.add_zero] at hst
  refine OW.val0 rfl (r := .tuple #[]) (w' := w.setRow g (cur.toList.take (n * sz) ++ (Builtin.zeroCells z.cells (m - n)).toList ++ cur.toList.drop (n * sz + ((Builtin.zeroCells z.cells (m - n)).toList).length)).toArray) ?_ (h _ ⟨ho.1, .inr ⟨g, cap, _, rfl, hB, setRow_heap w g cur _ e _ hg, hnc, hcm, ?_, ?_⟩⟩ (by simpa [Value.ownBlock] using grown_setRow))
  · obtain ⟨q, hq⟩ : ∃ q, m - n = q + 1 := ⟨m - n - 1, by omega⟩
    rw [hpv, hq] at hx
    rw [hq] at hst
    simp [execOp, resolve, invoke, builtin, hx, Builtin.clear_, run_underlying ht, hz, hst, Result.andThen, hq]
  · simp only [List.size_toArray, List.length_append, List.length_take, List.length_drop, Array.length_toList, hl] at *
    omega
  · rw [List.toList_toArray, List.append_assoc, List.take_append_of_le_length (by simp; omega), List.take_take, Nat.min_self, htake]
/-- the cells of bytes that lie in an array -/
theorem X.eqlBy {la lb : List UInt8} (hm : P.eqGuardType P.depth t = false) (ht : P.underlying t = some (.array n e)) (he : P.underlying e = some (.int .u8)) (hsz : ∀ w, (sizeOf e).run P w = .ok 1 w) (hx : ev f x = agg (la.map u8)) (hy : ev f y = agg (lb.map u8)) (ha : la.length = n) (hb : lb.length = n) {t' : TypeId} :
    (execOp (ev f) ⟨dst, .binOp .eql t x y t', ty, pos, aft, gd⟩).run P w = .ok (.value (.bool (decide (la = lb)))) w := by
  have hc : Extern.Stop.cell = u8 := rfl
  have h2 := run_eql_bytes (P := P) w t e n ht he hsz la lb ha hb
  rw [hc] at h2
  simp only [execOp, hx, hy, Sem.run_bind]
  rw [run_eqGuard_agg w .eql t x y _ _ hm]
  simp only [Result.andThen_ok, h2, Sem.run_bind, Sem.run_pure]
  congr 3
  rw [Bool.eq_iff_iff]; simp
theorem X.arrPtr (h : Row w0 v n sz cs) (hx : ev f x = v) (ht : P.underlying t = some (.array m e)) (hm : m ≤ n) (h0 : 0 < n) : (execOp (ev f) ⟨dst, .sliceToArrayPointer t x, ty, pos, aft, gd⟩).run P w = .ok (.value (.pointer (some (base v)))) w := by
  obtain ⟨a, c, rfl, _, _, ha⟩ := h.shape
  obtain ⟨b, o, rfl⟩ := ha h0
  have : ¬ n < m := by omega
  simp [execOp, hx, Instr.arrayAt, run_underlying ht, this, base]
theorem X.loadArr (h : Row w0 v n 1 cs) (hE : Ext w0 w) (hx : ev f x = .pointer (some (base v))) (hm : m ≤ n) (ht : ∀ w, (isAgg t).run P w = .ok true w) (hs : ∀ w, (sizeOf t).run P w = .ok m w) :
    (execOp (ev f) ⟨dst, .load t x, ty, pos, aft, gd⟩).run P w = .ok (.value (agg (cs.take m))) w := by
  have hl := h.len
  refine X.loadA hx (fun j u hj => ?_) (by simp; omega) ht hs
  rw [List.getElem?_take] at hj
  split at hj
  · exact (h.ext hE).cell j u hj
  · cases hj
theorem X.buildArr0 (ht : P.underlying t = some (.array m e)) (hz : ∀ w, (zeroValue t).run P w = .ok (agg cs) w) (hsz : ∀ w, (sizeOf e).run P w = .ok sz w) : (execOp (ev f) ⟨dst, .build t #[], ty, pos, aft, gd⟩).run P w = .ok (.value (agg cs)) w := by
  simp [execOp, Instr.build, hz, run_underlying ht, hsz, Instr.fill, Value.cells, Result.andThen]
end
theorem grown_of {a b c : World} {r : Option Nat} (h : Ext a b) (k : b.grownBy c r) : a.grownBy c r :=
  ⟨k.os.trans h.os, k.tape.trans h.tape, k.output.trans h.output, Nat.le_trans h.size k.size, fun i hi hn => (k.block i (Nat.lt_of_lt_of_le hi h.size) hn).trans (h.block i hi (by simp))⟩
theorem grown_tr {a b c : World} {r : Option Nat} (h : a.grownBy b r) (k : b.grownBy c r) : a.grownBy c r :=
  ⟨k.os.trans h.os, k.tape.trans h.tape, k.output.trans h.output, Nat.le_trans h.size k.size, fun i hi hn => (k.block i (Nat.lt_of_lt_of_le hi h.size) hn).trans (h.block i hi hn)⟩
theorem own_sl {w : World} {B sz n : Nat} {e : TypeId} {v : Value} {xs : List Value} (h : w.ownsRow B e sz v n xs) : ∃ a c, v = .slice a n c := by
  rcases h.2 with ⟨rfl, rfl⟩ | ⟨g, cap, cur, rfl, _⟩
  · exact ⟨_, _, rfl⟩
  · exact ⟨_, _, rfl⟩
theorem part_some {w : World} {B sz n a b : Nat} {e : TypeId} {v : Value} {xs : List Value} (h : w.ownsRow B e sz v n xs) (hn : 0 < n) : ∃ p c, part v a b sz = .slice (some p) (b - a) c := by
  obtain ⟨g, cap, rfl, _⟩ := own_shape h hn
  simp only [part, sliced]
  by_cases hc : cap = a
  · rw [if_pos hc]; exact ⟨_, _, rfl⟩
  · rw [if_neg hc]; exact ⟨_, _, rfl⟩
theorem half_u64 {i j : Nat} : ((i : Int) + (j : Int)).fdiv (2 ^ (min (1 : Int).toNat IntKind.u64.bits)) = (((i + j) / 2 : Nat) : Int) := by
  show ((i : Int) + (j : Int)).fdiv 2 = _
  rw [Int.fdiv_eq_ediv_of_nonneg _ (by omega)]
  omega
end Go.Proofs.Ytobjmehppmhkdaa.Kf
