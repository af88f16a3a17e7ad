/- For the walk of turned: a field of an element, an append onto a cut slice, events set. -/
import Derived.Test.YtobjmehppmhkdaaKnD
import Derived.Test.YtobjmehppmhkdaaDel
namespace Go.Proofs.Ytobjmehppmhkdaa
open Go Go.RowKit Kf
set_option maxRecDepth 20000
section
variable {P : Program} {N : Nat} {Q : Post} {f : Fr} {w : World} {k : Fr → World → Prop} {d : Nat} {ty t e : TypeId} {pos : String} {aft : Array Edge} {g : Option (Nat × Bool)} {x y : Operand} {u v : Value} {n m sz B i off : Nat} {xs news : List Value}
/-- a field of an element of an own row -/
theorem OW.storeIF (ho : w.ownsRow B e sz v n xs) (hi : i < n) (hoff : off < sz) (hx : ev f x = .pointer (some (((base v).add (i * sz)).add off))) (hy : ev f y = u) (h1 : u.oneCell' = true) (ht : ∀ w, (sizeOf t).run P w = .ok 1 w)
    (h : ∀ w', w'.ownsRow B e sz v n (xs.set (i * sz + off) u) → w.grownBy w' v.ownBlock → k f w') : OW P N ⟨none, .store t x y, ty, pos, aft, g⟩ Q k f w := by
  obtain ⟨b, cap, rfl, _⟩ := own_shape ho (by omega)
  have hj : i * sz + off < n * sz := by
    have : (i + 1) * sz ≤ n * sz := Nat.mul_le_mul_right _ hi
    rw [Nat.add_mul] at this; omega
  refine OW.storeOwn (j := i * sz + off) ho hj ?_ hy h1 ht h
  rw [hx]
  show _ = Value.pointer (some ((⟨b, 0, none⟩ : Addr).add (i * sz + off)))
  rw [show base (.slice (some ⟨b, 0, none⟩) n cap) = ⟨b, 0, none⟩ from rfl, Kf.Addr.add_add]
/-- 'append' onto a part of a row that has no more room -/
theorem OW.appendCut {it : TypeInfo} {z : Value} {bytes : Nat} (ho : w.ownsRow B e sz v n xs) (hn : 0 < n) (hi : i ≤ n) (hr : Row w u m sz news) (hx : ev f x = cutAt v i sz) (hy : ev f y = u)
    (ht : P.underlying t = some (.slice e)) (hit : P.info? e = some it) (hz : it.zero = some z) (hsize : it.size = sz) (hby : it.bytes = bytes) (hzs : z.cells.size = sz) (hsz : 0 < sz)
    (h63 : i + m ≤ maxLen) (hbytes : (i + m) * bytes ≤ 140737488355328)
    (h : ∀ v' w', Row w' v' (i + m) sz (xs.take (i * sz) ++ news) → Ext w w' → k (put f d v') w') (hd : d < N) : OW P N ⟨some d, .call ⟨.builtin .append, #[x, y], #[t, t]⟩, ty, pos, aft, g⟩ Q k f w := by
  have hpart := Row.part (Row.of_own ho) 0 i (Nat.zero_le _) hi
  obtain ⟨b, cap, rfl, hnc⟩ := own_shape ho hn
  have hcut : cutAt (.slice (some ⟨b, 0, none⟩) n cap) i sz = .slice (some ⟨b, 0, none⟩) i i := by
    show Value.slice (if i = 0 then some ⟨b, 0, none⟩ else Option.map (fun x => x.add (0 * sz)) (some (⟨b, 0, none⟩ : Addr))) (i - 0) (i - 0) = _
    by_cases h0 : i = 0
    · rw [if_pos h0]; subst h0; rfl
    · rw [if_neg h0]; simp [Addr.add_lit]
  rw [hcut] at hx
  have hl : (xs.take (i * sz)).length = i * sz := by
    have := ho.1
    have : i * sz ≤ n * sz := Nat.mul_le_mul_right _ hi
    rw [List.length_take]; omega
  have hold : ∀ j u', (xs.take (i * sz))[j]? = some u' → w.cell? ((⟨b, 0, none⟩ : Addr).add j) = some u' := fun j u' hj => by
    have hj2 : xs[j]? = some u' := by
      rw [List.getElem?_take] at hj
      split at hj
      · exact hj
      · cases hj
    exact ho.cells rfl j u' hj2
  obtain ⟨a, c, rfl, hmc, _, ha⟩ := hr.shape
  cases m with
  | zero =>
    have hn0 : news = [] := List.eq_nil_of_length_eq_zero (by rw [hr.len]; simp)
    subst hn0
    have hrun : (Builtin.append_ #[t, t] ty #[.slice (some ⟨b, 0, none⟩) i i, .slice a 0 c]).run P w = .ok (.slice (some ⟨b, 0, none⟩) i i) w := by
      cases a with
      | none => simp [Builtin.append_, run_underlying ht, sizeOf, typeInfo, hit, Builtin.lenOf, Builtin.firstCells, storeCells]
      | some a => simp [Builtin.append_, run_underlying ht, sizeOf, typeInfo, hit, Builtin.lenOf, Builtin.firstCells, storeCells, loadCells, loadCellsFrom]
    refine OW.val rfl hd (v := .slice (some ⟨b, 0, none⟩) i i) (w' := w) ?_ (h _ w ⟨⟨_, _, rfl, Nat.le_refl _, by omega, fun _ => ⟨b, 0, rfl⟩⟩, by rw [List.append_nil]; exact hl, fun j u' hj => hold j u' (by rwa [List.append_nil] at hj)⟩ (Ext.refl _))
    simp [execOp, resolve, invoke, builtin, hx, hy, hrun]
  | succ m =>
    obtain ⟨b2, o2, rfl⟩ := ha (by omega)
    obtain ⟨v', w', hrun, h2, h3⟩ := run_append_arg_grows (P := P) w t ty e it z sz bytes ht hit hz hsize hby hzs hsz ⟨b, 0, none⟩ i i (xs.take (i * sz)) hl hold ⟨b2, o2, none⟩ (m + 1) c news hr.len hr.cell (by omega) h63 hbytes
    refine OW.val rfl hd (v := v') (w' := w') ?_ (h v' w' (Row.of_own h2) h3)
    simp [execOp, resolve, invoke, builtin, hx, hy, hrun]
end
section
variable {w w' : World} {D B : Nat} {v v' : Value} {E F : List EvV} {k off : Nat} {u : Value}
theorem flat_setf {e : EvV} (hk : k < E.length) (ho : off < 19) (h : (EvV.c E[k]).set off u = EvV.c e) : (E.flatMap EvV.c).set (k * 19 + off) u = (E.set k e).flatMap EvV.c := by
  rw [← flat_set EvV.c_len hk, ← h]
  have hl : (E.flatMap EvV.c).length = E.length * 19 := flat_len EvV.c_len E
  have hk19 : k * 19 + 19 ≤ E.length * 19 := by omega
  have e1 : (E.flatMap EvV.c) = (E.flatMap EvV.c).take (k * 19) ++ EvV.c E[k] ++ (E.flatMap EvV.c).drop (k * 19 + 19) := by
    rw [flat_set EvV.c_len hk]; simp
  conv => lhs; rw [e1]
  have ht : ((E.flatMap EvV.c).take (k * 19)).length = k * 19 := by rw [List.length_take]; omega
  rw [List.append_assoc, List.set_append_right _ _ (by rw [ht]; omega), ht, show k * 19 + off - k * 19 = off by omega, List.set_append_left _ _ (by rw [EvV.c_len]; exact ho), List.append_assoc]
theorem EvO.set {e : EvV} (h : EvO w D B v E) (hk : k < E.length) (hc : OwnB w D 5 e.2.1 e.1.Call.Data) (ha : OwnB w D 5 e.2.2 e.1.Answer.Data) (oc : Apart e.2.1 v) (oa : Apart e.2.2 v)
    (hr : w'.ownsRow B 42 19 v E.length ((E.set k e).flatMap EvV.c)) (g : w.grownBy w' v.ownBlock) : EvO w' D B v (E.set k e) := by
  have all : ∀ x ∈ E.set k e, OwnB w D 5 x.2.1 x.1.Call.Data ∧ OwnB w D 5 x.2.2 x.1.Answer.Data ∧ Apart x.2.1 v ∧ Apart x.2.2 v := fun x hx => by
    rcases List.mem_or_eq_of_mem_set hx with q | rfl
    · exact ⟨h.dc x q, h.da x q, h.offc x q, h.offa x q⟩
    · exact ⟨hc, ha, oc, oa⟩
  refine ⟨by rw [List.length_set]; exact hr, fun x hx => ?_, fun x hx => ?_, fun x hx => (all x hx).2.2.1, fun x hx => (all x hx).2.2.2⟩
  · exact (all x hx).1.kept g (all x hx).2.2.1.ne
  · exact (all x hx).2.1.kept g (all x hx).2.2.2.ne
/-- a row of some of its events -/
theorem EvO.mix (h : EvO w D B v E) (hr : Row w v' F.length 19 (F.flatMap EvV.c)) (hF : ∀ e ∈ F, e ∈ E) : Evs w v' (F.map Prod.fst) := by
  refine ⟨F.flatMap EvV.c, by rw [List.length_map]; exact hr, fun k hk => ?_⟩
  have hk' : k < F.length := by simpa using hk
  have e : el (F.flatMap EvV.c) 19 k = EvV.c F[k] := flat_el EvV.c_len hk'
  rw [e, List.getElem_map]
  exact ⟨_, _, rfl, Bytes.of_own (h.dc _ (hF _ (List.getElem_mem hk'))), Bytes.of_own (h.da _ (hF _ (List.getElem_mem hk')))⟩
theorem EvO.mix2 {B2 : Nat} {v2 : Value} {E2 : List EvV} (h : EvO w D B v E) (h2 : EvO w D B2 v2 E2) (hr : Row w v' F.length 19 (F.flatMap EvV.c)) (hF : ∀ e ∈ F, e ∈ E ∨ e ∈ E2) : Evs w v' (F.map Prod.fst) := by
  refine ⟨F.flatMap EvV.c, by rw [List.length_map]; exact hr, fun k hk => ?_⟩
  have hk' : k < F.length := by simpa using hk
  have e : el (F.flatMap EvV.c) 19 k = EvV.c F[k] := flat_el EvV.c_len hk'
  rw [e, List.getElem_map]
  rcases hF _ (List.getElem_mem hk') with q | q
  · exact ⟨_, _, rfl, Bytes.of_own (h.dc _ q), Bytes.of_own (h.da _ q)⟩
  · exact ⟨_, _, rfl, Bytes.of_own (h2.dc _ q), Bytes.of_own (h2.da _ q)⟩
theorem getD_fst (hk : k < E.length) {l : List Ev} (h : E.map Prod.fst = l) : l.getD k Ev.zero = (E[k]).1 := by
  subst h
  rw [List.getD_eq_getElem?_getD, List.getElem?_eq_getElem (by simpa using hk), List.getElem_map]; rfl
end
end Go.Proofs.Ytobjmehppmhkdaa
