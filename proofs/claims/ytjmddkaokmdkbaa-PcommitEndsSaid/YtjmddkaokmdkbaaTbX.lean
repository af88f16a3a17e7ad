/- The walks of the table's functions: start, come. -/
import Derived.Test.YtjmddkaokmdkbaaTbW
namespace Go.Proofs.Ytjmddkaokmdkbaa
open Go Go.RowKit Kf
set_option maxRecDepth 20000

/-- the blocks that change while a coordinator works, and its messages are posted -/
def SS (G : Fp TR) (k : Nat) : Nat → Prop := fun b => (coF G k).on b ∨ G b = some .post
section
variable {w0 w w' : World} {G : Fp TR} {g n k b i j m : Nat} {x : Tb} {v : Value} {l : List Msg} {r : TR}
theorem ss_no (h : G b = some r) (h1 : ∀ q, r ≠ .co k q) (h2 : r ≠ .post) : ¬ SS G k b := by
  rintro (e | e)
  · obtain ⟨q, e⟩ := coF_on e
    rw [h] at e; injection e with e; exact h1 q e
  · rw [h] at e; injection e with e; exact h2 e
theorem ss_none (h : G b = none) : ¬ SS G k b := by
  rintro (e | e)
  · obtain ⟨q, e⟩ := coF_on e
    rw [h] at e; cases e
  · rw [h] at e; cases e
theorem bares_one {l : List Msg} : ∀ u ∈ l.flatMap Msg.bare, u.oneCell' = true := flat_one Msg.bare_one
theorem allM_le {me txn num nac : Int} {m : Msg} (h : nac ≤ 7) : (allM me txn num nac m).length ≤ 7 := by rw [allM_len]; omega
theorem flat_bareL (l : List Msg) : (l.flatMap Msg.bare).length = l.length * 17 := by
  induction l with
  | nil => rfl
  | cons a l ih => rw [List.flatMap_cons, List.length_append, ih, Msg.bare_len, List.length_cons]; omega
theorem tstart_len {c : CC} (b : Int) (h : c.ok) : (c.startM b).length ≤ 28 := by
  have key : ∀ l : List Int, (l.flatMap fun p => if c.ch p = 0 then (c.started b).all (asks p) else []).length ≤ 7 * l.length := by
    intro l
    induction l with
    | nil => exact Nat.le_refl _
    | cons a l ih =>
      rw [List.flatMap_cons, List.length_append, List.length_cons]
      have : (if c.ch a = 0 then (c.started b).all (asks a) else []).length ≤ 7 := by
        split
        · exact allM_le h.nac.2
        · exact Nat.zero_le _
      omega
  have := key c.parts
  have := h.parts
  unfold CC.startM; omega
theorem step_len {c : CC} {m : Msg} (h : c.ok) : (c.step m).2.length ≤ 7 := by
  unfold CC.step
  repeat' split
  all_goals first
    | exact Nat.zero_le _
    | (unfold CC.promise
       dsimp only
       repeat' split
       all_goals first
         | exact Nat.zero_le _
         | exact allM_le h.nac.2)
theorem takeA_len (l : List Acc) (id : Int) (m : Msg) : (takeA l id m).2.1.length ≤ 1 := by
  unfold takeA
  dsimp only
  repeat' split
  all_goals first | exact Nat.zero_le _ | exact Nat.le_refl _
theorem msgs_take (h : Row w v l.length 17 (l.flatMap Msg.bare)) (hi : i ≤ l.length) : Row w (Kf.part v 0 i 17) (l.take i).length 17 ((l.take i).flatMap Msg.bare) := by
  have := Row.part h 0 i (Nat.zero_le _) hi
  rw [Nat.sub_zero, Nat.zero_mul, List.drop_zero, flat_take Msg.bare_len] at this
  rwa [show (l.take i).length = i by simp; omega]
theorem msgs_drop (h : Row w v l.length 17 (l.flatMap Msg.bare)) (hi : i ≤ l.length) : Row w (Kf.part v i l.length 17) (l.drop i).length 17 ((l.drop i).flatMap Msg.bare) := by
  have := Row.part h i l.length hi (Nat.le_refl _)
  rw [flat_drop Msg.bare_len] at this
  have hl : ((l.drop i).flatMap Msg.bare).length = (l.length - i) * 17 := by rw [flat_bareL]; simp
  rw [List.take_of_length_le (by omega)] at this
  rwa [show (l.drop i).length = l.length - i by simp]
theorem cells_kept {vp vv vc vo : Value} {vk : Nat → Value} {t : Nat} (ht : t < 8) : (Tb.cells x vp vv vc vo vk)[3 + t]? = some (vk t) := by
  match t, ht with
  | 0, _ | 1, _ | 2, _ | 3, _ | 4, _ | 5, _ | 6, _ | 7, _ => rfl
theorem cells_set {vp vv vc vo u : Value} {vk : Nat → Value} {t : Nat} (x' : Tb) (ht : t < 8) (e1 : x'.many = x.many) (e2 : x'.starts = x.starts) (e3 : x'.value = x.value) (e4 : x'.above = x.above) (e5 : x'.bad = x.bad) : (Tb.cells x vp vv vc vo vk).set (3 + t) u = Tb.cells x' vp vv vc vo (updN vk t u) := by
  unfold Tb.cells
  rw [e1, e2, e3, e4, e5]
  match t, ht with
  | 0, _ | 1, _ | 2, _ | 3, _ | 4, _ | 5, _ | 6, _ | 7, _ => rfl
theorem out1_len (x : Tb) (m : Msg) : (x.out1 m).post.length ≤ x.post.length + 3 := by
  unfold Tb.out1
  split
  · rw [Tb.tells, tellsN_len]; omega
  · split
    · show (x.post ++ [m]).length ≤ _; simp
    · omega
def outN (x : Tb) (l : List Msg) (j : Nat) : Tb := (l.take j).foldl Tb.out1 x
theorem outN_s (hj : j < l.length) : outN x l (j + 1) = (outN x l j).out1 l[j] := by
  unfold outN
  rw [List.take_succ_eq_append_getElem hj, List.foldl_append]; rfl
theorem outN_len : ∀ j, j ≤ l.length → (outN x l j).post.length ≤ x.post.length + 3 * j := by
  intro j
  induction j with
  | zero => intro _; exact Nat.le_refl _
  | succ j ih =>
    intro hj
    rw [outN_s (by omega)]
    have := out1_len (outN x l j) (l[j]'(by omega))
    have := ih (by omega)
    omega
theorem outN_all (hj : l.length ≤ j) : outN x l j = l.foldl Tb.out1 x := by unfold outN; rw [List.take_of_length_le hj]
end
set_option maxHeartbeats 4000000 in
theorem tstart_ok (w0 w : World) (G : Fp TR) (g k : Nat) (x : Tb) (h : TG w0 w G g x 3) (hk : k < 3) (hok : ∀ k, k < 3 → (x.co k).ok) (hs : 0 ≤ x.starts ∧ x.starts ≤ 1000000) (hP : x.post.length ≤ 100000) : FnOk Try.prog 24 [at_ g, i64 (k : Int)] w (fun _ w' => TP w0 w w' G g (x.start k) 3) := by
  have hsl := tstart_len (8 * (x.starts + 1) + (k : Int) + 1) (hok k hk)
  have hs2 : 0 ≤ ({ x with starts := x.starts + 1 } : Tb).starts ∧ ({ x with starts := x.starts + 1 } : Tb).starts ≤ 1000001 := ⟨by show 0 ≤ x.starts + 1; omega, by show x.starts + 1 ≤ _; omega⟩
  have hsz0 := h.since.size
  obtain ⟨vp, vv, vc, vo, vk, gk, hI⟩ := h
  have hx := hI.obj
  refine FnOk.enter (rs := []) Try.func24 rfl Try.ntmps24 Try.results24 rfl rfl ?_
  refine WF.seq ?_
  refine WF.region ?_
  refine WL.va rfl rfl rfl (X.move rfl) ?_
  refine WL.va rfl rfl rfl (X.nilCheck rfl) ?_
  refine WL.va rfl rfl rfl (X.fieldAddrO (off := 12) rfl Try.underlying63 rfl rfl Try.sizeOf3) ?_
  refine WL.va rfl rfl rfl (X.loadO hx (Ext.refl _) rfl rfl Try.isAgg3) ?_
  refine WL.va rfl rfl rfl (X.add rfl rfl (w64 (by omega))) ?_
  refine WL.va rfl rfl rfl (X.nilCheck rfl) ?_
  refine WL.va rfl rfl rfl (X.fieldAddrO (off := 12) rfl Try.underlying63 rfl rfl Try.sizeOf3) ?_
  have hIb := hI
  refine WL.op rfl (OW.storeO hx (Nat.le_of_ble_eq_true rfl) rfl rfl rfl Try.sizeOf3 ?_)
  intro wS hx hx2
  have := World.grownBy.size hx2
  replace hx : Blk _ _ _ (Tb.cells { x with starts := x.starts + 1 } vp vv vc vo vk) := hx
  have hIS := hIb.setN (x' := { x with starts := x.starts + 1 }) hx2 hx rfl rfl rfl rfl rfl
  have hxS := hx
  have hcS : ChgS G.on w wS := (ChgS.refl _ w).row1 hx2 (.inl (on_of hIb.at_))
  refine WL.nil ?_
  refine thn_n ?_
  refine WF.drawn (.q 0 (.q 1 (.q 2 (.q 3 (.q 4 (.q 5 (.q 6 (.q 7 (.q 8 (.q 9 (.q 10 (.q 11 (.q 12 (.q 13 (.q 14 (.q 15 (.q 16 (.q 17 (.q 18 (.q 19 (.l 20 (.l 21 (.q 22 (.q 23 .nil)))))))))))))))))))))))) (fun w' => ChgS (SS G k) wS w') 24 (by kernel_rfl) (by kernel_rfl) (ChgS.of_ext (Ext.drew _)) ?_
  have := World.grownBy.size (Ext.drew wS)
  refine WO.q rfl rfl rfl rfl (fun w' hE4 => (X.move rfl)) ?_
  refine WO.q rfl rfl rfl rfl (fun w' hE4 => (X.move rfl)) ?_
  refine WO.q rfl rfl rfl rfl (fun w' hE4 => (X.nilCheck rfl)) ?_
  refine WO.q rfl rfl rfl rfl (fun w' hE4 => (X.fieldAddrO (off := 13) rfl Try.underlying63 rfl rfl Try.sizeOf36)) ?_
  refine WO.q rfl rfl rfl rfl (fun w' hE4 => (X.loadO (off := 13) (hxS.chgS hE4 (ss_no hIS.at_ (by simp) (by simp))) (Ext.refl _) rfl rfl Try.isAgg36)) ?_
  refine WO.q rfl rfl rfl rfl (fun w' hE4 => (X.move rfl)) ?_
  refine WO.q rfl rfl rfl rfl (fun w' hE4 => (X.nilCheck rfl)) ?_
  refine WO.q rfl rfl rfl rfl (fun w' hE4 => (X.fieldAddrO (off := 11) rfl Try.underlying63 rfl rfl Try.sizeOf61)) ?_
  refine WO.q rfl rfl rfl rfl (fun w' hE4 => (X.loadO (off := 11) (hxS.chgS hE4 (ss_no hIS.at_ (by simp) (by simp))) (Ext.refl _) rfl rfl Try.isAgg61)) ?_
  refine WO.q rfl rfl rfl rfl (fun w' hE4 => (X.moveI rfl)) ?_
  refine WO.q rfl rfl rfl rfl (fun w' hE4 => (X.idx (hIS.coords.rd) rfl rfl hk Try.underlying61 Try.sizeOf27)) ?_
  refine WO.q rfl rfl rfl rfl (fun w' hE4 => (X.loadP1 (hIS.coords.chgS hE4 (fun b e => ss_no e (by simp) (by simp))).rd (Ext.refl _) rfl (ptrs_at hk) Try.isAgg27)) ?_
  refine WO.q rfl rfl rfl rfl (fun w' hE4 => (X.move rfl)) ?_
  refine WO.q rfl rfl rfl rfl (fun w' hE4 => (X.nilCheck rfl)) ?_
  refine WO.q rfl rfl rfl rfl (fun w' hE4 => (X.fieldAddrO (off := 12) rfl Try.underlying63 rfl rfl Try.sizeOf3)) ?_
  refine WO.q rfl rfl rfl rfl (fun w' hE4 => (X.loadO (off := 12) (hxS.chgS hE4 (ss_no hIS.at_ (by simp) (by simp))) (Ext.refl _) rfl rfl Try.isAgg3)) ?_
  refine WO.q rfl rfl rfl rfl (fun w' hE4 => (X.mul rfl rfl (w64 (by omega)))) ?_
  refine WO.q rfl rfl rfl rfl (fun w' hE4 => (X.moveI rfl)) ?_
  refine WO.q rfl rfl rfl rfl (fun w' hE4 => (X.add rfl rfl (w64 (by omega)))) ?_
  refine WO.q rfl rfl rfl rfl (fun w' hE4 => (X.add rfl rfl (w64 (by omega)))) ?_
  refine WO.l ?_
  refine LO.go rfl rfl (OW.enter rfl (by decide) (X.call Try.call12 (evl_cons (v := at_ (gk k)) rfl (evl_cons rfl evl_nil))) (start_ok (coF G k) (gk k) (x.co k) (8 * (x.starts + 1) + (k : Int) + 1) _ ((hIS.co k hk).ext (Ext.drew _)) (hok k hk)) ?_)
  rintro vM wM ⟨oM, F9, f1, f2, f3, f4⟩
  refine ⟨(ChgS.trans (ChgS.of_ext (Ext.drew _)) f3 (fun i hi => .inl (.inl hi))), ?_⟩
  have hCe : ChgS (SS G k) wS wM := ChgS.trans (ChgS.of_ext (Ext.drew _)) f3 (fun i hi => .inl (.inl hi))
  obtain ⟨G2, n2, c2, hI2, hr2⟩ := (hIS.ext (Ext.drew _)).setCo hk ⟨F9, f1, f2, f3, f4⟩ (fun b e => (oM.lt b e).1)
  have hx := hI2.obj
  refine WO.l ?_
  have hJ := hI2
  refine LO.go rfl rfl (OW.append (bytes := 168) hJ.post.own (Row.of_own oM) bares_one rfl rfl Try.underlying36 Try.type40 rfl rfl rfl rfl (by decide) (by unfold maxLen; show x.post.length + _ ≤ _; omega) (by show (x.post.length + _) * 168 ≤ _; omega) (Nat.zero_le _) ?_ (by decide))
  intro vo2 w6 ho8 hx7 hmvhx7
  have := World.grownBy.size hx7
  replace hx := hx.keptR hx7 (fun b e => Fp.ne (hJ.post.fp b e) hJ.at_ (by simp))
  have hmA := hmvhx7
  have hxA := hx7
  have hoA := ho8
  have hEa : ChgS (SS G k) wS w6 := hCe.row hx7 (fun b e => .inl (.inr (hIS.post.fp b e)))
  refine ⟨hEa, ?_⟩
  refine WO.q rfl rfl rfl rfl (fun w' hE4 => (X.nilCheck rfl)) ?_
  refine WO.q rfl rfl rfl rfl (fun w' hE4 => (X.fieldAddrO (off := 13) rfl Try.underlying63 rfl rfl Try.sizeOf36)) ?_
  refine WO.nil ?_
  refine WL.op rfl (OW.storeO hx (Nat.le_of_ble_eq_true rfl) rfl rfl (own_one hoA) Try.sizeOf36 ?_)
  intro w9 hx hx11
  have := World.grownBy.size hx11
  replace hx : Blk _ _ _ (Tb.cells { x with starts := x.starts + 1 } vp vv vc vo2 vk) := hx
  have hTP := hJ.pushed (ms := (x.co k).startM (8 * (x.starts + 1) + (k : Int) + 1)) hoA hmA hxA hx11 hx
  refine WL.nil ?_
  refine fin_n ?_
  exact TP.join (fun _ _ e => e) hcS (TP.pre (Ext.drew _) (TP.join n2 c2 hTP))

end Go.Proofs.Ytjmddkaokmdkbaa
