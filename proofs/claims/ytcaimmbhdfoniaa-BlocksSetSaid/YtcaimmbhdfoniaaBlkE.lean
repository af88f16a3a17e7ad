/- The walks over what is kept. -/
import Derived.Test.YtcaimmbhdfoniaaBlkR
import Derived.Test.YtcaimmbhdfoniaaKepLaw
namespace Go.Proofs.Ytcaimmbhdfoniaa
open Go Go.RowKit Kf

theorem place_res {E : List KV} {s n : Int} {k : Nat} (hs : SortK (E.map Prod.fst)) (hk : k < E.length) (hall : ∀ j (hj : j < E.length), j < k → ltK s n E[j].1 = true) (hge : ltK s n E[k].1 = false) : cntK (E.map Prod.fst) s n = k ∧ hasK (E.map Prod.fst) s n = isK s n E[k].1 := by
  have hk' : k < (E.map Prod.fst).length := by simpa using hk
  have hc : cntK (E.map Prod.fst) s n = k := cntK_at (by omega) (fun j hj hjk => by rw [List.getElem_map]; exact hall j (by simpa using hj) hjk) (fun h => by rw [List.getElem_map]; exact hge)
  refine ⟨hc, ?_⟩
  rw [Bool.eq_iff_iff, hasK_iff hs]
  constructor
  · rintro ⟨h1, h2⟩
    have : (E.map Prod.fst)[cntK (E.map Prod.fst) s n] = E[k].1 := by simp only [hc, List.getElem_map]
    rwa [this] at h2
  · intro h
    refine ⟨by omega, ?_⟩
    have : (E.map Prod.fst)[cntK (E.map Prod.fst) s n]'(by omega) = E[k].1 := by simp only [hc, List.getElem_map]
    rwa [this]
theorem place_end {E : List KV} {s n : Int} (hs : SortK (E.map Prod.fst)) (hall : ∀ j (hj : j < E.length), ltK s n E[j].1 = true) : cntK (E.map Prod.fst) s n = E.length ∧ hasK (E.map Prod.fst) s n = false := by
  have hc : cntK (E.map Prod.fst) s n = E.length := cntK_at (by simp) (fun j hj _ => by rw [List.getElem_map]; exact hall j (by simpa using hj)) (fun h => by simp at h)
  refine ⟨hc, ?_⟩
  cases hh : hasK (E.map Prod.fst) s n
  · rfl
  · obtain ⟨h1, _⟩ := (hasK_iff hs).1 hh
    rw [hc, List.length_map] at h1; omega
theorem kep_at {l : List Kp} {s n : Int} (hs : SortK l) (hk : cntK l s n < l.length) (he : isK s n l[cntK l s n] = true) : kepO l s n = some l[cntK l s n].Data := by
  have h := kepO_of hs (List.getElem_mem hk)
  have he := of_decide_eq_true he
  rwa [he.1, he.2] at h
theorem kset_flat {dv : Value} {d : List UInt8} : ∀ {E : List KV} {k : Nat} (hk : k < E.length), (E.flatMap KV.c).set (k * 3 + 2) dv = (E.set k ({ E[k].1 with Data := d }, dv)).flatMap KV.c
  | [], k, hk => by simp at hk
  | e :: E, 0, hk => rfl
  | e :: E, k + 1, hk => by
    have hk' : k < E.length := by simpa using hk
    have ih := kset_flat (dv := dv) (d := d) hk'
    show (KV.c e ++ E.flatMap KV.c).set ((k + 1) * 3 + 2) dv = KV.c e ++ (E.set k _).flatMap KV.c
    rw [show (k + 1) * 3 + 2 = k * 3 + 2 + 1 + 1 + 1 by omega]
    show i64 e.1.Snap :: i64 e.1.No :: e.2 :: (E.flatMap KV.c).set (k * 3 + 2) dv = _
    rw [ih]; rfl
theorem KOwn.setD {w w1 w' : World} {B k : Nat} {v dv : Value} {E : List KV} {d : List UInt8} (h : KOwn w B v E) (hd : OwnB w1 w.heap.size 5 dv d) (g1 : Ext w w1) (hk : k < E.length) (hr : w'.ownsRow B 61 3 v E.length ((E.flatMap KV.c).set (k * 3 + 2) dv)) (g : w1.grownBy w' v.ownBlock) (hB : B ≤ w.heap.size) : KOwn w' B v (E.set k ({ E[k].1 with Data := d }, dv)) := by
  refine KOwn.set (s := { E[k].1 with Data := d }) h hd g1 (Ext.refl w1) hk ?_ g hB
  rw [kset_flat (d := d) hk, ← flat_set (fun e => (KV.c_len e).2) hk] at hr
  exact hr
theorem putK_setE {O : List KV} {s n : Int} {d : List UInt8} {dv : Value} (hs : SortK (O.map Prod.fst)) (hh : hasK (O.map Prod.fst) s n = true) (hk : cntK (O.map Prod.fst) s n < O.length) : (O.set (cntK (O.map Prod.fst) s n) ({ O[cntK (O.map Prod.fst) s n].1 with Data := d }, dv)).map Prod.fst = putK (O.map Prod.fst) s n d := by
  obtain ⟨hk', he⟩ := (hasK_iff hs).1 hh
  rw [putK_set hs hh, List.map_set]
  congr 1
  rw [List.getElem_map] at he
  have he := of_decide_eq_true he
  rw [Kp.eq_iff]
  exact ⟨⟨he.1, he.2⟩, rfl⟩
theorem putK_insE {O : List KV} {s n : Int} {d : List UInt8} {dv : Value} (hs : SortK (O.map Prod.fst)) (hh : hasK (O.map Prod.fst) s n = false) : (O.take (cntK (O.map Prod.fst) s n) ++ [((⟨s, n, d⟩ : Kp), dv)] ++ O.drop (cntK (O.map Prod.fst) s n)).map Prod.fst = putK (O.map Prod.fst) s n d := by
  rw [putK_ins hs hh]; simp
section
variable {P : Program} {N : Nat} {Q : Post} {f : Fr} {w : World} {k : Fr → World → Prop} {ty t e : TypeId} {pos : String} {aft : Array Edge} {g : Option (Nat × Bool)} {x y : Operand} {u v : Value} {n sz B i off : Nat} {xs : List Value}
/-- a field of an element of an own row -/
theorem OW.storeIF (ho : w.ownsRow B e sz v n xs) (hi : i < n) (hoff : off < sz) (hx : ev f x = .pointer (some (((base v).add (i * sz)).add off))) (hy : ev f y = u) (h1 : u.oneCell' = true) (ht : ∀ w, (sizeOf t).run P w = .ok 1 w)
    (h : ∀ w', w'.ownsRow B e sz v n (xs.set (i * sz + off) u) → w.grownBy w' v.ownBlock → k f w') : OW P N ⟨none, .store t x y, ty, pos, aft, g⟩ Q k f w := by
  obtain ⟨b, cap, rfl, _⟩ := own_shape ho (by omega)
  have hj : i * sz + off < n * sz := by
    have : (i + 1) * sz ≤ n * sz := Nat.mul_le_mul_right _ hi
    rw [Nat.add_mul] at this; omega
  refine OW.storeOwn (j := i * sz + off) ho hj ?_ hy h1 ht h
  rw [hx]
  show _ = Value.pointer (some ((⟨b, 0, none⟩ : Addr).add (i * sz + off)))
  rw [show base (.slice (some ⟨b, 0, none⟩) n cap) = ⟨b, 0, none⟩ from rfl, Kf.Addr.add_add]
end
set_option maxHeartbeats 2000000 in
theorem insertK_ok (v va : Value) (xs news : List Value) (n i : Nat) (w : World) (B B2 : Nat) (ho : w.ownsRow B 61 3 v n xs) (hv : w.ownsRow B2 61 3 va 1 news) (hap : Apart va v) (h1x : ∀ u ∈ xs, u.oneCell' = true) (h1n : ∀ u ∈ news, u.oneCell' = true) (hi : i ≤ n) (hn : n ≤ 1000000) (hB : B ≤ w.heap.size) : FnOk Try.prog 40 [v, i64 (i : Int), va] w (fun r w' => w'.ownsRow B 61 3 r (n + 1) (xs.take (i * 3) ++ news ++ xs.drop (i * 3)) ∧ w.grownBy w' v.ownBlock ∧ Moved w v r) := by
  have hxl := ho.1
  have hnl := hv.1
  have hcp := own_cap ho
  unfold maxLen at hcp
  refine FnOk.enter (rs := [6]) Try.func40 rfl Try.ntmps40 Try.results40 rfl rfl ?_
  refine WF.seq ?_
  refine WF.region ?_
  refine WL.va rfl rfl rfl (X.assign rfl) ?_
  refine WL.nil ?_
  refine thn_n ?_
  refine WF.seq ?_
  refine WF.region ?_
  refine WL.va rfl rfl rfl (X.move rfl) ?_
  refine WL.va rfl rfl rfl (X.moveI rfl) ?_
  refine WL.va rfl rfl rfl (X.slL (Row.of_own ho) rfl rfl (by omega) Try.underlying22 Try.sizeOf61) ?_
  refine WL.nil ?_
  refine thn_n ?_
  refine WF.seq ?_
  refine WF.region ?_
  refine WL.va rfl rfl rfl (X.move rfl) ?_
  refine WL.va rfl rfl rfl (X.len (Row.of_own hv) rfl Try.underlying22) ?_
  refine WL.va rfl rfl rfl (X.assignI rfl) ?_
  refine WL.nil ?_
  refine thn_n ?_
  refine WF.seq ?_
  refine WF.seq ?_
  refine WF.region ?_
  refine WL.va rfl rfl rfl (X.moveI rfl) ?_
  refine WL.va rfl rfl rfl (X.eql rfl rfl) ?_
  refine WL.nil ?_
  refine thn_n ?_
  refine WF.cond rfl (fun h0_1 => ?_) (fun h0_1 => ?_)
  · have gh0_1 := (of_decide_eq_true h0_1)
    exact absurd gh0_1 (by omega)
  · have gh0_1 := (of_decide_eq_false h0_1)
    refine WF.skip ?_
    refine thn_n ?_
    refine WF.seq ?_
    refine WF.region ?_
    refine WL.va rfl rfl rfl (X.move rfl) ?_
    refine WL.va rfl rfl rfl (X.len (Row.of_own ho) rfl Try.underlying22) ?_
    refine WL.va rfl rfl rfl (X.assignI rfl) ?_
    refine WL.nil ?_
    refine thn_n ?_
    refine WF.seq ?_
    refine WF.seq ?_
    refine WF.region ?_
    refine WL.va rfl rfl rfl (X.moveI rfl) ?_
    refine WL.va rfl rfl rfl (X.moveI rfl) ?_
    refine WL.va rfl rfl rfl (X.eql rfl rfl) ?_
    refine WL.nil ?_
    refine thn_n ?_
    refine WF.cond rfl (fun h1_3 => ?_) (fun h1_3 => ?_)
    · have gh1_3 := (of_decide_eq_true h1_3)
      refine WF.seq ?_
      refine WF.region ?_
      refine WL.va rfl rfl rfl (X.move rfl) ?_
      refine WL.va rfl rfl rfl (X.move rfl) ?_
      refine WL.op rfl (OW.append (bytes := 40) ho (Row.of_own hv) h1n rfl rfl Try.underlying22 Try.type61 rfl rfl rfl rfl (by decide) (by unfold maxLen; omega) (by omega) hB ?_ (by decide))
      intro v6 w5 ho8 hx7 hmvhx7
      have o7 := ho8
      have g7 := hx7
      have m7 := hmvhx7
      refine WL.va rfl rfl rfl (X.assign rfl) ?_
      refine WL.nil ?_
      refine thn_n ?_
      refine WF.ret ?_
      refine thn_r ?_
      refine fin_r ?_
      obtain rfl : i = n := by omega
      refine ⟨?_, g7, m7⟩
      rw [List.take_of_length_le (by omega), List.drop_of_length_le (by omega), List.append_nil]; exact o7
    · have gh1_3 := (of_decide_eq_false h1_3)
      refine WF.skip ?_
      refine thn_n ?_
      refine WF.seq ?_
      refine WF.seq ?_
      refine WF.region ?_
      refine WL.va rfl rfl rfl (X.moveI rfl) ?_
      refine WL.va rfl rfl rfl (X.moveI rfl) ?_
      refine WL.va rfl rfl rfl (X.add rfl rfl (w64 (by omega))) ?_
      refine WL.va rfl rfl rfl (X.move rfl) ?_
      refine WL.va rfl rfl rfl (X.cap (Row.of_own ho) rfl Try.underlying22) ?_
      refine WL.va rfl rfl rfl (X.gtr rfl rfl) ?_
      refine WL.nil ?_
      refine thn_n ?_
      refine WF.cond rfl (fun h2_9 => ?_) (fun h2_9 => ?_)
      · have gh2_9 := (of_decide_eq_true h2_9)
        have hlt : i < n := by omega
        refine WF.seq ?_
        refine WF.region ?_
        refine WL.va rfl rfl rfl (X.move rfl) ?_
        refine WL.va rfl rfl rfl (X.moveI rfl) ?_
        refine WL.va rfl rfl rfl (X.slH (Row.of_own ho) rfl rfl (by omega) Try.underlying22 Try.sizeOf61) ?_
        refine WL.va rfl rfl rfl (X.moveI rfl) ?_
        refine WL.va rfl rfl rfl (X.moveI rfl) ?_
        refine WL.va rfl rfl rfl (X.add rfl rfl (w64 (by omega))) ?_
        refine WL.va rfl rfl rfl (X.moveI rfl) ?_
        refine WL.va rfl rfl rfl (X.sub rfl rfl (show IntKind.i64.wrap ((n : Int) + ((1 : Nat) : Int) - (i : Int)) = ((n + 1 - i : Nat) : Int) from (w64 (by omega)).trans (by omega))) ?_
        refine WL.op rfl (OW.appendMake (bytes := 40) (m := n + 1 - i) (own_take ho i hi) rfl rfl Try.underlying3 Try.underlying22 Try.type61 rfl rfl rfl rfl (by decide) (by unfold maxLen; omega) (by omega) (by omega) (by rw [cap_part ho]; omega) ?_ (by decide))
        intro v12 w11 ho14 hx13
        obtain ⟨zs, hzl, o9⟩ : ∃ zs : List Value, zs.length = (n + 1 - i) * 3 ∧ World.ownsRow w11 w.heap.size 61 3 v12 (n + 1) (xs.take (i * 3) ++ zs) := ⟨_, (by simp [size_madeCells]), (show i + (n + 1 - i) = n + 1 by omega) ▸ ho14⟩
        have szw := World.grownBy.size hx13
        refine WL.va rfl rfl rfl (X.assign rfl) ?_
        refine WL.nil ?_
        refine thn_n ?_
        refine WF.seq ?_
        refine WF.region ?_
        refine WL.va rfl rfl rfl (X.move rfl) ?_
        refine WL.va rfl rfl rfl (X.moveI rfl) ?_
        refine WL.va rfl rfl rfl (X.slL (Row.of_own o9) rfl rfl (by omega) Try.underlying22 Try.sizeOf61) ?_
        refine WL.va rfl rfl rfl (X.move rfl) ?_
        refine WL.op rfl (OW.copyAt (m := 1) (j := i) (news := news) o9 (by decide) (Row.ext (Row.of_own hv) hx13) (by rw [List.take_of_length_le (by omega)]) h1n rfl (Nat.min_eq_left (by omega)) (by decide) rfl rfl Try.underlying22 Try.type61 rfl ?_ (by decide))
        intro w15 ho18 hx17
        have o10 := ho18
        refine WL.nil ?_
        refine thn_n ?_
        refine WF.seq ?_
        refine WF.drawn (.q 0 (.q 1 (.q 2 (.q 3 (.q 4 (.q 5 (.q 6 (.q 7 .nil)))))))) (fun w' => Ext w15 w') 8 (by kernel_rfl) (by kernel_rfl) (Ext.drew _) ?_
        refine WO.q rfl rfl rfl rfl (fun w' hE19 => (X.move rfl)) ?_
        refine WO.q rfl rfl rfl rfl (fun w' hE19 => (X.moveI rfl)) ?_
        refine WO.q rfl rfl rfl rfl (fun w' hE19 => (X.moveI rfl)) ?_
        refine WO.q rfl rfl rfl rfl (fun w' hE19 => (X.add rfl rfl (show _ = ((i + 1 : Nat) : Int) from w64 (by omega)))) ?_
        refine WO.q rfl rfl rfl rfl (fun w' hE19 => (X.slL (Row.of_own o10) rfl rfl (by omega) Try.underlying22 Try.sizeOf61)) ?_
        refine WO.q rfl rfl rfl rfl (fun w' hE19 => (X.move rfl)) ?_
        refine WO.q rfl rfl rfl rfl (fun w' hE19 => (X.moveI rfl)) ?_
        refine WO.q rfl rfl rfl rfl (fun w' hE19 => (X.slL (Row.of_own ho) rfl rfl (by omega) Try.underlying22 Try.sizeOf61)) ?_
        refine WO.nil ?_
        refine WL.op rfl (OW.copyAt (m := n - i) (j := i + 1) (news := _) (own_ext o10 (Ext.drew _)) (by decide) (Row.ext (Row.part (Row.of_own ho) i n (by omega) (Nat.le_refl _)) (Ext.trans (Ext.own hx13 o9 (Nat.le_refl _) hx17) (Ext.drew _))) (by rw [List.take_take, Nat.min_self]) (fun u hu => h1x u (List.mem_of_mem_drop (List.mem_of_mem_take hu))) rfl (by rw [show n + 1 - (i + 1) = n - i by omega]; exact Nat.min_self _) (by omega) rfl rfl Try.underlying22 Try.type61 rfl ?_ (by decide))
        intro w20 ho23 hx22
        have o11 := ho23
        refine WL.nil ?_
        refine thn_n ?_
        refine WF.seq ?_
        refine WF.region ?_
        refine WL.va rfl rfl rfl (X.move rfl) ?_
        refine WL.va rfl rfl rfl (X.assign rfl) ?_
        refine WL.nil ?_
        refine thn_n ?_
        refine WF.ret ?_
        refine thn_r ?_
        refine fin_r ?_
        refine ⟨?_, grown_of_ext (Ext.own (Ext.trans (Ext.own hx13 o9 (Nat.le_refl _) hx17) (Ext.drew _)) (own_ext o10 (Ext.drew _)) (Nat.le_refl _) hx22), .inr fun k hk => (o11.lt k hk).1⟩
        rw [ins_new hxl hnl hi hzl rfl] at o11; exact own_mono o11 hB
      · have gh2_9 := (of_decide_eq_false h2_9)
        have hlt : i < n := by omega
        obtain ⟨ys, b, c, rfl, hc1, hc0, hyl, hom⟩ := own_more ho 1 (by omega) (by omega)
        have h1xy : ∀ u ∈ xs, u.oneCell' = true := h1x
        refine WF.skip ?_
        refine thn_n ?_
        refine WF.seq ?_
        refine WF.region ?_
        refine WL.va rfl rfl rfl (X.move rfl) ?_
        refine WL.va rfl rfl rfl (X.moveI rfl) ?_
        refine WL.va rfl rfl rfl (X.moveI rfl) ?_
        refine WL.va rfl rfl rfl (X.add rfl rfl (show _ = ((n + 1 : Nat) : Int) from w64 (by omega))) ?_
        refine WL.va rfl rfl rfl (X.slHc rfl rfl (by omega) hc0 Try.underlying22 Try.sizeOf61) ?_
        refine WL.va rfl rfl rfl (X.assign rfl) ?_
        refine WL.nil ?_
        refine thn_n ?_
        refine WF.seq ?_
        refine WF.seq ?_
        refine WF.region ?_
        refine WL.va rfl rfl rfl (X.move rfl) ?_
        refine WL.va rfl rfl rfl (X.move rfl) ?_
        refine WL.va rfl rfl rfl (X.moveI rfl) ?_
        refine WL.va rfl rfl rfl (X.moveI rfl) ?_
        refine WL.va rfl rfl rfl (X.add rfl rfl (show _ = ((i + 1 : Nat) : Int) from w64 (by omega))) ?_
        refine WL.va rfl rfl rfl (X.slL (Row.of_own hom) rfl rfl (by omega) Try.underlying22 Try.sizeOf61) ?_
        refine WL.va rfl rfl rfl (X.overlapsF (tR := 4) (fun q => run_callFunc_extern Try.func56 (by kernel_rfl) (by kernel_rfl) (by kernel_rfl) (e := Extern.SlicesOverlaps.overlaps #[22, 22] #[4]) (by kernel_rfl) q _) Try.underlying22 Try.sizeOf61 hv hom hap (by decide) (by omega) (by decide) rfl rfl rfl) ?_
        refine WL.va rfl rfl rfl (X.not rfl) ?_
        refine WL.nil ?_
        refine thn_n ?_
        refine WF.cond_t rfl ?_
        refine WF.seq ?_
        refine WF.drawn (.q 0 (.q 1 (.q 2 (.q 3 (.q 4 (.q 5 (.q 6 (.q 7 .nil)))))))) (fun w' => Ext w w') 8 (by kernel_rfl) (by kernel_rfl) (Ext.drew _) ?_
        refine WO.q rfl rfl rfl rfl (fun w' hE26 => (X.move rfl)) ?_
        refine WO.q rfl rfl rfl rfl (fun w' hE26 => (X.moveI rfl)) ?_
        refine WO.q rfl rfl rfl rfl (fun w' hE26 => (X.moveI rfl)) ?_
        refine WO.q rfl rfl rfl rfl (fun w' hE26 => (X.add rfl rfl (show _ = ((i + 1 : Nat) : Int) from w64 (by omega)))) ?_
        refine WO.q rfl rfl rfl rfl (fun w' hE26 => (X.slL (Row.of_own hom) rfl rfl (by omega) Try.underlying22 Try.sizeOf61)) ?_
        refine WO.q rfl rfl rfl rfl (fun w' hE26 => (X.move rfl)) ?_
        refine WO.q rfl rfl rfl rfl (fun w' hE26 => (X.moveI rfl)) ?_
        refine WO.q rfl rfl rfl rfl (fun w' hE26 => (X.slL (Row.of_own hom) rfl rfl (by omega) Try.underlying22 Try.sizeOf61)) ?_
        refine WO.nil ?_
        refine WL.op rfl (OW.copyAt (m := n - i) (j := i + 1) (news := _) (own_ext hom (Ext.drew _)) (by decide) (Row.ext (Row.part (Row.of_own hom) i (n + 1) (by omega) (Nat.le_refl _)) (Ext.drew _)) rfl (fun u hu => h1x u (List.mem_of_mem_drop ((place_src hxl hyl hlt) ▸ hu))) rfl (by rw [show n + 1 - (i + 1) = n - i by omega]; exact Nat.min_eq_right (by omega)) (by omega) rfl rfl Try.underlying22 Try.type61 rfl ?_ (by decide))
        intro w27 ho30 hx29
        have o15 := ho30
        have g15 := ext_grown (Ext.drew w) hx29
        have hv15 := World.ownsRow.kept (own_ext hv (Ext.drew _)) hx29 hap.ne
        refine WL.nil ?_
        refine thn_n ?_
        refine WF.seq ?_
        refine WF.region ?_
        refine WL.va rfl rfl rfl (X.move rfl) ?_
        refine WL.va rfl rfl rfl (X.moveI rfl) ?_
        refine WL.va rfl rfl rfl (X.slL (Row.of_own o15) rfl rfl (by omega) Try.underlying22 Try.sizeOf61) ?_
        refine WL.va rfl rfl rfl (X.move rfl) ?_
        refine WL.op rfl (OW.copyAt (m := 1) (j := i) (news := news) o15 (by decide) (Row.of_own hv15) (by rw [List.take_of_length_le (by omega)]) h1n rfl (Nat.min_eq_left (by omega)) (by decide) rfl rfl Try.underlying22 Try.type61 rfl ?_ (by decide))
        intro w31 ho34 hx33
        have o16 := ho34
        have g16 := grown2 g15 hx33
        refine WL.nil ?_
        refine thn_n ?_
        refine WF.seq ?_
        refine WF.region ?_
        refine WL.va rfl rfl rfl (X.move rfl) ?_
        refine WL.va rfl rfl rfl (X.assign rfl) ?_
        refine WL.nil ?_
        refine thn_n ?_
        refine WF.ret ?_
        refine thn_r ?_
        refine fin_r ?_
        refine ⟨?_, g16, .inl rfl⟩
        rw [ins_place hxl hyl hnl hlt rfl] at o16; exact o16

set_option maxHeartbeats 1600000 in
theorem place_ok (v : Value) (E : List KV) (s n : Int) (w : World) (re : KRow w v E) (de : KDat w E) (hs : SortK (E.map Prod.fst)) : FnOk Try.prog 39 [v, i64 s, i64 n] w (fun r w' => r = .tuple #[i64 (cntK (E.map Prod.fst) s n : Int), .bool (hasK (E.map Prod.fst) s n)] ∧ Ext w w') := by
  have hle : (E.length : Int) ≤ 9223372036854775807 := by obtain ⟨_, c, _, h1, h2, _⟩ := re.shape; unfold maxLen at h2; omega
  refine FnOk.enter (rs := [6, 7]) Try.func39 rfl Try.ntmps39 Try.results39 rfl rfl ?_
  refine WF.seq ?_
  refine WF.region ?_
  refine WL.va rfl rfl rfl (X.assignI rfl) ?_
  refine WL.va rfl rfl rfl (X.assignB rfl) ?_
  refine WL.nil ?_
  refine thn_n ?_
  refine WF.seq ?_
  refine WF.seq ?_
  refine WF.region ?_
  refine WL.va rfl rfl rfl (X.move rfl) ?_
  refine WL.va rfl rfl rfl (X.len re rfl Try.underlying22) ?_
  refine WL.va rfl rfl rfl (X.moveI rfl) ?_
  refine WL.nil ?_
  refine thn_n ?_
  refine WF.block ?_
  refine WF.named (fun F2 hF3 => ?_)
  refine WF.loopN (fun mL0 f' w' => ∃ (k : Nat), mL0 = E.length - k ∧ f' 12 = .int .i64 (k : Int) ∧ Agree [0, 1, 2, 10, 11] f' F2 ∧ Ext w w' ∧ k ≤ E.length ∧ ∀ j (hj : j < E.length), j < k → ltK s n E[j].1 = true) ?_ ?_
  · exact ⟨_, 0, rfl, (congrFun hF3 12), (Agree.refl _ _), (Ext.refl _), ⟨Nat.zero_le _, fun j _ h => by omega⟩⟩
  · rintro mL0 fL0 wL0 ⟨k, hmL0, e12_L0, hAL0, hwL0, ⟨hk0, hall⟩⟩
    refine WF.seq ?_
    refine WF.region ?_
    refine WL.va rfl rfl rfl (X.lss e12_L0 ((hAL0.eq 11).trans (congrFun hF3 11))) ?_
    refine WL.nil ?_
    refine thn_n ?_
    refine WF.seq ?_
    refine WF.cond rfl (fun h0_4 => ?_) (fun h0_4 => ?_)
    · have gh0_4 := (of_decide_eq_true h0_4)
      have hk : k < E.length := by omega
      refine WF.skip ?_
      refine thn_n ?_
      refine WF.seq ?_
      refine WF.block ?_
      refine WF.seq ?_
      refine WF.region ?_
      refine WL.va rfl rfl rfl (X.moveI e12_L0) ?_
      refine WL.va rfl rfl rfl (X.idx re ((hAL0.eq 10).trans (congrFun hF3 10)) e12_L0 (by omega) Try.underlying22 Try.sizeOf61) ?_
      refine WL.va rfl rfl rfl (X.loadEl re hwL0 rfl (by omega) (KRow.el hk) Try.isAgg61 Try.sizeOf61) ?_
      refine WL.op rfl (OW.allocO (cs := [i64 0, i64 0, .slice none 0 0]) Try.zeroValue61 rfl ?_ (by decide))
      intro g9 w6 heg9 hlg9 hO9 hx8
      have := World.grownBy.size hx8
      refine WL.va rfl rfl rfl (X.assignI rfl) ?_
      refine WL.op rfl (OW.storeOA hO9 rfl rfl rfl (KDat.one1 de hk) Try.sizeOf61 ?_)
      intro w10 hO9 hx12
      have := World.grownBy.size hx12
      replace hO9 : Blk _ _ _ (KV.c (E[k]'hk)) := hO9
      refine WL.nil ?_
      refine thn_n ?_
      refine WF.seq ?_
      refine WF.region ?_
      refine WL.va rfl rfl rfl (X.fieldAddrO (off := 0) rfl Try.underlying61 rfl rfl Try.sizeOf3) ?_
      refine WL.va rfl rfl rfl (X.loadO hO9 (Ext.refl _) rfl rfl Try.isAgg3) ?_
      refine WL.va rfl rfl rfl (X.moveI ((hAL0.eq 1).trans (congrFun hF3 1))) ?_
      refine WL.va rfl rfl rfl (X.gtr rfl rfl) ?_
      refine WL.va rfl rfl rfl (X.moveB rfl) ?_
      refine WL.split (j := 4) rfl (fun h15 => ?_) (fun h15 => ?_)
      · have gh15 := (of_decide_eq_true h15)
        have hge : ltK s n (E[k]'hk).1 = false := by unfold ltK; rw [decide_eq_false_iff_not]; omega
        refine WL.p rfl rfl rfl (congrArg some h15) ?_
        refine WL.p rfl rfl rfl (congrArg some h15) ?_
        refine WL.p rfl rfl rfl (congrArg some h15) ?_
        refine WL.p rfl rfl rfl (congrArg some h15) ?_
        refine WL.p rfl rfl rfl (congrArg some h15) ?_
        refine WL.pn rfl rfl rfl rfl ?_
        refine WL.pn rfl rfl rfl rfl ?_
        refine WL.pn rfl rfl rfl rfl ?_
        refine WL.pn rfl rfl rfl rfl ?_
        refine WL.p rfl rfl rfl (congrArg some h15) ?_
        refine WL.va rfl rfl rfl (X.pickT rfl h15 rfl) ?_
        refine WL.nil ?_
        refine thn_n ?_
        refine WF.cond_t rfl ?_
        refine WF.seq ?_
        refine WF.drawn (.q 0 (.q 1 (.q 2 (.q 3 (.q 4 (.q 5 (.q 6 (.q 7 (.q 8 (.q 9 (.q 10 (.q 11 (.q 12 .nil))))))))))))) (fun w' => Ext w10 w') 13 (by kernel_rfl) (by kernel_rfl) (Ext.drew _) ?_
        have := World.grownBy.size (Ext.drew w10)
        refine WO.q rfl rfl rfl rfl (fun w' hE17 => (X.moveI rfl)) ?_
        refine WO.q rfl rfl rfl rfl (fun w' hE17 => (X.fieldAddrO (off := 0) rfl Try.underlying61 rfl rfl Try.sizeOf3)) ?_
        refine WO.q rfl rfl rfl rfl (fun w' hE17 => (X.loadO hO9 hE17 rfl rfl Try.isAgg3)) ?_
        refine WO.q rfl rfl rfl rfl (fun w' hE17 => (X.moveI ((hAL0.eq 1).trans (congrFun hF3 1)))) ?_
        refine WO.q rfl rfl rfl rfl (fun w' hE17 => (X.eql rfl rfl)) ?_
        refine WO.q rfl rfl rfl rfl (fun w' hE17 => (X.moveB rfl)) ?_
        refine WO.split (j := 5) rfl (fun h19 => ?_) (fun h19 => ?_)
        · have gh19 := (of_decide_eq_true h19)
          have hsn := gh19
          refine WO.qg rfl rfl (congrArg some h19) rfl rfl (fun w' hE17 => (X.fieldAddrO (off := 1) rfl Try.underlying61 rfl rfl Try.sizeOf3)) ?_
          refine WO.qg rfl rfl (congrArg some h19) rfl rfl (fun w' hE17 => (X.loadO hO9 hE17 rfl rfl Try.isAgg3)) ?_
          refine WO.qg rfl rfl (congrArg some h19) rfl rfl (fun w' hE17 => (X.moveI ((hAL0.eq 2).trans (congrFun hF3 2)))) ?_
          refine WO.qg rfl rfl (congrArg some h19) rfl rfl (fun w' hE17 => (X.eql rfl rfl)) ?_
          refine WO.q rfl rfl rfl rfl (fun w' hE17 => (X.pickT rfl h19 rfl)) ?_
          refine WO.q rfl rfl rfl rfl (fun w' hE17 => (X.assignI rfl)) ?_
          refine WO.q rfl rfl rfl rfl (fun w' hE17 => (X.assignB rfl)) ?_
          refine WO.nil ?_
          refine WL.nil ?_
          refine thn_n ?_
          refine WF.ret ?_
          refine blk_r ?_
          refine thn_r ?_
          refine thn_r ?_
          refine blk_r ?_
          refine thn_r ?_
          refine fin_r ?_
          obtain ⟨hc, hh⟩ := place_res hs hk hall hge
          rw [hc, hh]
          exact ⟨congrArg (fun z => Value.tuple #[_, .bool z]) (by unfold isK; simp [hsn]), (Ext.trans (Ext.trans hwL0 (Ext.store hx8 hx12 (by omega))) (Ext.drew _))⟩
        · have gh19 := (of_decide_eq_false h19)
          have hsn := gh19
          refine WO.qp rfl rfl rfl rfl (congrArg some h19) ?_
          refine WO.qp rfl rfl rfl rfl (congrArg some h19) ?_
          refine WO.qp rfl rfl rfl rfl (congrArg some h19) ?_
          refine WO.qp rfl rfl rfl rfl (congrArg some h19) ?_
          refine WO.q rfl rfl rfl rfl (fun w' hE17 => (X.pickF rfl h19 rfl)) ?_
          refine WO.q rfl rfl rfl rfl (fun w' hE17 => (X.assignI rfl)) ?_
          refine WO.q rfl rfl rfl rfl (fun w' hE17 => (X.assignB rfl)) ?_
          refine WO.nil ?_
          refine WL.nil ?_
          refine thn_n ?_
          refine WF.ret ?_
          refine blk_r ?_
          refine thn_r ?_
          refine thn_r ?_
          refine blk_r ?_
          refine thn_r ?_
          refine fin_r ?_
          obtain ⟨hc, hh⟩ := place_res hs hk hall hge
          rw [hc, hh]
          exact ⟨congrArg (fun z => Value.tuple #[_, .bool z]) (by unfold isK; simp [hsn]), (Ext.trans (Ext.trans hwL0 (Ext.store hx8 hx12 (by omega))) (Ext.drew _))⟩
      · have gh15 := (of_decide_eq_false h15)
        have hng := gh15
        refine WL.vg rfl (congrArg some h15) rfl rfl (X.fieldAddrO (off := 0) rfl Try.underlying61 rfl rfl Try.sizeOf3) ?_
        refine WL.vg rfl (congrArg some h15) rfl rfl (X.loadO hO9 (Ext.refl _) rfl rfl Try.isAgg3) ?_
        refine WL.vg rfl (congrArg some h15) rfl rfl (X.moveI ((hAL0.eq 1).trans (congrFun hF3 1))) ?_
        refine WL.vg rfl (congrArg some h15) rfl rfl (X.eql rfl rfl) ?_
        refine WL.vg rfl (congrArg some h15) rfl rfl (X.moveB rfl) ?_
        refine WL.split (j := 9) rfl (fun h23 => ?_) (fun h23 => ?_)
        · have gh23 := (of_decide_eq_true h23)
          have heq := gh23
          refine WL.vg rfl (congrArg some h23) rfl rfl (X.fieldAddrO (off := 1) rfl Try.underlying61 rfl rfl Try.sizeOf3) ?_
          refine WL.vg rfl (congrArg some h23) rfl rfl (X.loadO hO9 (Ext.refl _) rfl rfl Try.isAgg3) ?_
          refine WL.vg rfl (congrArg some h23) rfl rfl (X.moveI ((hAL0.eq 2).trans (congrFun hF3 2))) ?_
          refine WL.vg rfl (congrArg some h23) rfl rfl (X.geq rfl rfl) ?_
          refine WL.vg rfl (congrArg some h15) rfl rfl (X.pickT rfl h23 rfl) ?_
          refine WL.va rfl rfl rfl (X.pickF rfl h15 rfl) ?_
          refine WL.nil ?_
          refine thn_n ?_
          refine WF.cond rfl (fun h1_24 => ?_) (fun h1_24 => ?_)
          · have gh1_24 := (of_decide_eq_true h1_24)
            have hge : ltK s n (E[k]'hk).1 = false := by unfold ltK; rw [decide_eq_false_iff_not]; omega
            refine WF.seq ?_
            refine WF.drawn (.q 0 (.q 1 (.q 2 (.q 3 (.q 4 (.q 5 (.q 6 (.q 7 (.q 8 (.q 9 (.q 10 (.q 11 (.q 12 .nil))))))))))))) (fun w' => Ext w10 w') 13 (by kernel_rfl) (by kernel_rfl) (Ext.drew _) ?_
            have := World.grownBy.size (Ext.drew w10)
            refine WO.q rfl rfl rfl rfl (fun w' hE26 => (X.moveI rfl)) ?_
            refine WO.q rfl rfl rfl rfl (fun w' hE26 => (X.fieldAddrO (off := 0) rfl Try.underlying61 rfl rfl Try.sizeOf3)) ?_
            refine WO.q rfl rfl rfl rfl (fun w' hE26 => (X.loadO hO9 hE26 rfl rfl Try.isAgg3)) ?_
            refine WO.q rfl rfl rfl rfl (fun w' hE26 => (X.moveI ((hAL0.eq 1).trans (congrFun hF3 1)))) ?_
            refine WO.q rfl rfl rfl rfl (fun w' hE26 => (X.eql rfl rfl)) ?_
            refine WO.q rfl rfl rfl rfl (fun w' hE26 => (X.moveB rfl)) ?_
            refine WO.split (j := 5) rfl (fun h28 => ?_) (fun h28 => ?_)
            · have gh28 := (of_decide_eq_true h28)
              have hsn := gh28
              refine WO.qg rfl rfl (congrArg some h28) rfl rfl (fun w' hE26 => (X.fieldAddrO (off := 1) rfl Try.underlying61 rfl rfl Try.sizeOf3)) ?_
              refine WO.qg rfl rfl (congrArg some h28) rfl rfl (fun w' hE26 => (X.loadO hO9 hE26 rfl rfl Try.isAgg3)) ?_
              refine WO.qg rfl rfl (congrArg some h28) rfl rfl (fun w' hE26 => (X.moveI ((hAL0.eq 2).trans (congrFun hF3 2)))) ?_
              refine WO.qg rfl rfl (congrArg some h28) rfl rfl (fun w' hE26 => (X.eql rfl rfl)) ?_
              refine WO.q rfl rfl rfl rfl (fun w' hE26 => (X.pickT rfl h28 rfl)) ?_
              refine WO.q rfl rfl rfl rfl (fun w' hE26 => (X.assignI rfl)) ?_
              refine WO.q rfl rfl rfl rfl (fun w' hE26 => (X.assignB rfl)) ?_
              refine WO.nil ?_
              refine WL.nil ?_
              refine thn_n ?_
              refine WF.ret ?_
              refine blk_r ?_
              refine thn_r ?_
              refine thn_r ?_
              refine blk_r ?_
              refine thn_r ?_
              refine fin_r ?_
              obtain ⟨hc, hh⟩ := place_res hs hk hall hge
              rw [hc, hh]
              exact ⟨congrArg (fun z => Value.tuple #[_, .bool z]) (by unfold isK; simp [hsn]), (Ext.trans (Ext.trans hwL0 (Ext.store hx8 hx12 (by omega))) (Ext.drew _))⟩
            · have gh28 := (of_decide_eq_false h28)
              have hsn := gh28
              refine WO.qp rfl rfl rfl rfl (congrArg some h28) ?_
              refine WO.qp rfl rfl rfl rfl (congrArg some h28) ?_
              refine WO.qp rfl rfl rfl rfl (congrArg some h28) ?_
              refine WO.qp rfl rfl rfl rfl (congrArg some h28) ?_
              refine WO.q rfl rfl rfl rfl (fun w' hE26 => (X.pickF rfl h28 rfl)) ?_
              refine WO.q rfl rfl rfl rfl (fun w' hE26 => (X.assignI rfl)) ?_
              refine WO.q rfl rfl rfl rfl (fun w' hE26 => (X.assignB rfl)) ?_
              refine WO.nil ?_
              refine WL.nil ?_
              refine thn_n ?_
              refine WF.ret ?_
              refine blk_r ?_
              refine thn_r ?_
              refine thn_r ?_
              refine blk_r ?_
              refine thn_r ?_
              refine fin_r ?_
              obtain ⟨hc, hh⟩ := place_res hs hk hall hge
              rw [hc, hh]
              exact ⟨congrArg (fun z => Value.tuple #[_, .bool z]) (by unfold isK; simp [hsn]), (Ext.trans (Ext.trans hwL0 (Ext.store hx8 hx12 (by omega))) (Ext.drew _))⟩
          · have gh1_24 := (of_decide_eq_false h1_24)
            have hlt : ltK s n (E[k]'hk).1 = true := by unfold ltK; rw [decide_eq_true_eq]; omega
            refine WF.skip ?_
            refine blk_n ?_
            refine thn_n ?_
            refine WF.region ?_
            refine WL.va rfl rfl rfl (X.add e12_L0 rfl (w64 (by omega))) ?_
            refine WL.va rfl rfl rfl (X.moveI rfl) ?_
            refine WL.nil ?_
            exact thn_n ⟨_, (by omega), k + 1, rfl, rfl, (by repeat (first | exact hAL0 | refine Agree.put ?_ rfl | refine Agree.named hF3 ?_)), (Ext.trans hwL0 (Ext.store hx8 hx12 (by omega))), ⟨by omega, fun j hj h => by rcases Nat.lt_succ_iff_lt_or_eq.1 h with h | rfl; exact hall j hj h; exact hlt⟩⟩
        · have gh23 := (of_decide_eq_false h23)
          have hlt : ltK s n (E[k]'hk).1 = true := by unfold ltK; rw [decide_eq_true_eq]; omega
          refine WL.p rfl rfl rfl (congrArg some h23) ?_
          refine WL.p rfl rfl rfl (congrArg some h23) ?_
          refine WL.p rfl rfl rfl (congrArg some h23) ?_
          refine WL.p rfl rfl rfl (congrArg some h23) ?_
          refine WL.vg rfl (congrArg some h15) rfl rfl (X.pickF rfl h23 rfl) ?_
          refine WL.va rfl rfl rfl (X.pickF rfl h15 rfl) ?_
          refine WL.nil ?_
          refine thn_n ?_
          refine WF.cond_f rfl ?_
          refine WF.skip ?_
          refine blk_n ?_
          refine thn_n ?_
          refine WF.region ?_
          refine WL.va rfl rfl rfl (X.add e12_L0 rfl (w64 (by omega))) ?_
          refine WL.va rfl rfl rfl (X.moveI rfl) ?_
          refine WL.nil ?_
          exact thn_n ⟨_, (by omega), k + 1, rfl, rfl, (by repeat (first | exact hAL0 | refine Agree.put ?_ rfl | refine Agree.named hF3 ?_)), (Ext.trans hwL0 (Ext.store hx8 hx12 (by omega))), ⟨by omega, fun j hj h => by rcases Nat.lt_succ_iff_lt_or_eq.1 h with h | rfl; exact hall j hj h; exact hlt⟩⟩
    · have gh0_4 := (of_decide_eq_false h0_4)
      refine WF.exit ?_
      refine thn_x ?_
      refine thn_x ?_
      refine blk_eq ?_
      refine thn_n ?_
      refine WF.seq ?_
      refine WF.region ?_
      refine WL.va rfl rfl rfl (X.move ((hAL0.eq 0).trans (congrFun hF3 0))) ?_
      refine WL.va rfl rfl rfl (X.len re rfl Try.underlying22) ?_
      refine WL.va rfl rfl rfl (X.assignI rfl) ?_
      refine WL.va rfl rfl rfl (X.assignB rfl) ?_
      refine WL.nil ?_
      refine thn_n ?_
      refine WF.ret ?_
      refine fin_r ?_
      obtain ⟨hc, hh⟩ := place_end hs (fun j hj => hall j hj (by omega))
      rw [hc, hh]
      exact ⟨rfl, hwL0⟩

set_option maxHeartbeats 800000 in
theorem kept_ok (v : Value) (l : List Kp) (s n : Int) (w : World) (h : Kps w v l) (hs : SortK l) (hd : ∀ x ∈ l, x.Data.length ≤ 1000000) : FnOk Try.prog 17 [v, i64 s, i64 n] w (fun r w' => (∃ dv, r = .tuple #[dv, .bool (hasK l s n)] ∧ OwnB w' w.heap.size 5 dv ((kepO l s n).getD [])) ∧ Ext w w') := by
  obtain ⟨E, rfl, re, de⟩ := h
  refine FnOk.enter (rs := [6, 7]) Try.func17 rfl Try.ntmps17 Try.results17 rfl rfl ?_
  refine WF.seq ?_
  refine WF.region ?_
  refine WL.va rfl rfl rfl (X.assign rfl) ?_
  refine WL.va rfl rfl rfl (X.assignB rfl) ?_
  refine WL.nil ?_
  refine thn_n ?_
  refine WF.seq ?_
  refine WF.region ?_
  refine WL.va rfl rfl rfl (X.move rfl) ?_
  refine WL.va rfl rfl rfl (X.moveI rfl) ?_
  refine WL.va rfl rfl rfl (X.moveI rfl) ?_
  refine WL.c rfl rfl rfl (X.call Try.call39 (evl_cons rfl (evl_cons rfl (evl_cons rfl evl_nil)))) (place_ok _ E s n _ (Row.ext re (Ext.refl w)) (de.ext (Ext.refl w)) hs) ?_
  rintro v3 w2 ⟨rfl, hx4⟩
  refine WL.va rfl rfl rfl (X.move rfl) ?_
  refine WL.va rfl rfl rfl (X.extract rfl rfl) ?_
  refine WL.va rfl rfl rfl (X.extract rfl rfl) ?_
  refine WL.va rfl rfl rfl (X.assignI rfl) ?_
  refine WL.va rfl rfl rfl (X.assignB rfl) ?_
  refine WL.nil ?_
  refine thn_n ?_
  refine WF.seq ?_
  refine WF.seq ?_
  refine WF.region ?_
  refine WL.va rfl rfl rfl (X.moveB rfl) ?_
  refine WL.va rfl rfl rfl (X.not rfl) ?_
  refine WL.nil ?_
  refine thn_n ?_
  refine WF.cond rfl (fun h0_6 => ?_) (fun h0_6 => ?_)
  · have gh0_6 := (nt h0_6)
    have hno : hasK (E.map Prod.fst) s n = false := gh0_6
    refine WF.seq ?_
    refine WF.region ?_
    refine WL.va rfl rfl rfl (X.assign rfl) ?_
    refine WL.va rfl rfl rfl (X.assignB rfl) ?_
    refine WL.nil ?_
    refine thn_n ?_
    refine WF.ret ?_
    refine thn_r ?_
    refine fin_r ?_
    exact ⟨⟨_, by rw [hno]; rfl, by rw [kepO_none hno]; exact nil_own _ _ _⟩, hx4⟩
  · have gh0_6 := (nf h0_6)
    have hyes : hasK (E.map Prod.fst) s n = true := gh0_6
    obtain ⟨hk, he⟩ := (hasK_iff hs).1 hyes
    have hk2 : (cntK (E.map Prod.fst) s n) < E.length := by simpa using hk
    have hat := kep_at hs hk he
    rw [List.getElem_map] at hat
    refine WF.skip ?_
    refine thn_n ?_
    refine WF.seq ?_
    refine WF.region ?_
    refine WL.va rfl rfl rfl (X.move rfl) ?_
    refine WL.va rfl rfl rfl (X.moveI rfl) ?_
    refine WL.va rfl rfl rfl (X.idx re rfl rfl (by omega) Try.underlying22 Try.sizeOf61) ?_
    refine WL.va rfl rfl rfl (X.fieldAddrA rfl Try.underlying61 rfl rfl Try.sizeOf34) ?_
    refine WL.va rfl rfl rfl (X.loadE re hx4 rfl (by omega) ((KRow.get hk2 (by decide)).trans rfl) Try.isAgg34) ?_
    have szq := World.grownBy.size (show Ext w w2 from hx4)
    refine WL.c rfl rfl rfl (X.call Try.call38 (evl_cons rfl evl_nil)) (cloneB_ok _ _ _ (Row.ext (de _ (List.getElem_mem hk2)) hx4) (hd _ (List.mem_map.2 ⟨_, List.getElem_mem hk2, rfl⟩))) ?_
    rintro dv w9 ⟨od, hx10⟩
    refine WL.va rfl rfl rfl (X.assign rfl) ?_
    refine WL.va rfl rfl rfl (X.assignB rfl) ?_
    refine WL.nil ?_
    refine thn_n ?_
    refine WF.ret ?_
    refine fin_r ?_
    exact ⟨⟨dv, by rw [hyes]; rfl, by rw [hat]; exact own_mono od szq⟩, (Ext.trans hx4 hx10)⟩

set_option maxHeartbeats 8000000 in
theorem keep_ok (v : Value) (kk : List Kp) (s lo hi : Int) (vb : Value) (bl : List Bl) (w : World) (h : Kps w v kk) (hrk : RightK kk) (hkl : kk.length ≤ 1000) (hb : Bls w vb bl) (hrb : RightB bl) : FnOk Try.prog 15 [v, i64 s, agg [i64 lo, i64 hi], vb] w (fun r w' => (∃ F, F.map Prod.fst = keepK kk s lo hi bl ∧ KOwn w' w.heap.size r F) ∧ Ext w w') := by
  obtain ⟨E, rfl, re, de⟩ := h
  rw [List.length_map] at hkl
  have hd : ∀ x ∈ E.map Prod.fst, x.Data.length ≤ 1000000 := fun x hx => by have := (hrk.each x hx).2.2; omega
  obtain ⟨a, ha⟩ : ∃ a : Nat, max 0 lo = (a : Int) := ⟨(max 0 lo).toNat, by omega⟩
  refine FnOk.enter (rs := [8]) Try.func15 rfl Try.ntmps15 Try.results15 rfl rfl ?_
  refine WF.seq ?_
  refine WF.region ?_
  refine WL.op rfl (OW.boxA (cs := [i64 lo, i64 hi]) rfl ?_ (by decide))
  intro g6 wb heg6 hlg6 hO6 hx2
  have := World.grownBy.size hx2
  have hwb0 := hx2
  refine WL.va rfl rfl rfl (X.assign rfl) ?_
  refine WL.nil ?_
  refine thn_n ?_
  refine WF.seq ?_
  refine WF.region ?_
  refine WL.va rfl rfl rfl (X.assign rfl) ?_
  refine WL.nil ?_
  refine thn_n ?_
  refine WF.seq ?_
  refine WF.seq ?_
  refine WF.region ?_
  refine WL.va rfl rfl rfl (X.move rfl) ?_
  refine WL.va rfl rfl rfl (X.len re rfl Try.underlying22) ?_
  refine WL.va rfl rfl rfl (X.moveI rfl) ?_
  refine WL.nil ?_
  refine thn_n ?_
  refine WF.block ?_
  refine WF.named (fun F4 hF5 => ?_)
  refine WF.loopN (fun mL0 f' w' => ∃ (k : Nat) (vo : Value) (O0 : List KV), mL0 = E.length - k ∧ f' 17 = .int .i64 (k : Int) ∧ f' 9 = vo ∧ Agree [0, 1, 2, 3, 6, 8, 15, 16] f' F4 ∧ Ext wb w' ∧ k ≤ E.length ∧ O0.length = k ∧ KOwn w' wb.heap.size vo O0 ∧ O0.map Prod.fst = (E.map Prod.fst).take k) ?_ ?_
  · exact ⟨_, 0, (.slice none 0 0), [], rfl, (congrFun hF5 17), (congrFun hF5 9), (Agree.refl _ _), (Ext.refl _), ⟨Nat.zero_le _, rfl, KOwn.nil _ _, rfl⟩⟩
  · rintro mL0 fL0 wL0 ⟨k, vo, O0, hmL0, e17_L0, e9_L0, hAL0, hwL0, ⟨hk0, hOl, ho, hO⟩⟩
    have := World.grownBy.size hwL0
    refine WF.seq ?_
    refine WF.region ?_
    refine WL.va rfl rfl rfl (X.lss e17_L0 ((hAL0.eq 16).trans (congrFun hF5 16))) ?_
    refine WL.nil ?_
    refine thn_n ?_
    refine WF.seq ?_
    refine WF.cond rfl (fun h0_6 => ?_) (fun h0_6 => ?_)
    · have gh0_6 := (of_decide_eq_true h0_6)
      have hk : k < E.length := by omega
      refine WF.skip ?_
      refine thn_n ?_
      refine WF.seq ?_
      refine WF.block ?_
      refine WF.seq ?_
      refine WF.region ?_
      refine WL.va rfl rfl rfl (X.idx re ((hAL0.eq 15).trans (congrFun hF5 15)) e17_L0 (by omega) Try.underlying22 Try.sizeOf61) ?_
      refine WL.va rfl rfl rfl (X.loadEl re (Ext.trans hx2 hwL0) rfl (by omega) (KRow.el hk) Try.isAgg61 Try.sizeOf61) ?_
      refine WL.op rfl (OW.allocO (cs := [i64 0, i64 0, .slice none 0 0]) Try.zeroValue61 rfl ?_ (by decide))
      intro g11 w8 heg11 hlg11 hO11 hx10
      have := World.grownBy.size hx10
      refine WL.op rfl (OW.storeOA hO11 rfl rfl rfl (KDat.one1 de hk) Try.sizeOf61 ?_)
      intro w12 hO11 hx14
      have := World.grownBy.size hx14
      replace hO6 := (hO6.ext (Ext.trans hwL0 hx10)).keptO hx14 (by omega)
      replace hO11 : Blk _ _ _ (KV.c (E[k]'hk)) := hO11
      refine WL.nil ?_
      refine thn_n ?_
      refine WF.drawn (.q 0 (.q 1 (.q 2 (.q 3 (.q 4 (.q 5 (.q 6 (.l 7 (.q 8 (.l 9 .nil)))))))))) (fun w' => Ext w12 w') 10 (by kernel_rfl) (by kernel_rfl) (Ext.drew _) ?_
      have := World.grownBy.size (Ext.drew w12)
      refine WO.q rfl rfl rfl rfl (fun w' hE16 => (X.move e9_L0)) ?_
      refine WO.q rfl rfl rfl rfl (fun w' hE16 => (X.fieldAddrO (off := 0) rfl Try.underlying61 rfl rfl Try.sizeOf3)) ?_
      refine WO.q rfl rfl rfl rfl (fun w' hE16 => (X.loadO hO11 hE16 rfl rfl Try.isAgg3)) ?_
      refine WO.q rfl rfl rfl rfl (fun w' hE16 => (X.fieldAddrO (off := 1) rfl Try.underlying61 rfl rfl Try.sizeOf3)) ?_
      refine WO.q rfl rfl rfl rfl (fun w' hE16 => (X.loadO hO11 hE16 rfl rfl Try.isAgg3)) ?_
      refine WO.q rfl rfl rfl rfl (fun w' hE16 => (X.fieldAddrO (off := 2) rfl Try.underlying61 rfl rfl Try.sizeOf34)) ?_
      refine WO.q rfl rfl rfl rfl (fun w' hE16 => (X.loadO hO11 hE16 rfl rfl Try.isAgg34)) ?_
      refine WO.l ?_
      have hoA := ho.ext (Ext.trans (Ext.store hx10 hx14 (by omega)) (Ext.drew _))
      have hBz := World.grownBy.size (show Ext wb w12.drew from (Ext.trans (Ext.trans hwL0 (Ext.store hx10 hx14 (by omega))) (Ext.drew _)))
      refine LO.go rfl rfl (OW.enter rfl (by decide) (X.call Try.call38 (evl_cons rfl evl_nil)) (cloneB_ok _ (E[k]'hk).1.Data _ (Row.ext (de _ (List.getElem_mem hk)) (Ext.trans (Ext.trans (Ext.trans hx2 hwL0) (Ext.store hx10 hx14 (by omega))) (Ext.drew _))) (hd _ (List.mem_map.2 ⟨_, List.getElem_mem hk, rfl⟩))) ?_)
      rintro dv w17 ⟨od, hx18⟩
      have := World.grownBy.size hx18
      refine ⟨(Ext.trans (Ext.drew _) hx18), ?_⟩
      have gq1 := hx18
      refine WO.q rfl rfl rfl rfl (fun w' hE16 => (X.buildL (P := Try.prog) (t := 61) (cs := (KV.c ((E[k]'hk).1, dv))) (evp_cons rfl (evp_cons rfl (evp_cons rfl evp_nil))) Try.type61 Try.underlying61 rfl rfl ⟨rfl, rfl, own_one od, trivial⟩ rfl)) ?_
      refine WO.l ?_
      refine LO.go rfl rfl (OW.lits (vs := [agg (KV.c ((E[k]'hk).1, dv))]) (evp_cons rfl evp_nil) Try.underlying22 Try.sizeOf61 Try.zeroValue61 ⟨rfl, trivial⟩ rfl rfl rfl ?_ (by decide))
      intro v20 w19 ho22 hx21
      have := World.grownBy.size hx21
      have o1 : World.ownsRow w19 _ 61 3 v20 1 (KV.c ((E[k]'hk).1, dv)) := ho22
      have gq2 := hx21
      refine ⟨(Ext.trans (Ext.trans (Ext.drew _) hx18) hx21), ?_⟩
      refine WO.nil ?_
      refine WL.op rfl (OW.append (bytes := 40) (own_ext (own_ext hoA.row gq1) gq2) (Row.of_own o1) (KV.c_one (e := ((E[k]'hk).1, dv)) (Bytes.of_own od)) rfl rfl Try.underlying22 Try.type61 rfl rfl rfl rfl (by decide) (by unfold maxLen; omega) (by omega) (Nat.le_trans hBz (Nat.le_trans (World.grownBy.size gq1) (World.grownBy.size gq2))) ?_ (by decide))
      intro v24 w23 ho26 hx25 hmvhx25
      have ho2 := hoA.app (s := (E[k]'hk).1) od gq1 gq2 ho26 hx25 hmvhx25 hBz
      refine WL.va rfl rfl rfl (X.assign rfl) ?_
      refine WL.nil ?_
      refine blk_n ?_
      refine thn_n ?_
      refine WF.region ?_
      refine WL.va rfl rfl rfl (X.add e17_L0 rfl (w64 (by omega))) ?_
      refine WL.va rfl rfl rfl (X.moveI rfl) ?_
      refine WL.nil ?_
      exact thn_n ⟨_, (by omega), k + 1, _, _, rfl, rfl, rfl, (by repeat (first | exact hAL0 | refine Agree.put ?_ rfl | refine Agree.named hF5 ?_)), (Ext.own (Ext.trans (Ext.trans (Ext.trans (Ext.trans hwL0 (Ext.store hx10 hx14 (by omega))) (Ext.drew _)) hx18) hx21) (own_ext (own_ext hoA.row gq1) gq2) (Nat.le_refl _) hx25), ⟨by omega, by simp [hOl], ho2, by rw [take_map hk, List.map_append, hO]; rfl⟩⟩
    · have gh0_6 := (of_decide_eq_false h0_6)
      obtain rfl : k = E.length := by omega
      rw [List.take_of_length_le (by simp)] at hO
      rw [← hO] at hrk hd
      refine WF.exit ?_
      refine thn_x ?_
      refine thn_x ?_
      refine blk_eq ?_
      refine thn_n ?_
      refine WF.seq ?_
      refine WF.seq ?_
      refine WF.region ?_
      refine WL.va rfl rfl rfl (X.fieldAddrO (off := 0) ((hAL0.eq 6).trans (congrFun hF5 6)) Try.underlying30 rfl rfl Try.sizeOf3) ?_
      refine WL.va rfl rfl rfl (X.loadO hO6 hwL0 rfl rfl Try.isAgg3) ?_
      refine WL.va rfl rfl rfl ((X.max2 rfl rfl).trans (by rw [ha])) ?_
      refine WL.va rfl rfl rfl (X.assignI rfl) ?_
      refine WL.nil ?_
      refine thn_n ?_
      refine WF.block ?_
      refine WF.named (fun F27 hF28 => ?_)
      refine WF.loopN (fun mL1 f' w' => ∃ (c : Nat) (vo : Value) (O : List KV), mL1 = 64 - (a + c) ∧ f' 12 = .int .i64 ((a + c : Nat) : Int) ∧ f' 9 = vo ∧ Agree [0, 1, 2, 3, 6, 8, 15, 16, 17, 18, 33, 34, 35] f' F27 ∧ Ext wb w' ∧ KOwn w' wb.heap.size vo O ∧ O.map Prod.fst = keepC (O0.map Prod.fst) s bl a c ∧ (((a + c : Nat) : Int) ≤ min hi 64 ∨ c = 0)) ?_ ?_
      · exact ⟨_, 0, _, O0, rfl, (congrFun hF28 12), ((congrFun hF28 9).trans e9_L0), (Agree.refl _ _), hwL0, ⟨ho, rfl, .inr rfl⟩⟩
      · rintro mL1 fL1 wL1 ⟨c, vo, O, hmL1, e12_L1, e9_L1, hAL1, hwL1, ⟨ho, hO1, hcc⟩⟩
        have := World.grownBy.size hwL1
        refine WF.seq ?_
        refine WF.seq ?_
        refine WF.region ?_
        refine WL.va rfl rfl rfl (X.moveI e12_L1) ?_
        refine WL.va rfl rfl rfl (X.fieldAddrO (off := 1) ((hAL1.eq 6).trans ((congrFun hF28 6).trans ((hAL0.eq 6).trans (congrFun hF5 6)))) Try.underlying30 rfl rfl Try.sizeOf3) ?_
        refine WL.va rfl rfl rfl (X.loadO hO6 hwL1 rfl rfl Try.isAgg3) ?_
        refine WL.va rfl rfl rfl (X.min2 rfl rfl) ?_
        refine WL.va rfl rfl rfl (X.lss rfl rfl) ?_
        refine WL.nil ?_
        refine thn_n ?_
        refine WF.cond rfl (fun h1_29 => ?_) (fun h1_29 => ?_)
        · have gh1_29 := (of_decide_eq_true h1_29)
          have hac : a + c < 64 := by omega
          have hrO : RightK (O.map Prod.fst) := by rw [hO1]; exact keepC_right hrk hrb c (by omega)
          have hlO : O.length ≤ 1064 := by have h1 := keepC_len (kk := O0.map Prod.fst) (s := s) (bl := bl) (a := a) c; rw [← hO1, List.length_map, List.length_map] at h1; omega
          have hcO : (cntK (O.map Prod.fst) s ((a + c : Nat) : Int)) ≤ O.length := by have := cntK_le (l := O.map Prod.fst) (s := s) (n := ((a + c : Nat) : Int)); simpa using this
          refine WF.skip ?_
          refine thn_n ?_
          refine WF.seq ?_
          refine WF.block ?_
          refine WF.seq ?_
          refine WF.region ?_
          refine WL.va rfl rfl rfl (X.move e9_L1) ?_
          refine WL.va rfl rfl rfl (X.moveI ((hAL1.eq 1).trans ((congrFun hF28 1).trans ((hAL0.eq 1).trans (congrFun hF5 1))))) ?_
          refine WL.va rfl rfl rfl (X.moveI e12_L1) ?_
          refine WL.c rfl rfl rfl (X.call Try.call39 (evl_cons rfl (evl_cons rfl (evl_cons rfl evl_nil)))) (place_ok _ O s ((a + c : Nat) : Int) _ (Row.ext ho.srow (Ext.refl wL1)) (ho.sdat.ext (Ext.refl wL1)) hrO.sort) ?_
          rintro v32 w31 ⟨rfl, hx33⟩
          have := World.grownBy.size hx33
          refine WL.va rfl rfl rfl (X.move rfl) ?_
          refine WL.va rfl rfl rfl (X.extract rfl rfl) ?_
          refine WL.va rfl rfl rfl (X.extract rfl rfl) ?_
          refine WL.va rfl rfl rfl (X.assignI rfl) ?_
          refine WL.va rfl rfl rfl (X.assignB rfl) ?_
          refine WL.nil ?_
          refine thn_n ?_
          refine WF.seq ?_
          refine WF.region ?_
          refine WL.va rfl rfl rfl (X.moveB rfl) ?_
          refine WL.nil ?_
          refine thn_n ?_
          refine WF.cond rfl (fun h2_34 => ?_) (fun h2_34 => ?_)
          · have gh2_34 := h2_34
            have hth := gh2_34
            obtain ⟨hkO1, _⟩ := (hasK_iff hrO.sort).1 gh2_34
            have hkO : (cntK (O.map Prod.fst) s ((a + c : Nat) : Int)) < O.length := by simpa using hkO1
            refine WF.region ?_
            refine WL.va rfl rfl rfl (X.move e9_L1) ?_
            refine WL.va rfl rfl rfl (X.moveI rfl) ?_
            refine WL.va rfl rfl rfl (X.move ((hAL1.eq 3).trans ((congrFun hF28 3).trans ((hAL0.eq 3).trans (congrFun hF5 3))))) ?_
            refine WL.va rfl rfl rfl (X.moveI e12_L1) ?_
            have hoA := ho.ext hx33
            have hBz := World.grownBy.size (show Ext wb w31 from (Ext.trans hwL1 hx33))
            refine WL.c rfl rfl rfl (X.call Try.call25 (evl_cons rfl (evl_cons rfl evl_nil))) (get_ok _ bl ((a + c : Nat) : Int) _ (hb.ext (Ext.trans (Ext.trans hx2 hwL1) hx33)) hrb) ?_
            rintro dv w36 ⟨od, hx37⟩
            have := World.grownBy.size hx37
            have gq1 := hx37
            refine WL.va rfl rfl rfl (X.idx ho.srow rfl rfl hkO Try.underlying22 Try.sizeOf61) ?_
            refine WL.va rfl rfl rfl (X.fieldAddrA rfl Try.underlying61 rfl rfl Try.sizeOf34) ?_
            refine WL.op rfl (OW.storeIF (i := (cntK (O.map Prod.fst) s ((a + c : Nat) : Int))) (off := 2) (own_ext hoA.row gq1) hkO (by decide) rfl rfl (own_one od) Try.sizeOf34 ?_)
            intro w38 ho41 hx40
            have ho2 := hoA.setD od gq1 hkO ho41 hx40 hBz
            have hnx := putK_setE (d := getB bl ((a + c : Nat) : Int)) (dv := dv) hrO.sort hth hkO
            refine WL.nil ?_
            refine blk_n ?_
            refine thn_n ?_
            refine WF.region ?_
            refine WL.va rfl rfl rfl (X.moveI e12_L1) ?_
            refine WL.va rfl rfl rfl (X.add rfl rfl (w64 (by omega))) ?_
            refine WL.va rfl rfl rfl (X.assignI rfl) ?_
            refine WL.nil ?_
            exact thn_n ⟨_, (by omega), c + 1, _, _, rfl, rfl, e9_L1, (by repeat (first | exact hAL1 | refine Agree.put ?_ rfl | refine Agree.sub hAL0 rfl ?_ | refine Agree.named hF28 ?_ | refine Agree.named hF5 ?_)), (Ext.own (Ext.trans (Ext.trans hwL1 hx33) hx37) (own_ext hoA.row gq1) (Nat.le_refl _) hx40), ⟨ho2, by rw [hnx, hO1]; rfl, .inl (by omega)⟩⟩
          · have gh2_34 := h2_34
            have hth := gh2_34
            refine WF.region ?_
            refine WL.va rfl rfl rfl (X.move e9_L1) ?_
            refine WL.va rfl rfl rfl (X.moveI rfl) ?_
            refine WL.va rfl rfl rfl (X.moveI ((hAL1.eq 1).trans ((congrFun hF28 1).trans ((hAL0.eq 1).trans (congrFun hF5 1))))) ?_
            refine WL.va rfl rfl rfl (X.moveI e12_L1) ?_
            refine WL.va rfl rfl rfl (X.move ((hAL1.eq 3).trans ((congrFun hF28 3).trans ((hAL0.eq 3).trans (congrFun hF5 3))))) ?_
            refine WL.va rfl rfl rfl (X.moveI e12_L1) ?_
            have hoA := ho.ext hx33
            have hBz := World.grownBy.size (show Ext wb w31 from (Ext.trans hwL1 hx33))
            refine WL.c rfl rfl rfl (X.call Try.call25 (evl_cons rfl (evl_cons rfl evl_nil))) (get_ok _ bl ((a + c : Nat) : Int) _ (hb.ext (Ext.trans (Ext.trans hx2 hwL1) hx33)) hrb) ?_
            rintro dv wn1 ⟨od, hx42⟩
            have := World.grownBy.size hx42
            have gq1 := hx42
            have hsz1 := World.grownBy.size gq1
            refine WL.va rfl rfl rfl (X.buildL (P := Try.prog) (t := 61) (cs := (KV.c ((⟨s, ((a + c : Nat) : Int), getB bl ((a + c : Nat) : Int)⟩ : Kp), dv))) (evp_cons rfl (evp_cons rfl (evp_cons rfl evp_nil))) Try.type61 Try.underlying61 rfl rfl ⟨rfl, rfl, own_one od, trivial⟩ rfl) ?_
            refine WL.op rfl (OW.lits (vs := [agg (KV.c ((⟨s, ((a + c : Nat) : Int), getB bl ((a + c : Nat) : Int)⟩ : Kp), dv))]) (evp_cons rfl evp_nil) Try.underlying22 Try.sizeOf61 Try.zeroValue61 ⟨rfl, trivial⟩ rfl rfl rfl ?_ (by decide))
            intro v44 w43 ho46 hx45
            have := World.grownBy.size hx45
            have o1 : World.ownsRow w43 _ 61 3 v44 1 (KV.c ((⟨s, ((a + c : Nat) : Int), getB bl ((a + c : Nat) : Int)⟩ : Kp), dv)) := ho46
            have hw2 := (show Ext wn1 w43 from hx45)
            have hsz2 := World.grownBy.size (Ext.trans gq1 hw2)
            refine WL.c rfl rfl rfl (X.call Try.call40 (evl_cons rfl (evl_cons rfl (evl_cons rfl evl_nil)))) (insertK_ok _ _ _ _ O.length (cntK (O.map Prod.fst) s ((a + c : Nat) : Int)) _ _ _ (own_ext hoA.row (Ext.trans gq1 hw2)) o1 (fun b h1 h2 => by have := (o1.lt b h1).1; have := (hoA.row.lt b h2).2; omega) hoA.sdat.one (KV.c_one (e := ((⟨s, ((a + c : Nat) : Int), getB bl ((a + c : Nat) : Int)⟩ : Kp), dv)) (Bytes.of_own od)) hcO (by omega) (by omega)) ?_
            rintro v48 w47 ⟨oi, hx49, hmv⟩
            have := World.grownBy.size hx49
            have ho2 := hoA.ins (s := ⟨s, ((a + c : Nat) : Int), getB bl ((a + c : Nat) : Int)⟩) od gq1 hw2 hcO oi hx49 hmv hBz
            have hnx := putK_insE (d := getB bl ((a + c : Nat) : Int)) (dv := dv) hrO.sort hth
            refine WL.va rfl rfl rfl (X.assign rfl) ?_
            refine WL.nil ?_
            refine blk_n ?_
            refine thn_n ?_
            refine WF.region ?_
            refine WL.va rfl rfl rfl (X.moveI e12_L1) ?_
            refine WL.va rfl rfl rfl (X.add rfl rfl (w64 (by omega))) ?_
            refine WL.va rfl rfl rfl (X.assignI rfl) ?_
            refine WL.nil ?_
            exact thn_n ⟨_, (by omega), c + 1, _, _, rfl, rfl, rfl, (by repeat (first | exact hAL1 | refine Agree.put ?_ rfl | refine Agree.sub hAL0 rfl ?_ | refine Agree.named hF28 ?_ | refine Agree.named hF5 ?_)), (Ext.own (Ext.trans (Ext.trans (Ext.trans hwL1 hx33) hx42) hx45) (own_ext hoA.row (Ext.trans gq1 hw2)) (Nat.le_refl _) hx49), ⟨ho2, by rw [hnx, hO1]; rfl, .inl (by omega)⟩⟩
        · have gh1_29 := (of_decide_eq_false h1_29)
          refine WF.exit ?_
          refine thn_x ?_
          refine thn_x ?_
          refine blk_eq ?_
          refine thn_n ?_
          refine WF.seq ?_
          refine WF.region ?_
          refine WL.va rfl rfl rfl (X.move e9_L1) ?_
          refine WL.va rfl rfl rfl (X.assign rfl) ?_
          refine WL.nil ?_
          refine thn_n ?_
          refine WF.ret ?_
          refine fin_r ?_
          obtain rfl : a = (keepN lo hi).1 := by show a = (max 0 lo).toNat; omega
          obtain rfl : c = (keepN lo hi).2 := by show c = (min hi 64 - max 0 lo).toNat; omega
          exact ⟨⟨O, by rw [← hO]; exact hO1, ho.mono (World.grownBy.size hwb0)⟩, (Ext.trans hx2 hwL1)⟩

end Go.Proofs.Ytcaimmbhdfoniaa
