/- The walks of knownLong and of MessageKnown. -/
import Derived.Test.YtccbpfbcaogcnaaMgX
import Derived.Test.YtccbpfbcaogcnaaMgU
import Derived.Test.YtccbpfbcaogcnaaMgV
namespace Go.Proofs.Ytccbpfbcaogcnaa
open Go Go.RowKit Kf
set_option maxRecDepth 20000
def longM (D : List UInt8) : Mg := ⟨([6, 101, 1, 0, 0, 0, 0, 0, 0, 0, 0, 0, 0, 1] : List Int), false, [], D⟩
def appM (E : List En) : Mg := ⟨([3, 1, 2, 0, 0, 0, 0, 0, 0, 0, 0, 0, 0, 0] : List Int), false, E, []⟩
theorem rng_of {n : List Int} (h : n.all (fun x => decide (rng x)) = true) (k : Nat) : rng (n.getD k 0) := by
  by_cases hk : k < n.length
  · rw [List.getD_eq_getElem?_getD, List.getElem?_eq_getElem hk]
    exact of_decide_eq_true (List.all_eq_true.1 h _ (List.getElem_mem hk))
  · rw [List.getD_eq_getElem?_getD, List.getElem?_eq_none (by omega)]
    exact ⟨by decide, by decide⟩
theorem longM_chk (D : List UInt8) : chk (longM D) = if D.length ≤ 65488 then 0 else 2 := by
  have hb : (longM D).bareP := ⟨(show ∀ p, p < 11 → p ∉ places 6 → ([6, 101, 1, 0, 0, 0, 0, 0, 0, 0, 0, 0, 0, 1] : List Int).getD (cl p) 0 = 0 by decide), fun _ => rfl, fun _ => rfl, fun h => absurd (show 13 ∈ places 6 by decide) h⟩
  have hr : (longM D).rangeP := ⟨(show (1 : Int) ≤ 101 ∧ (101 : Int) ≤ 199 by decide), (show (1 : Int) ≤ 1 ∧ (1 : Int) ≤ 199 by decide), (show ∀ p ∈ places 6, p < 11 → lowP p ≤ ([6, 101, 1, 0, 0, 0, 0, 0, 0, 0, 0, 0, 0, 1] : List Int).getD (cl p) 0 ∧ ([6, 101, 1, 0, 0, 0, 0, 0, 0, 0, 0, 0, 0, 1] : List Int).getD (cl p) 0 ≤ highP p by decide), fun e he => by cases he⟩
  show (if ¬ (1 ≤ (6 : Int) ∧ (6 : Int) ≤ 11) then 13 else if ¬ (longM D).bareP then 14 else if ¬ (longM D).rangeP then 3 else if ¬ (longM D).fitsP then (2 : Int) else 0) = _
  rw [if_neg (show ¬ ¬ (1 ≤ (6 : Int) ∧ (6 : Int) ≤ 11) by decide), if_neg (fun q => q hb), if_neg (fun q => q hr)]
  by_cases h : D.length ≤ 65488
  · have hf : (longM D).fitsP := ⟨Nat.zero_le _, (show D.length ≤ 65536 by omega), (show 8 * (3 + (places 6).length) + D.length + 0 ≤ 65536 by rw [show (places 6).length = 3 from rfl]; omega)⟩
    rw [if_pos h, if_neg (fun q => q hf)]
  · have hf : ¬ (longM D).fitsP := fun q => by
      have h3 : 8 * (3 + (places 6).length) + D.length + 0 ≤ 65536 := q.2.2
      rw [show (places 6).length = 3 from rfl] at h3; omega
    rw [if_neg h, if_pos hf]
theorem longM_at {w : World} {v : Value} {D : List UInt8} (h : Bytes w v D) : MgAt w (.slice none 0 0) v (longM D) := ⟨rfl, rng_of (n := ([6, 101, 1, 0, 0, 0, 0, 0, 0, 0, 0, 0, 0, 1] : List Int)) (by decide), (fun e he => by cases he), ⟨[], rfl, Row.of_own (World.ownsRow_nil _ 0 57 _), (fun e he => by cases he)⟩, h⟩
theorem appM_at {w : World} {v : Value} {E : List En} (h : Ens w v E) (hr : ∀ e ∈ E, rng e.Term ∧ rng e.Kind) : MgAt w v (.slice none 0 0) (appM E) := ⟨rfl, rng_of (n := ([3, 1, 2, 0, 0, 0, 0, 0, 0, 0, 0, 0, 0, 0] : List Int)) (by decide), hr, h, Bytes.nil _⟩
theorem made_ens : ∀ n : Nat, ((List.replicate n ()).flatMap fun _ => (#[i64 0, i64 0, (.slice none 0 0)] : Array Value).toList) = (List.replicate n ((⟨0, 0, []⟩ : En), ((.slice none 0 0) : Value))).flatMap EV.c
  | 0 => rfl
  | n + 1 => by rw [List.replicate_succ, List.replicate_succ, List.flatMap_cons, List.flatMap_cons, made_ens n]
theorem ens_made {w : World} {B n : Nat} {v : Value} (h : w.ownsRow B 57 3 v n (madeCells #[i64 0, i64 0, (.slice none 0 0)] (n * 3)).toList) : Ens w v (List.replicate n ⟨0, 0, []⟩) := by
  have e : (madeCells #[i64 0, i64 0, (.slice none 0 0)] (n * 3)).toList = (List.replicate n ((⟨0, 0, []⟩ : En), ((.slice none 0 0) : Value))).flatMap EV.c :=
    (made_flat #[i64 0, i64 0, (.slice none 0 0)] (by decide) n).trans (made_ens n)
  rw [e] at h
  refine ⟨List.replicate n ((⟨0, 0, []⟩ : En), ((.slice none 0 0) : Value)), by simp, ?_, fun e he => ?_⟩
  · show Row w v (List.replicate n ((⟨0, 0, []⟩ : En), ((.slice none 0 0) : Value))).length 3 _
    rw [List.length_replicate]; exact Row.of_own h
  · rw [List.eq_of_mem_replicate he]; exact Bytes.nil _
theorem appM3_chk : chk (appM [⟨0, 3, []⟩]) = 3 := by decide

set_option maxHeartbeats 4000000 in
theorem knownLong_ok (w : World) : FnOk Try.prog 30 [] w (fun r w' => r = .bool true ∧ Ext w w') := by
  refine FnOk.enter (rs := [0]) Try.func30 rfl Try.ntmps30 Try.results30 rfl rfl ?_
  refine WF.seq ?_
  refine WF.region ?_
  refine WL.va rfl rfl rfl (X.assignB rfl) ?_
  refine WL.nil ?_
  refine thn_n ?_
  refine WF.seq ?_
  refine WF.seq ?_
  refine WF.region ?_
  refine WL.va rfl rfl rfl (X.assignI rfl) ?_
  refine WL.nil ?_
  refine thn_n ?_
  refine WF.block ?_
  refine WF.named (fun F2 hF3 => ?_)
  refine WF.loopN (fun mL0 f' w' => ∃ (j : Nat), mL0 = 3 - j ∧ f' 1 = .int .i64 ((j : Int) - 1) ∧ Agree [] f' F2 ∧ Ext w w' ∧ j ≤ 3) ?_ ?_
  · exact ⟨_, 0, rfl, (congrFun hF3 1), (Agree.refl _ _), (Ext.refl _), Nat.zero_le _⟩
  · rintro mL0 fL0 wL0 ⟨j, hmL0, e1_L0, hAL0, hwL0, hj⟩
    refine WF.seq ?_
    refine WF.seq ?_
    refine WF.region ?_
    refine WL.va rfl rfl rfl (X.moveI e1_L0) ?_
    refine WL.va rfl rfl rfl (X.lss rfl rfl) ?_
    refine WL.nil ?_
    refine thn_n ?_
    refine WF.cond rfl (fun h0_4 => ?_) (fun h0_4 => ?_)
    · have gh0_4 := (of_decide_eq_true h0_4)
      refine WF.skip ?_
      refine thn_n ?_
      refine WF.seq ?_
      refine WF.block ?_
      refine WF.seq ?_
      refine WF.region ?_
      refine WL.va rfl rfl rfl (X.moveI e1_L0) ?_
      refine WL.va rfl rfl rfl (X.add rfl rfl ((w64 (by omega)).trans (show (65488 : Int) + ((j : Int) - 1) = ((65487 + j : Nat) : Int) by omega))) ?_
      refine WL.op rfl (OW.makeB (n := (65487 + j)) rfl rfl Try.underlying23 Try.type5 rfl rfl rfl (by omega) ?_ (by decide))
      intro vS wS ho7 hx6
      have fS : Bytes wS vS (List.replicate (65487 + j) 0) := Bytes.of_own ho7
      have hS := longM_at fS
      have := World.grownBy.size hx6
      refine WL.va rfl rfl rfl (X.buildT (P := Try.prog) (t := 25) (cs := (mc (longM (List.replicate (65487 + j) 0)).n false (.slice none 0 0) vS)) (zs := [i64 0, i64 0, i64 0, i64 0, i64 0, i64 0, i64 0, i64 0, i64 0, i64 0, i64 0, i64 0, i64 0, i64 0, .bool false, .slice none 0 0, .slice none 0 0]) (places := [(0, 1), (1, 1), (2, 1), (3, 1), (4, 1), (5, 1), (6, 1), (7, 1), (8, 1), (9, 1), (10, 1), (11, 1), (12, 1), (13, 1), (14, 1), (15, 1), (16, 1)]) (n := 17) (evp_cons rfl (evp_cons rfl (evp_cons rfl (evp_cons rfl (evp_cons rfl evp_nil))))) Try.type25 Try.underlying25 rfl rfl ⟨rfl, rfl, rfl, rfl, Row.one fS, trivial⟩ rfl rfl rfl) ?_
      refine WL.op rfl (OW.allocO (cs := [i64 0, i64 0, i64 0, i64 0, i64 0, i64 0, i64 0, i64 0, i64 0, i64 0, i64 0, i64 0, i64 0, i64 0, .bool false, .slice none 0 0, .slice none 0 0]) Try.zeroValue25 rfl ?_ (by decide))
      intro g2 w8 heg2 hlg2 hO2 hx10
      have := World.grownBy.size hx10
      refine WL.op rfl (OW.storeOA hO2 rfl rfl rfl (mc_ones _ _ rfl (Row.one fS)) Try.sizeOf25 ?_)
      intro w12 hO2 hx14
      have := World.grownBy.size hx14
      refine WL.nil ?_
      refine thn_n ?_
      refine WF.seq ?_
      refine WF.region ?_
      refine WL.va rfl rfl rfl (X.moveI e1_L0) ?_
      refine WL.va rfl rfl rfl (X.add rfl rfl ((w64 (by omega)).trans (show (1024 : Int) + ((j : Int) - 1) = ((1023 + j : Nat) : Int) by omega))) ?_
      refine WL.op rfl (OW.make (n := (1023 + j)) rfl rfl Try.underlying22 Try.type57 rfl rfl (by show 40 * (1023 + j) ≤ _; omega) (by unfold maxLen; omega) ?_ (by decide))
      intro vA wA ho17 hx16
      have fA : Ens wA vA (List.replicate (1023 + j) (⟨0, 0, []⟩ : En)) := ens_made ho17
      have hA := appM_at fA (fun e he => by rw [List.eq_of_mem_replicate he]; exact (show rng 0 ∧ rng 0 from ⟨⟨by decide, by decide⟩, by decide, by decide⟩))
      have := World.grownBy.size hx16
      refine WL.va rfl rfl rfl (X.buildT (P := Try.prog) (t := 25) (cs := (mc (appM (List.replicate (1023 + j) (⟨0, 0, []⟩ : En))).n false vA (.slice none 0 0))) (zs := [i64 0, i64 0, i64 0, i64 0, i64 0, i64 0, i64 0, i64 0, i64 0, i64 0, i64 0, i64 0, i64 0, i64 0, .bool false, .slice none 0 0, .slice none 0 0]) (places := [(0, 1), (1, 1), (2, 1), (3, 1), (4, 1), (5, 1), (6, 1), (7, 1), (8, 1), (9, 1), (10, 1), (11, 1), (12, 1), (13, 1), (14, 1), (15, 1), (16, 1)]) (n := 17) (evp_cons rfl (evp_cons rfl (evp_cons rfl (evp_cons rfl evp_nil)))) Try.type25 Try.underlying25 rfl rfl ⟨rfl, rfl, rfl, fA.one, trivial⟩ rfl rfl rfl) ?_
      refine WL.op rfl (OW.allocO (cs := [i64 0, i64 0, i64 0, i64 0, i64 0, i64 0, i64 0, i64 0, i64 0, i64 0, i64 0, i64 0, i64 0, i64 0, .bool false, .slice none 0 0, .slice none 0 0]) Try.zeroValue25 rfl ?_ (by decide))
      intro g3 w18 heg3 hlg3 hO3 hx20
      have := World.grownBy.size hx20
      refine WL.op rfl (OW.storeOA hO3 rfl rfl rfl (mc_ones _ _ fA.one rfl) Try.sizeOf25 ?_)
      intro w22 hO3 hx24
      have := World.grownBy.size hx24
      replace hO2 := (hO2.ext (Ext.trans hx16 hx20)).keptO hx24 (by omega)
      refine WL.nil ?_
      refine thn_n ?_
      refine WF.seq ?_
      refine WF.region ?_
      refine WL.va rfl rfl rfl (X.moveI e1_L0) ?_
      refine WL.va rfl rfl rfl (X.add rfl rfl ((w64 (by omega)).trans (show (65432 : Int) + ((j : Int) - 1) = ((65431 + j : Nat) : Int) by omega))) ?_
      refine WL.op rfl (OW.makeB (n := (65431 + j)) rfl rfl Try.underlying23 Try.type5 rfl rfl rfl (by omega) ?_ (by decide))
      intro vB wB ho27 hx26
      have fB : Bytes wB vB (List.replicate (65431 + j) 0) := Bytes.of_own ho27
      have := World.grownBy.size hx26
      refine WL.va rfl rfl rfl (X.buildT (P := Try.prog) (t := 57) (cs := (EV.c ((⟨0, 0, (List.replicate (65431 + j) 0)⟩ : En), vB))) (zs := [i64 0, i64 0, .slice none 0 0]) (places := [(0, 1), (1, 1), (2, 1)]) (n := 3) (evp_cons rfl evp_nil) Try.type57 Try.underlying57 rfl rfl ⟨Row.one fB, trivial⟩ rfl rfl rfl) ?_
      refine WL.op rfl (OW.lits (vs := [agg (EV.c ((⟨0, 0, (List.replicate (65431 + j) 0)⟩ : En), vB))]) (evp_cons rfl evp_nil) Try.underlying22 Try.sizeOf57 Try.zeroValue57 ⟨rfl, trivial⟩ rfl rfl rfl ?_ (by decide))
      intro vL wL ho29 hx28
      have := World.grownBy.size hx28
      have fL : Ens wL vL [(⟨0, 0, (List.replicate (65431 + j) 0)⟩ : En)] := ⟨[((⟨0, 0, (List.replicate (65431 + j) 0)⟩ : En), vB)], rfl, Row.of_own ho29, fun e he => by rw [List.mem_singleton.1 he]; exact Row.ext fB hx28⟩
      have hB := appM_at fL (fun e he => by rw [List.mem_singleton.1 he]; exact (show rng 0 ∧ rng 0 from ⟨⟨by decide, by decide⟩, by decide, by decide⟩))
      refine WL.va rfl rfl rfl (X.buildT (P := Try.prog) (t := 25) (cs := (mc (appM [(⟨0, 0, (List.replicate (65431 + j) 0)⟩ : En)]).n false vL (.slice none 0 0))) (zs := [i64 0, i64 0, i64 0, i64 0, i64 0, i64 0, i64 0, i64 0, i64 0, i64 0, i64 0, i64 0, i64 0, i64 0, .bool false, .slice none 0 0, .slice none 0 0]) (places := [(0, 1), (1, 1), (2, 1), (3, 1), (4, 1), (5, 1), (6, 1), (7, 1), (8, 1), (9, 1), (10, 1), (11, 1), (12, 1), (13, 1), (14, 1), (15, 1), (16, 1)]) (n := 17) (evp_cons rfl (evp_cons rfl (evp_cons rfl (evp_cons rfl evp_nil)))) Try.type25 Try.underlying25 rfl rfl ⟨rfl, rfl, rfl, fL.one, trivial⟩ rfl rfl rfl) ?_
      refine WL.op rfl (OW.allocO (cs := [i64 0, i64 0, i64 0, i64 0, i64 0, i64 0, i64 0, i64 0, i64 0, i64 0, i64 0, i64 0, i64 0, i64 0, .bool false, .slice none 0 0, .slice none 0 0]) Try.zeroValue25 rfl ?_ (by decide))
      intro g4 w30 heg4 hlg4 hO4 hx32
      have := World.grownBy.size hx32
      refine WL.op rfl (OW.storeOA hO4 rfl rfl rfl (mc_ones _ _ fL.one rfl) Try.sizeOf25 ?_)
      intro w34 hO4 hx36
      have := World.grownBy.size hx36
      replace hO2 := (hO2.ext (Ext.trans (Ext.trans hx26 hx28) hx32)).keptO hx36 (by omega)
      replace hO3 := (hO3.ext (Ext.trans (Ext.trans hx26 hx28) hx32)).keptO hx36 (by omega)
      refine WL.nil ?_
      refine thn_n ?_
      refine WF.seq ?_
      refine WF.region ?_
      refine WL.va rfl rfl rfl (X.loadOA hO2 (Ext.refl _) rfl rfl Try.isAgg25 Try.sizeOf25) ?_
      refine WL.c rfl rfl rfl (X.call Try.call4 (evl_cons rfl evl_nil)) (messagePuts_walk _ _ _ _ (hS.ext (Ext.trans (Ext.trans (Ext.trans (Ext.trans (Ext.trans (Ext.store hx10 hx14 (by omega)) hx16) (Ext.store hx20 hx24 (by omega))) hx26) hx28) (Ext.store hx32 hx36 (by omega))))) ?_
      rintro v39 w38 ⟨rfl, hx40⟩
      have := World.grownBy.size hx40
      refine WL.va rfl rfl rfl (X.not rfl) ?_
      refine WL.va rfl rfl rfl (X.moveB rfl) ?_
      refine WL.vg rfl rfl rfl rfl (X.loadOA hO3 hx40 rfl rfl Try.isAgg25 Try.sizeOf25) ?_
      refine WL.cg rfl rfl rfl rfl (X.call Try.call4 (evl_cons rfl evl_nil)) (messagePuts_walk _ _ _ _ (hA.ext (Ext.trans (Ext.trans (Ext.trans (Ext.trans (Ext.store hx20 hx24 (by omega)) hx26) hx28) (Ext.store hx32 hx36 (by omega))) hx40))) ?_
      rintro v44 w43 ⟨rfl, hx45⟩
      have := World.grownBy.size hx45
      refine WL.vg rfl rfl rfl rfl (X.not rfl) ?_
      refine WL.va rfl rfl rfl (X.pickF rfl rfl rfl) ?_
      refine WL.va rfl rfl rfl (X.moveB rfl) ?_
      refine WL.vg rfl rfl rfl rfl (X.loadOA hO3 (Ext.trans hx40 hx45) rfl rfl Try.isAgg25 Try.sizeOf25) ?_
      refine WL.cg rfl rfl rfl rfl (X.call Try.call6 (evl_cons rfl evl_nil)) (messageBack_walk _ _ _ _ (hA.ext (Ext.trans (Ext.trans (Ext.trans (Ext.trans (Ext.trans (Ext.store hx20 hx24 (by omega)) hx26) hx28) (Ext.store hx32 hx36 (by omega))) hx40) hx45))) ?_
      rintro v49 w48 ⟨rfl, hx50⟩
      have := World.grownBy.size hx50
      refine WL.vg rfl rfl rfl rfl (X.not rfl) ?_
      refine WL.va rfl rfl rfl (X.pickF rfl rfl rfl) ?_
      refine WL.va rfl rfl rfl (X.moveB rfl) ?_
      refine WL.vg rfl rfl rfl rfl (X.loadOA hO4 (Ext.trans (Ext.trans hx40 hx45) hx50) rfl rfl Try.isAgg25 Try.sizeOf25) ?_
      refine WL.cg rfl rfl rfl rfl (X.call Try.call4 (evl_cons rfl evl_nil)) (messagePuts_walk _ _ _ _ (hB.ext (Ext.trans (Ext.trans (Ext.trans (Ext.store hx32 hx36 (by omega)) hx40) hx45) hx50))) ?_
      rintro v54 w53 ⟨rfl, hx55⟩
      have := World.grownBy.size hx55
      refine WL.vg rfl rfl rfl rfl (X.not rfl) ?_
      refine WL.va rfl rfl rfl (X.pickF rfl rfl rfl) ?_
      refine WL.va rfl rfl rfl (X.moveB rfl) ?_
      refine WL.vg rfl rfl rfl rfl (X.loadOA hO4 (Ext.trans (Ext.trans (Ext.trans hx40 hx45) hx50) hx55) rfl rfl Try.isAgg25 Try.sizeOf25) ?_
      refine WL.cg rfl rfl rfl rfl (X.call Try.call6 (evl_cons rfl evl_nil)) (messageBack_walk _ _ _ _ (hB.ext (Ext.trans (Ext.trans (Ext.trans (Ext.trans (Ext.store hx32 hx36 (by omega)) hx40) hx45) hx50) hx55))) ?_
      rintro v59 w58 ⟨rfl, hx60⟩
      have := World.grownBy.size hx60
      refine WL.vg rfl rfl rfl rfl (X.not rfl) ?_
      refine WL.va rfl rfl rfl (X.pickF rfl rfl rfl) ?_
      refine WL.va rfl rfl rfl (X.moveB rfl) ?_
      refine WL.vg rfl rfl rfl rfl (X.loadOA hO2 (Ext.trans (Ext.trans (Ext.trans (Ext.trans hx40 hx45) hx50) hx55) hx60) rfl rfl Try.isAgg25 Try.sizeOf25) ?_
      refine WL.cg rfl rfl rfl rfl (X.call Try.call13 (evl_cons rfl evl_nil)) (check_ok _ _ _ _ (hS.ext (Ext.trans (Ext.trans (Ext.trans (Ext.trans (Ext.trans (Ext.trans (Ext.trans (Ext.trans (Ext.trans (Ext.trans (Ext.store hx10 hx14 (by omega)) hx16) (Ext.store hx20 hx24 (by omega))) hx26) hx28) (Ext.store hx32 hx36 (by omega))) hx40) hx45) hx50) hx55) hx60))) ?_
      rintro v65 w63 ⟨rfl, hx66⟩
      have := World.grownBy.size hx66
      refine WL.vg rfl rfl rfl rfl (X.eql rfl rfl) ?_
      refine WL.vg rfl rfl rfl rfl (X.moveI e1_L0) ?_
      refine WL.vg rfl rfl rfl rfl (X.lss rfl rfl) ?_
      refine WL.vg rfl rfl rfl rfl (X.neqB rfl rfl Try.underlying4) ?_
      refine WL.va rfl rfl rfl (X.pickF rfl rfl rfl) ?_
      refine WL.nil ?_
      refine thn_n ?_
      refine WF.cond rfl (fun h1_69 => ?_) (fun h1_69 => ?_)
      · have gh1_69 := h1_69
        rw [longM_chk, List.length_replicate] at gh1_69; by_cases hjj : j ≤ 1 <;> simp [hjj] at gh1_69 <;> omega
      · have gh1_69 := h1_69
        refine WF.skip ?_
        refine blk_n ?_
        refine thn_n ?_
        refine WF.region ?_
        refine WL.va rfl rfl rfl (X.moveI e1_L0) ?_
        refine WL.va rfl rfl rfl (X.add rfl rfl ((w64 (by omega)).trans (show ((j : Int) - 1) + 1 = ((j + 1 : Nat) : Int) - 1 by omega))) ?_
        refine WL.va rfl rfl rfl (X.assignI rfl) ?_
        refine WL.nil ?_
        exact thn_n ⟨_, (by omega), j + 1, rfl, rfl, (by repeat (first | exact hAL0 | refine Agree.put ?_ rfl | refine Agree.named hF3 ?_)), (Ext.trans (Ext.trans (Ext.trans (Ext.trans (Ext.trans (Ext.trans (Ext.trans (Ext.trans (Ext.trans (Ext.trans (Ext.trans (Ext.trans (Ext.trans hwL0 hx6) (Ext.store hx10 hx14 (by omega))) hx16) (Ext.store hx20 hx24 (by omega))) hx26) hx28) (Ext.store hx32 hx36 (by omega))) hx40) hx45) hx50) hx55) hx60) hx66), (by omega)⟩
    · have gh0_4 := (of_decide_eq_false h0_4)
      refine WF.exit ?_
      refine thn_x ?_
      refine thn_x ?_
      refine blk_eq ?_
      refine thn_n ?_
      refine WF.seq ?_
      refine WF.region ?_
      refine WL.va rfl rfl rfl (X.buildT (P := Try.prog) (t := 57) (cs := (EV.c ((⟨0, 3, []⟩ : En), (.slice none 0 0)))) (zs := [i64 0, i64 0, .slice none 0 0]) (places := [(0, 1), (1, 1), (2, 1)]) (n := 3) (evp_cons rfl evp_nil) Try.type57 Try.underlying57 rfl rfl ⟨rfl, trivial⟩ rfl rfl rfl) ?_
      refine WL.op rfl (OW.lits (vs := [agg (EV.c ((⟨0, 3, []⟩ : En), (.slice none 0 0)))]) (evp_cons rfl evp_nil) Try.underlying22 Try.sizeOf57 Try.zeroValue57 ⟨rfl, trivial⟩ rfl rfl rfl ?_ (by decide))
      intro vZ wZ ho72 hx71
      have fZ : Ens wZ vZ [⟨0, 3, []⟩] := ⟨[(⟨0, 3, []⟩, (.slice none 0 0))], rfl, Row.of_own ho72, fun e he => by rw [List.mem_singleton.1 he]; exact Bytes.nil _⟩
      have hZ := appM_at fZ (fun e he => by rw [List.mem_singleton.1 he]; exact ⟨⟨by decide, by decide⟩, by decide, by decide⟩)
      refine WL.va rfl rfl rfl (X.buildT (P := Try.prog) (t := 25) (cs := (mc (appM [⟨0, 3, []⟩]).n false vZ (.slice none 0 0))) (zs := [i64 0, i64 0, i64 0, i64 0, i64 0, i64 0, i64 0, i64 0, i64 0, i64 0, i64 0, i64 0, i64 0, i64 0, .bool false, .slice none 0 0, .slice none 0 0]) (places := [(0, 1), (1, 1), (2, 1), (3, 1), (4, 1), (5, 1), (6, 1), (7, 1), (8, 1), (9, 1), (10, 1), (11, 1), (12, 1), (13, 1), (14, 1), (15, 1), (16, 1)]) (n := 17) (evp_cons rfl (evp_cons rfl (evp_cons rfl (evp_cons rfl evp_nil)))) Try.type25 Try.underlying25 rfl rfl ⟨rfl, rfl, rfl, fZ.one, trivial⟩ rfl rfl rfl) ?_
      refine WL.c rfl rfl rfl (X.call Try.call13 (evl_cons rfl evl_nil)) (check_ok _ _ _ _ hZ) ?_
      rintro v74 w73 ⟨rfl, hx75⟩
      refine WL.va rfl rfl rfl (X.eql rfl rfl) ?_
      refine WL.va rfl rfl rfl (X.assignB rfl) ?_
      refine WL.nil ?_
      refine thn_n ?_
      refine WF.ret ?_
      refine fin_r ?_
      first | exact ⟨rfl, (Ext.trans (Ext.trans hwL0 hx71) hx75)⟩ | exact ⟨(by rw [appM3_chk]; rfl), (Ext.trans (Ext.trans hwL0 hx71) hx75)⟩

theorem full_zero {kd : Nat} (h1 : 1 ≤ kd) (h2 : kd ≤ 11) : chk (fullM (kd : Int) 14) = 0 := by
  have := fullM_ok ⟨kd - 1, by omega⟩
  rwa [show ((((⟨kd - 1, by omega⟩ : Fin 11).val + 1 : Nat)) : Int) = (kd : Int) by show ((kd - 1 + 1 : Nat) : Int) = _; omega] at this
theorem set_at {w : World} {vE vD : Value} {m : Mg} {x : Int} (h : MgAt w vE vD m) (a : Nat) (hx : rng x) : MgAt w vE vD { m with n := m.n.set a x } := ⟨(List.length_set ..).trans h.len, fun k => set_rng h.inn hx k, h.ein, h.E, h.D⟩
theorem pb_le (m : Mg) : (pb m).length ≤ 65544 := by
  unfold pb; split
  · exact mput_le ‹_›
  · exact Nat.zero_le _
theorem n14_rng (i : Nat) : rng (([-9223372036854775808, -1, 0, 1, 2, 3, 4, 5, 12, 199, 200, 1099511627776, 1099511627777, 9223372036854775807] : List Int).getD i 0) := rng_of (by decide) i
set_option maxHeartbeats 4000000 in
theorem messageKnown_walk (w : World) : FnOk Try.prog 9 [] w (fun r w' => r = .bool true ∧ Ext w w') := by
  refine FnOk.enter (rs := [0]) Try.func9 rfl Try.ntmps9 Try.results9 rfl rfl ?_
  refine WF.seq ?_
  refine WF.region ?_
  refine WL.va rfl rfl rfl (X.assignB rfl) ?_
  refine WL.nil ?_
  refine thn_n ?_
  refine WF.seq ?_
  refine WF.region ?_
  refine WL.op rfl (OW.lits (vs := [_, _, _, _, _, _, _, _, _, _, _, _, _, _]) (evp_cons rfl (evp_cons rfl (evp_cons rfl (evp_cons rfl (evp_cons rfl (evp_cons rfl (evp_cons rfl (evp_cons rfl (evp_cons rfl (evp_cons rfl (evp_cons rfl (evp_cons rfl (evp_cons rfl (evp_cons rfl evp_nil)))))))))))))) Try.underlying45 Try.sizeOf3 Try.zeroValue3 ⟨rfl, rfl, rfl, rfl, rfl, rfl, rfl, rfl, rfl, rfl, rfl, rfl, rfl, rfl, trivial⟩ rfl rfl rfl ?_ (by decide))
  intro v2 w1 ho4 hx3
  refine WL.va rfl rfl rfl (X.assign rfl) ?_
  refine WL.nil ?_
  refine thn_n ?_
  refine WF.seq ?_
  refine WF.seq ?_
  refine WF.region ?_
  refine WL.va rfl rfl rfl (X.assignI rfl) ?_
  refine WL.nil ?_
  refine thn_n ?_
  refine WF.block ?_
  refine WF.named (fun F5 hF6 => ?_)
  refine WF.loopN (fun mL0 f' w' => ∃ (kd : Nat), mL0 = 13 - kd ∧ f' 2 = .int .i64 (kd : Int) ∧ Agree [1, 10] f' F5 ∧ Ext w1 w' ∧ kd ≤ 13) ?_ ?_
  · exact ⟨_, 0, rfl, (congrFun hF6 2), (Agree.refl _ _), (Ext.refl _), Nat.zero_le _⟩
  · rintro mL0 fL0 wL0 ⟨kd, hmL0, e2_L0, hAL0, hwL0, hkd⟩
    refine WF.seq ?_
    refine WF.seq ?_
    refine WF.region ?_
    refine WL.va rfl rfl rfl (X.moveI e2_L0) ?_
    refine WL.va rfl rfl rfl (X.leq rfl rfl) ?_
    refine WL.nil ?_
    refine thn_n ?_
    refine WF.cond rfl (fun h0_7 => ?_) (fun h0_7 => ?_)
    · have gh0_7 := (of_decide_eq_true h0_7)
      refine WF.skip ?_
      refine thn_n ?_
      refine WF.seq ?_
      refine WF.block ?_
      refine WF.seq ?_
      refine WF.region ?_
      refine WL.va rfl rfl rfl (X.moveI e2_L0) ?_
      refine WL.c rfl rfl rfl (X.call Try.call28 (evl_cons rfl evl_nil)) (full_ok (kd : Int) _ (by show (-9223372036854775808 : Int) ≤ _ ∧ _; omega)) ?_
      rintro v9 wF ⟨⟨vE, vD, rfl, hF⟩, hx10⟩
      refine WL.op rfl (OW.allocO (cs := [i64 0, i64 0, i64 0, i64 0, i64 0, i64 0, i64 0, i64 0, i64 0, i64 0, i64 0, i64 0, i64 0, i64 0, .bool false, .slice none 0 0, .slice none 0 0]) Try.zeroValue25 rfl ?_ (by decide))
      intro g3 w11 heg3 hlg3 hO3 hx13
      have := World.grownBy.size hx13
      refine WL.op rfl (OW.storeOA hO3 rfl rfl rfl hF.ones Try.sizeOf25 ?_)
      intro wM hO3 hx16
      have := World.grownBy.size hx16
      refine WL.nil ?_
      refine thn_n ?_
      refine WF.seq ?_
      refine WF.seq ?_
      refine WF.region ?_
      refine WL.va rfl rfl rfl (X.loadOA hO3 (Ext.refl _) rfl rfl Try.isAgg25 Try.sizeOf25) ?_
      refine WL.c rfl rfl rfl (X.call Try.call4 (evl_cons rfl evl_nil)) (messagePuts_walk _ _ _ _ (hF.ext (Ext.store hx13 hx16 (by omega)))) ?_
      rintro v19 w18 ⟨rfl, hx20⟩
      have := World.grownBy.size hx20
      refine WL.va rfl rfl rfl (X.not rfl) ?_
      refine WL.va rfl rfl rfl (X.moveB rfl) ?_
      refine WL.vg rfl rfl rfl rfl (X.moveI e2_L0) ?_
      refine WL.vg rfl rfl rfl rfl (X.geq rfl rfl) ?_
      refine WL.vg rfl rfl rfl rfl (X.moveB rfl) ?_
      refine WL.split (j := 6) rfl (fun h24 => ?_) (fun h24 => ?_)
      · have gh24 := (of_decide_eq_true h24)
        refine WL.vg rfl (congrArg some h24) rfl rfl (X.moveI e2_L0) ?_
        refine WL.vg rfl (congrArg some h24) rfl rfl (X.leq rfl rfl) ?_
        refine WL.vg rfl rfl rfl rfl (X.pickT rfl h24 rfl) ?_
        refine WL.vg rfl rfl rfl rfl (X.moveB rfl) ?_
        refine WL.split (j := 10) rfl (fun h26 => ?_) (fun h26 => ?_)
        · have gh26 := (of_decide_eq_true h26)
          refine WL.vg rfl (congrArg some h26) rfl rfl (X.loadOA hO3 hx20 rfl rfl Try.isAgg25 Try.sizeOf25) ?_
          refine WL.cg rfl (congrArg some h26) rfl rfl (X.call Try.call13 (evl_cons rfl evl_nil)) (check_ok _ _ _ _ (hF.ext (Ext.trans (Ext.store hx13 hx16 (by omega)) hx20))) ?_
          rintro v28 w27 ⟨rfl, hx29⟩
          have := World.grownBy.size hx29
          refine WL.vg rfl (congrArg some h26) rfl rfl (X.neq rfl rfl) ?_
          refine WL.vg rfl rfl rfl rfl (X.pickT rfl h26 rfl) ?_
          refine WL.va rfl rfl rfl (X.pickF rfl rfl rfl) ?_
          refine WL.nil ?_
          refine thn_n ?_
          refine WF.cond rfl (fun h1_30 => ?_) (fun h1_30 => ?_)
          · have gh1_30 := (of_decide_eq_true h1_30)
            exact absurd (full_zero (by omega) (by omega)) gh1_30
          · have gh1_30 := (Decidable.of_not_not (of_decide_eq_false h1_30))
            refine WF.skip ?_
            refine thn_n ?_
            refine WF.seq ?_
            refine WF.seq ?_
            refine WF.region ?_
            refine WL.va rfl rfl rfl (X.assignI rfl) ?_
            refine WL.nil ?_
            refine thn_n ?_
            refine WF.block ?_
            refine WF.named (fun F32 hF33 => ?_)
            refine WF.loopN (fun mL1 f' w' => ∃ (f : Nat), mL1 = 14 - f ∧ f' 4 = .int .i64 (f : Int) ∧ Agree [1, 2, 3, 10, 11, 12, 15, 16, 17, 18, 19, 20, 21, 22, 23, 24, 25, 26, 27, 28, 29, 30, 31, 32] f' F32 ∧ Ext wM w' ∧ f ≤ 14) ?_ ?_
            · exact ⟨_, 0, rfl, (congrFun hF33 4), (Agree.refl _ _), (Ext.trans hx20 hx29), Nat.zero_le _⟩
            · rintro mL1 fL1 wL1 ⟨f, hmL1, e4_L1, hAL1, hwL1, hf⟩
              have := World.grownBy.size hwL1
              refine WF.seq ?_
              refine WF.seq ?_
              refine WF.region ?_
              refine WL.va rfl rfl rfl (X.moveI e4_L1) ?_
              refine WL.va rfl rfl rfl (X.lss rfl rfl) ?_
              refine WL.nil ?_
              refine thn_n ?_
              refine WF.cond rfl (fun h2_34 => ?_) (fun h2_34 => ?_)
              · have gh2_34 := (of_decide_eq_true h2_34)
                refine WF.skip ?_
                refine thn_n ?_
                refine WF.seq ?_
                refine WF.block ?_
                refine WF.seq ?_
                refine WF.region ?_
                refine WL.va rfl rfl rfl (X.assignI rfl) ?_
                refine WL.nil ?_
                refine thn_n ?_
                refine WF.block ?_
                refine WF.named (fun F36 hF37 => ?_)
                refine WF.loopN (fun mL2 f' w' => ∃ (i : Nat), mL2 = 14 - i ∧ f' 5 = .int .i64 (i : Int) ∧ Agree [1, 2, 3, 4, 10, 11, 12, 15, 16, 17, 18, 19, 20, 21, 22, 23, 24, 25, 26, 27, 28, 29, 30, 31, 32, 33, 34] f' F36 ∧ Ext wM w' ∧ i ≤ 14) ?_ ?_
                · exact ⟨_, 0, rfl, (congrFun hF37 5), (Agree.refl _ _), hwL1, Nat.zero_le _⟩
                · rintro mL2 fL2 wL2 ⟨i, hmL2, e5_L2, hAL2, hwL2, hi⟩
                  have := World.grownBy.size hwL2
                  refine WF.seq ?_
                  refine WF.seq ?_
                  refine WF.region ?_
                  refine WL.va rfl rfl rfl (X.moveI e5_L2) ?_
                  refine WL.va rfl rfl rfl (X.move ((hAL2.eq 1).trans ((congrFun hF37 1).trans ((hAL1.eq 1).trans ((congrFun hF33 1).trans ((hAL0.eq 1).trans (congrFun hF6 1))))))) ?_
                  refine WL.va rfl rfl rfl (X.len (show Ints _ _ [-9223372036854775808, -1, 0, 1, 2, 3, 4, 5, 12, 199, 200, 1099511627776, 1099511627777, 9223372036854775807] from Row.of_own ho4) rfl Try.underlying45) ?_
                  refine WL.va rfl rfl rfl (X.lss rfl rfl) ?_
                  refine WL.nil ?_
                  refine thn_n ?_
                  refine WF.cond rfl (fun h3_38 => ?_) (fun h3_38 => ?_)
                  · have gh3_38 := (of_decide_eq_true h3_38)
                    have hi14 : i < 14 := by have := gh3_38; simp only [List.length_cons, List.length_nil] at this; omega
                    refine WF.skip ?_
                    refine thn_n ?_
                    refine WF.seq ?_
                    refine WF.block ?_
                    refine WF.seq ?_
                    refine WF.drawn (.q 0 (.q 1 (.q 2 (.q 3 (.q 4 (.q 5 (.l 6 (.l 7 (.q 8 (.q 9 (.q 10 (.q 11 (.q 12 (.q 13 (.q 14 (.q 15 (.l 16 (.l 17 (.q 18 (.q 19 .nil)))))))))))))))))))) (fun w' => Ext wL2 w') 20 (by kernel_rfl) (by kernel_rfl) (Ext.drew _) ?_
                    have := World.grownBy.size (Ext.drew wL2)
                    refine WO.q rfl rfl rfl rfl (fun w' hE40 => (X.loadOA hO3 (Ext.trans hwL2 hE40) ((hAL2.eq 3).trans ((congrFun hF37 3).trans ((hAL1.eq 3).trans (congrFun hF33 3)))) rfl Try.isAgg25 Try.sizeOf25)) ?_
                    refine WO.q rfl rfl rfl rfl (fun w' hE40 => (X.moveI ((hAL2.eq 4).trans ((congrFun hF37 4).trans e4_L1)))) ?_
                    refine WO.q rfl rfl rfl rfl (fun w' hE40 => (X.move ((hAL2.eq 1).trans ((congrFun hF37 1).trans ((hAL1.eq 1).trans ((congrFun hF33 1).trans ((hAL0.eq 1).trans (congrFun hF6 1)))))))) ?_
                    refine WO.q rfl rfl rfl rfl (fun w' hE40 => (X.moveI e5_L2)) ?_
                    refine WO.q rfl rfl rfl rfl (fun w' hE40 => (X.idx (show Ints _ _ [-9223372036854775808, -1, 0, 1, 2, 3, 4, 5, 12, 199, 200, 1099511627776, 1099511627777, 9223372036854775807] from Row.of_own ho4) rfl rfl (by omega) Try.underlying45 Try.sizeOf3)) ?_
                    refine WO.q rfl rfl rfl rfl (fun w' hE40 => (X.loadI (show Ints _ _ [-9223372036854775808, -1, 0, 1, 2, 3, 4, 5, 12, 199, 200, 1099511627776, 1099511627777, 9223372036854775807] from Row.of_own ho4) (Ext.trans (Ext.trans (Ext.trans (Ext.trans hwL0 hx10) (Ext.store hx13 hx16 (by omega))) hwL2) hE40) rfl (by omega) Try.isAgg3)) ?_
                    refine WO.l ?_
                    refine LO.go rfl rfl (OW.enter rfl (by decide) (X.call Try.call29 (evl_cons rfl (evl_cons rfl (evl_cons rfl evl_nil)))) (set_ok (fullM (kd : Int) 14).n (fullM (kd : Int) 14).ok vE vD f (([-9223372036854775808, -1, 0, 1, 2, 3, 4, 5, 12, 199, 200, 1099511627776, 1099511627777, 9223372036854775807] : List Int).getD i 0) _ (by omega) hF.len hF.E.one (Row.one hF.D)) ?_)
                    rintro v42 w41 ⟨rfl, hx43⟩
                    have := World.grownBy.size hx43
                    refine ⟨(Ext.trans (Ext.drew _) hx43), ?_⟩
                    refine WO.l ?_
                    refine LO.go rfl rfl (OW.enter rfl (by decide) (X.call Try.call3 (evl_cons rfl evl_nil)) (messageChecks_walk vE vD { (fullM (kd : Int) 14) with n := (fullM (kd : Int) 14).n.set (sc f) (([-9223372036854775808, -1, 0, 1, 2, 3, 4, 5, 12, 199, 200, 1099511627776, 1099511627777, 9223372036854775807] : List Int).getD i 0) } _ ((set_at hF _ (n14_rng i)).ext (Ext.trans (Ext.trans (Ext.trans (Ext.store hx13 hx16 (by omega)) hwL2) (Ext.drew _)) hx43))) ?_)
                    rintro v45 w44 ⟨rfl, hx46⟩
                    have := World.grownBy.size hx46
                    refine ⟨(Ext.trans (Ext.trans (Ext.drew _) hx43) hx46), ?_⟩
                    refine WO.q rfl rfl rfl rfl (fun w' hE40 => (X.not rfl)) ?_
                    refine WO.q rfl rfl rfl rfl (fun w' hE40 => (X.moveB rfl)) ?_
                    refine WO.qg rfl rfl rfl rfl rfl (fun w' hE40 => (X.loadOA hO3 (Ext.trans hwL2 hE40) ((hAL2.eq 3).trans ((congrFun hF37 3).trans ((hAL1.eq 3).trans (congrFun hF33 3)))) rfl Try.isAgg25 Try.sizeOf25)) ?_
                    refine WO.qg rfl rfl rfl rfl rfl (fun w' hE40 => (X.moveI ((hAL2.eq 4).trans ((congrFun hF37 4).trans e4_L1)))) ?_
                    refine WO.qg rfl rfl rfl rfl rfl (fun w' hE40 => (X.move ((hAL2.eq 1).trans ((congrFun hF37 1).trans ((hAL1.eq 1).trans ((congrFun hF33 1).trans ((hAL0.eq 1).trans (congrFun hF6 1)))))))) ?_
                    refine WO.qg rfl rfl rfl rfl rfl (fun w' hE40 => (X.moveI e5_L2)) ?_
                    refine WO.qg rfl rfl rfl rfl rfl (fun w' hE40 => (X.idx (show Ints _ _ [-9223372036854775808, -1, 0, 1, 2, 3, 4, 5, 12, 199, 200, 1099511627776, 1099511627777, 9223372036854775807] from Row.of_own ho4) rfl rfl (by omega) Try.underlying45 Try.sizeOf3)) ?_
                    refine WO.qg rfl rfl rfl rfl rfl (fun w' hE40 => (X.loadI (show Ints _ _ [-9223372036854775808, -1, 0, 1, 2, 3, 4, 5, 12, 199, 200, 1099511627776, 1099511627777, 9223372036854775807] from Row.of_own ho4) (Ext.trans (Ext.trans (Ext.trans (Ext.trans hwL0 hx10) (Ext.store hx13 hx16 (by omega))) hwL2) hE40) rfl (by omega) Try.isAgg3)) ?_
                    refine WO.l ?_
                    refine LO.gog rfl rfl rfl (OW.enter rfl (by decide) (X.call Try.call29 (evl_cons rfl (evl_cons rfl (evl_cons rfl evl_nil)))) (set_ok (fullM (kd : Int) 14).n (fullM (kd : Int) 14).ok vE vD f (([-9223372036854775808, -1, 0, 1, 2, 3, 4, 5, 12, 199, 200, 1099511627776, 1099511627777, 9223372036854775807] : List Int).getD i 0) _ (by omega) hF.len hF.E.one (Row.one hF.D)) ?_)
                    rintro v50 w49 ⟨rfl, hx51⟩
                    have := World.grownBy.size hx51
                    refine ⟨(Ext.trans (Ext.trans (Ext.trans (Ext.drew _) hx43) hx46) hx51), ?_⟩
                    refine WO.l ?_
                    refine LO.gog rfl rfl rfl (OW.enter rfl (by decide) (X.call Try.call6 (evl_cons rfl evl_nil)) (messageBack_walk vE vD { (fullM (kd : Int) 14) with n := (fullM (kd : Int) 14).n.set (sc f) (([-9223372036854775808, -1, 0, 1, 2, 3, 4, 5, 12, 199, 200, 1099511627776, 1099511627777, 9223372036854775807] : List Int).getD i 0) } _ ((set_at hF _ (n14_rng i)).ext (Ext.trans (Ext.trans (Ext.trans (Ext.trans (Ext.trans (Ext.store hx13 hx16 (by omega)) hwL2) (Ext.drew _)) hx43) hx46) hx51))) ?_)
                    rintro v53 w52 ⟨rfl, hx54⟩
                    have := World.grownBy.size hx54
                    refine ⟨(Ext.trans (Ext.trans (Ext.trans (Ext.trans (Ext.drew _) hx43) hx46) hx51) hx54), ?_⟩
                    refine WO.qg rfl rfl rfl rfl rfl (fun w' hE40 => (X.not rfl)) ?_
                    refine WO.q rfl rfl rfl rfl (fun w' hE40 => (X.pickF rfl rfl rfl)) ?_
                    refine WO.nil ?_
                    refine WL.nil ?_
                    refine thn_n ?_
                    refine WF.cond_f rfl ?_
                    refine WF.skip ?_
                    refine blk_n ?_
                    refine thn_n ?_
                    refine WF.region ?_
                    refine WL.va rfl rfl rfl (X.moveI e5_L2) ?_
                    refine WL.va rfl rfl rfl (X.add rfl rfl (w64 (by omega))) ?_
                    refine WL.va rfl rfl rfl (X.assignI rfl) ?_
                    refine WL.nil ?_
                    exact thn_n ⟨_, (by omega), i + 1, rfl, rfl, (by repeat (first | exact hAL2 | refine Agree.put ?_ rfl | refine Agree.sub hAL1 rfl ?_ | refine Agree.sub hAL0 rfl ?_ | refine Agree.named hF37 ?_ | refine Agree.named hF33 ?_ | refine Agree.named hF6 ?_)), (Ext.trans (Ext.trans (Ext.trans (Ext.trans (Ext.trans hwL2 (Ext.drew _)) hx43) hx46) hx51) hx54), (by omega)⟩
                  · have gh3_38 := (of_decide_eq_false h3_38)
                    refine WF.exit ?_
                    refine thn_x ?_
                    refine thn_x ?_
                    refine blk_eq ?_
                    refine blk_n ?_
                    refine thn_n ?_
                    refine WF.region ?_
                    refine WL.va rfl rfl rfl (X.moveI ((hAL2.eq 4).trans ((congrFun hF37 4).trans e4_L1))) ?_
                    refine WL.va rfl rfl rfl (X.add rfl rfl (w64 (by omega))) ?_
                    refine WL.va rfl rfl rfl (X.assignI rfl) ?_
                    refine WL.nil ?_
                    exact thn_n ⟨_, (by omega), f + 1, rfl, rfl, (by repeat (first | exact hAL1 | refine Agree.put ?_ rfl | refine Agree.sub hAL2 rfl ?_ | refine Agree.sub hAL0 rfl ?_ | refine Agree.named hF37 ?_ | refine Agree.named hF33 ?_ | refine Agree.named hF6 ?_)), hwL2, (by omega)⟩
              · have gh2_34 := (of_decide_eq_false h2_34)
                refine WF.exit ?_
                refine thn_x ?_
                refine thn_x ?_
                refine blk_eq ?_
                refine thn_n ?_
                refine WF.seq ?_
                refine WF.region ?_
                refine WL.va rfl rfl rfl (X.loadOA hO3 hwL1 ((hAL1.eq 3).trans (congrFun hF33 3)) rfl Try.isAgg25 Try.sizeOf25) ?_
                refine WL.c rfl rfl rfl (X.call Try.call16 (evl_cons rfl evl_nil)) (put_ob (hF.ext (Ext.trans (Ext.store hx13 hx16 (by omega)) hwL1))) ?_
                rintro v57 wb ⟨⟨vb, rfl, ob⟩, hx58⟩
                have := World.grownBy.size hx58
                have fb := Bytes.of_own ob
                have hpl := pb_le (fullM (kd : Int) 14)
                refine WL.va rfl rfl rfl (X.move rfl) ?_
                refine WL.va rfl rfl rfl (X.extract rfl rfl) ?_
                refine WL.va rfl rfl rfl (X.extract rfl rfl) ?_
                refine WL.va rfl rfl rfl (X.assign rfl) ?_
                refine WL.va rfl rfl rfl (X.assignI rfl) ?_
                refine WL.nil ?_
                refine thn_n ?_
                refine WF.seq ?_
                refine WF.seq ?_
                refine WF.region ?_
                refine WL.va rfl rfl rfl (X.assignI rfl) ?_
                refine WL.nil ?_
                refine thn_n ?_
                refine WF.block ?_
                refine WF.named (fun F59 hF60 => ?_)
                refine WF.loopN (fun mL3 f' w' => ∃ (q : Nat), mL3 = 8 * (pb (fullM (kd : Int) 14)).length - q ∧ f' 8 = .int .i64 (q : Int) ∧ Agree [1, 2, 3, 4, 6, 10, 11, 12, 15, 16, 17, 18, 19, 20, 21, 22, 23, 24, 25, 26, 27, 28, 29, 30, 31, 32, 33, 34, 63, 64, 65, 66, 67] f' F59 ∧ Ext wb w' ∧ q ≤ 8 * (pb (fullM (kd : Int) 14)).length + 3) ?_ ?_
                · exact ⟨_, 0, rfl, (congrFun hF60 8), (Agree.refl _ _), (Ext.refl _), Nat.zero_le _⟩
                · rintro mL3 fL3 wL3 ⟨q, hmL3, e8_L3, hAL3, hwL3, hq⟩
                  have := World.grownBy.size hwL3
                  refine WF.seq ?_
                  refine WF.seq ?_
                  refine WF.region ?_
                  refine WL.va rfl rfl rfl (X.moveI e8_L3) ?_
                  refine WL.va rfl rfl rfl (X.move ((hAL3.eq 6).trans (congrFun hF60 6))) ?_
                  refine WL.va rfl rfl rfl (X.len fb rfl Try.underlying23) ?_
                  refine WL.va rfl rfl rfl (X.mul rfl rfl (w64 (by omega))) ?_
                  refine WL.va rfl rfl rfl (X.lss rfl rfl) ?_
                  refine WL.nil ?_
                  refine thn_n ?_
                  refine WF.cond rfl (fun h5_61 => ?_) (fun h5_61 => ?_)
                  · have gh5_61 := (of_decide_eq_true h5_61)
                    refine WF.skip ?_
                    refine thn_n ?_
                    refine WF.seq ?_
                    refine WF.block ?_
                    refine WF.seq ?_
                    refine WF.region ?_
                    refine WL.va rfl rfl rfl (X.loadOA hO3 (Ext.trans (Ext.trans hwL1 hx58) hwL3) ((hAL3.eq 3).trans ((congrFun hF60 3).trans ((hAL1.eq 3).trans (congrFun hF33 3)))) rfl Try.isAgg25 Try.sizeOf25) ?_
                    refine WL.va rfl rfl rfl (X.moveI e8_L3) ?_
                    refine WL.va rfl rfl rfl (X.moveI e8_L3) ?_
                    refine WL.c rfl rfl rfl (X.call Try.call8 (evl_cons rfl (evl_cons rfl (evl_cons rfl (evl_cons rfl evl_nil))))) (messageTurned_walk vE vD (fullM (kd : Int) 14) (q : Int) (q : Int) 0 _ (hF.ext (Ext.trans (Ext.trans (Ext.trans (Ext.store hx13 hx16 (by omega)) hwL1) hx58) hwL3)) (by omega) (by omega) (by decide)) ?_
                    rintro v65 w63 ⟨rfl, hx66⟩
                    have := World.grownBy.size hx66
                    refine WL.va rfl rfl rfl (X.not rfl) ?_
                    refine WL.nil ?_
                    refine thn_n ?_
                    refine WF.cond_f rfl ?_
                    refine WF.skip ?_
                    refine blk_n ?_
                    refine thn_n ?_
                    refine WF.region ?_
                    refine WL.va rfl rfl rfl (X.moveI e8_L3) ?_
                    refine WL.va rfl rfl rfl (X.add rfl rfl (w64 (by omega))) ?_
                    refine WL.va rfl rfl rfl (X.assignI rfl) ?_
                    refine WL.nil ?_
                    exact thn_n ⟨_, (by omega), q + 3, rfl, rfl, (by repeat (first | exact hAL3 | refine Agree.put ?_ rfl | refine Agree.sub hAL1 rfl ?_ | refine Agree.sub hAL0 rfl ?_ | refine Agree.named hF60 ?_ | refine Agree.named hF33 ?_ | refine Agree.named hF6 ?_)), (Ext.trans hwL3 hx66), (by omega)⟩
                  · have gh5_61 := (of_decide_eq_false h5_61)
                    refine WF.exit ?_
                    refine thn_x ?_
                    refine thn_x ?_
                    refine blk_eq ?_
                    refine thn_n ?_
                    refine WF.seq ?_
                    refine WF.region ?_
                    refine WL.va rfl rfl rfl (X.assignI rfl) ?_
                    refine WL.nil ?_
                    refine thn_n ?_
                    refine WF.block ?_
                    refine WF.named (fun F69 hF70 => ?_)
                    refine WF.loopN (fun mL4 f' w' => ∃ (z : Nat), mL4 = (pb (fullM (kd : Int) 14)).length - z ∧ f' 9 = .int .i64 (z : Int) ∧ Agree [1, 2, 3, 4, 6, 8, 10, 11, 12, 15, 16, 17, 18, 19, 20, 21, 22, 23, 24, 25, 26, 27, 28, 29, 30, 31, 32, 33, 34, 63, 64, 65, 66, 67, 68, 69, 70, 71, 72] f' F69 ∧ Ext wb w' ∧ z ≤ (pb (fullM (kd : Int) 14)).length) ?_ ?_
                    · exact ⟨_, 0, rfl, (congrFun hF70 9), (Agree.refl _ _), hwL3, Nat.zero_le _⟩
                    · rintro mL4 fL4 wL4 ⟨z, hmL4, e9_L4, hAL4, hwL4, hz⟩
                      have := World.grownBy.size hwL4
                      refine WF.seq ?_
                      refine WF.seq ?_
                      refine WF.region ?_
                      refine WL.va rfl rfl rfl (X.moveI e9_L4) ?_
                      refine WL.va rfl rfl rfl (X.move ((hAL4.eq 6).trans ((congrFun hF70 6).trans ((hAL3.eq 6).trans (congrFun hF60 6))))) ?_
                      refine WL.va rfl rfl rfl (X.len fb rfl Try.underlying23) ?_
                      refine WL.va rfl rfl rfl (X.lss rfl rfl) ?_
                      refine WL.nil ?_
                      refine thn_n ?_
                      refine WF.cond rfl (fun h7_71 => ?_) (fun h7_71 => ?_)
                      · have gh7_71 := (of_decide_eq_true h7_71)
                        refine WF.skip ?_
                        refine thn_n ?_
                        refine WF.seq ?_
                        refine WF.block ?_
                        refine WF.seq ?_
                        refine WF.region ?_
                        refine WL.va rfl rfl rfl (X.move ((hAL4.eq 6).trans ((congrFun hF70 6).trans ((hAL3.eq 6).trans (congrFun hF60 6))))) ?_
                        refine WL.va rfl rfl rfl (X.moveI e9_L4) ?_
                        refine WL.va rfl rfl rfl (X.slH fb rfl rfl (by omega) Try.underlying23 Try.sizeOf5) ?_
                        refine WL.c rfl rfl rfl (X.call Try.call5 (evl_cons rfl evl_nil)) (messageGets_walk _ ((pb (fullM (kd : Int) 14)).take z) _ (part_take (Row.ext fb hwL4) (by omega)) (by simp; omega)) ?_
                        rintro v74 w73 ⟨rfl, hx75⟩
                        have := World.grownBy.size hx75
                        refine WL.va rfl rfl rfl (X.not rfl) ?_
                        refine WL.nil ?_
                        refine thn_n ?_
                        refine WF.cond_f rfl ?_
                        refine WF.skip ?_
                        refine blk_n ?_
                        refine thn_n ?_
                        refine WF.region ?_
                        refine WL.va rfl rfl rfl (X.moveI e9_L4) ?_
                        refine WL.va rfl rfl rfl (X.add rfl rfl (w64 (by omega))) ?_
                        refine WL.va rfl rfl rfl (X.assignI rfl) ?_
                        refine WL.nil ?_
                        exact thn_n ⟨_, (by omega), z + 1, rfl, rfl, (by repeat (first | exact hAL4 | refine Agree.put ?_ rfl | refine Agree.sub hAL3 rfl ?_ | refine Agree.sub hAL1 rfl ?_ | refine Agree.sub hAL0 rfl ?_ | refine Agree.named hF70 ?_ | refine Agree.named hF60 ?_ | refine Agree.named hF33 ?_ | refine Agree.named hF6 ?_)), (Ext.trans hwL4 hx75), (by omega)⟩
                      · have gh7_71 := (of_decide_eq_false h7_71)
                        refine WF.exit ?_
                        refine thn_x ?_
                        refine thn_x ?_
                        refine blk_eq ?_
                        refine blk_n ?_
                        refine thn_n ?_
                        refine WF.region ?_
                        refine WL.va rfl rfl rfl (X.moveI ((hAL4.eq 2).trans ((congrFun hF70 2).trans ((hAL3.eq 2).trans ((congrFun hF60 2).trans ((hAL1.eq 2).trans ((congrFun hF33 2).trans e2_L0))))))) ?_
                        refine WL.va rfl rfl rfl (X.add rfl rfl (w64 (by omega))) ?_
                        refine WL.va rfl rfl rfl (X.assignI rfl) ?_
                        refine WL.nil ?_
                        exact thn_n ⟨_, (by omega), kd + 1, rfl, rfl, (by repeat (first | exact hAL0 | refine Agree.put ?_ rfl | refine Agree.sub hAL4 rfl ?_ | refine Agree.sub hAL3 rfl ?_ | refine Agree.sub hAL1 rfl ?_ | refine Agree.named hF70 ?_ | refine Agree.named hF60 ?_ | refine Agree.named hF33 ?_ | refine Agree.named hF6 ?_)), (Ext.trans (Ext.trans (Ext.trans (Ext.trans (Ext.trans hwL0 hx10) (Ext.store hx13 hx16 (by omega))) hwL1) hx58) hwL4), (by omega)⟩
        · have gh26 := (of_decide_eq_false h26)
          refine WL.p rfl rfl rfl (congrArg some h26) ?_
          refine WL.p rfl rfl rfl (congrArg some h26) ?_
          refine WL.p rfl rfl rfl (congrArg some h26) ?_
          refine WL.vg rfl rfl rfl rfl (X.pickF rfl h26 rfl) ?_
          refine WL.va rfl rfl rfl (X.pickF rfl rfl rfl) ?_
          refine WL.nil ?_
          refine thn_n ?_
          refine WF.cond_f rfl ?_
          refine WF.skip ?_
          refine thn_n ?_
          refine WF.seq ?_
          refine WF.seq ?_
          refine WF.region ?_
          refine WL.va rfl rfl rfl (X.assignI rfl) ?_
          refine WL.nil ?_
          refine thn_n ?_
          refine WF.block ?_
          refine WF.named (fun F79 hF80 => ?_)
          refine WF.loopN (fun mL1 f' w' => ∃ (f : Nat), mL1 = 14 - f ∧ f' 4 = .int .i64 (f : Int) ∧ Agree [1, 2, 3, 10, 11, 12, 15, 16, 17, 18, 19, 20, 21, 22, 23, 24, 25, 26, 27, 28, 29, 30, 31, 32] f' F79 ∧ Ext wM w' ∧ f ≤ 14) ?_ ?_
          · exact ⟨_, 0, rfl, (congrFun hF80 4), (Agree.refl _ _), hx20, Nat.zero_le _⟩
          · rintro mL1 fL1 wL1 ⟨f, hmL1, e4_L1, hAL1, hwL1, hf⟩
            have := World.grownBy.size hwL1
            refine WF.seq ?_
            refine WF.seq ?_
            refine WF.region ?_
            refine WL.va rfl rfl rfl (X.moveI e4_L1) ?_
            refine WL.va rfl rfl rfl (X.lss rfl rfl) ?_
            refine WL.nil ?_
            refine thn_n ?_
            refine WF.cond rfl (fun h2_81 => ?_) (fun h2_81 => ?_)
            · have gh2_81 := (of_decide_eq_true h2_81)
              refine WF.skip ?_
              refine thn_n ?_
              refine WF.seq ?_
              refine WF.block ?_
              refine WF.seq ?_
              refine WF.region ?_
              refine WL.va rfl rfl rfl (X.assignI rfl) ?_
              refine WL.nil ?_
              refine thn_n ?_
              refine WF.block ?_
              refine WF.named (fun F83 hF84 => ?_)
              refine WF.loopN (fun mL2 f' w' => ∃ (i : Nat), mL2 = 14 - i ∧ f' 5 = .int .i64 (i : Int) ∧ Agree [1, 2, 3, 4, 10, 11, 12, 15, 16, 17, 18, 19, 20, 21, 22, 23, 24, 25, 26, 27, 28, 29, 30, 31, 32, 33, 34] f' F83 ∧ Ext wM w' ∧ i ≤ 14) ?_ ?_
              · exact ⟨_, 0, rfl, (congrFun hF84 5), (Agree.refl _ _), hwL1, Nat.zero_le _⟩
              · rintro mL2 fL2 wL2 ⟨i, hmL2, e5_L2, hAL2, hwL2, hi⟩
                have := World.grownBy.size hwL2
                refine WF.seq ?_
                refine WF.seq ?_
                refine WF.region ?_
                refine WL.va rfl rfl rfl (X.moveI e5_L2) ?_
                refine WL.va rfl rfl rfl (X.move ((hAL2.eq 1).trans ((congrFun hF84 1).trans ((hAL1.eq 1).trans ((congrFun hF80 1).trans ((hAL0.eq 1).trans (congrFun hF6 1))))))) ?_
                refine WL.va rfl rfl rfl (X.len (show Ints _ _ [-9223372036854775808, -1, 0, 1, 2, 3, 4, 5, 12, 199, 200, 1099511627776, 1099511627777, 9223372036854775807] from Row.of_own ho4) rfl Try.underlying45) ?_
                refine WL.va rfl rfl rfl (X.lss rfl rfl) ?_
                refine WL.nil ?_
                refine thn_n ?_
                refine WF.cond rfl (fun h3_85 => ?_) (fun h3_85 => ?_)
                · have gh3_85 := (of_decide_eq_true h3_85)
                  have hi14 : i < 14 := by have := gh3_85; simp only [List.length_cons, List.length_nil] at this; omega
                  refine WF.skip ?_
                  refine thn_n ?_
                  refine WF.seq ?_
                  refine WF.block ?_
                  refine WF.seq ?_
                  refine WF.drawn (.q 0 (.q 1 (.q 2 (.q 3 (.q 4 (.q 5 (.l 6 (.l 7 (.q 8 (.q 9 (.q 10 (.q 11 (.q 12 (.q 13 (.q 14 (.q 15 (.l 16 (.l 17 (.q 18 (.q 19 .nil)))))))))))))))))))) (fun w' => Ext wL2 w') 20 (by kernel_rfl) (by kernel_rfl) (Ext.drew _) ?_
                  have := World.grownBy.size (Ext.drew wL2)
                  refine WO.q rfl rfl rfl rfl (fun w' hE87 => (X.loadOA hO3 (Ext.trans hwL2 hE87) ((hAL2.eq 3).trans ((congrFun hF84 3).trans ((hAL1.eq 3).trans (congrFun hF80 3)))) rfl Try.isAgg25 Try.sizeOf25)) ?_
                  refine WO.q rfl rfl rfl rfl (fun w' hE87 => (X.moveI ((hAL2.eq 4).trans ((congrFun hF84 4).trans e4_L1)))) ?_
                  refine WO.q rfl rfl rfl rfl (fun w' hE87 => (X.move ((hAL2.eq 1).trans ((congrFun hF84 1).trans ((hAL1.eq 1).trans ((congrFun hF80 1).trans ((hAL0.eq 1).trans (congrFun hF6 1)))))))) ?_
                  refine WO.q rfl rfl rfl rfl (fun w' hE87 => (X.moveI e5_L2)) ?_
                  refine WO.q rfl rfl rfl rfl (fun w' hE87 => (X.idx (show Ints _ _ [-9223372036854775808, -1, 0, 1, 2, 3, 4, 5, 12, 199, 200, 1099511627776, 1099511627777, 9223372036854775807] from Row.of_own ho4) rfl rfl (by omega) Try.underlying45 Try.sizeOf3)) ?_
                  refine WO.q rfl rfl rfl rfl (fun w' hE87 => (X.loadI (show Ints _ _ [-9223372036854775808, -1, 0, 1, 2, 3, 4, 5, 12, 199, 200, 1099511627776, 1099511627777, 9223372036854775807] from Row.of_own ho4) (Ext.trans (Ext.trans (Ext.trans (Ext.trans hwL0 hx10) (Ext.store hx13 hx16 (by omega))) hwL2) hE87) rfl (by omega) Try.isAgg3)) ?_
                  refine WO.l ?_
                  refine LO.go rfl rfl (OW.enter rfl (by decide) (X.call Try.call29 (evl_cons rfl (evl_cons rfl (evl_cons rfl evl_nil)))) (set_ok (fullM (kd : Int) 14).n (fullM (kd : Int) 14).ok vE vD f (([-9223372036854775808, -1, 0, 1, 2, 3, 4, 5, 12, 199, 200, 1099511627776, 1099511627777, 9223372036854775807] : List Int).getD i 0) _ (by omega) hF.len hF.E.one (Row.one hF.D)) ?_)
                  rintro v89 w88 ⟨rfl, hx90⟩
                  have := World.grownBy.size hx90
                  refine ⟨(Ext.trans (Ext.drew _) hx90), ?_⟩
                  refine WO.l ?_
                  refine LO.go rfl rfl (OW.enter rfl (by decide) (X.call Try.call3 (evl_cons rfl evl_nil)) (messageChecks_walk vE vD { (fullM (kd : Int) 14) with n := (fullM (kd : Int) 14).n.set (sc f) (([-9223372036854775808, -1, 0, 1, 2, 3, 4, 5, 12, 199, 200, 1099511627776, 1099511627777, 9223372036854775807] : List Int).getD i 0) } _ ((set_at hF _ (n14_rng i)).ext (Ext.trans (Ext.trans (Ext.trans (Ext.store hx13 hx16 (by omega)) hwL2) (Ext.drew _)) hx90))) ?_)
                  rintro v92 w91 ⟨rfl, hx93⟩
                  have := World.grownBy.size hx93
                  refine ⟨(Ext.trans (Ext.trans (Ext.drew _) hx90) hx93), ?_⟩
                  refine WO.q rfl rfl rfl rfl (fun w' hE87 => (X.not rfl)) ?_
                  refine WO.q rfl rfl rfl rfl (fun w' hE87 => (X.moveB rfl)) ?_
                  refine WO.qg rfl rfl rfl rfl rfl (fun w' hE87 => (X.loadOA hO3 (Ext.trans hwL2 hE87) ((hAL2.eq 3).trans ((congrFun hF84 3).trans ((hAL1.eq 3).trans (congrFun hF80 3)))) rfl Try.isAgg25 Try.sizeOf25)) ?_
                  refine WO.qg rfl rfl rfl rfl rfl (fun w' hE87 => (X.moveI ((hAL2.eq 4).trans ((congrFun hF84 4).trans e4_L1)))) ?_
                  refine WO.qg rfl rfl rfl rfl rfl (fun w' hE87 => (X.move ((hAL2.eq 1).trans ((congrFun hF84 1).trans ((hAL1.eq 1).trans ((congrFun hF80 1).trans ((hAL0.eq 1).trans (congrFun hF6 1)))))))) ?_
                  refine WO.qg rfl rfl rfl rfl rfl (fun w' hE87 => (X.moveI e5_L2)) ?_
                  refine WO.qg rfl rfl rfl rfl rfl (fun w' hE87 => (X.idx (show Ints _ _ [-9223372036854775808, -1, 0, 1, 2, 3, 4, 5, 12, 199, 200, 1099511627776, 1099511627777, 9223372036854775807] from Row.of_own ho4) rfl rfl (by omega) Try.underlying45 Try.sizeOf3)) ?_
                  refine WO.qg rfl rfl rfl rfl rfl (fun w' hE87 => (X.loadI (show Ints _ _ [-9223372036854775808, -1, 0, 1, 2, 3, 4, 5, 12, 199, 200, 1099511627776, 1099511627777, 9223372036854775807] from Row.of_own ho4) (Ext.trans (Ext.trans (Ext.trans (Ext.trans hwL0 hx10) (Ext.store hx13 hx16 (by omega))) hwL2) hE87) rfl (by omega) Try.isAgg3)) ?_
                  refine WO.l ?_
                  refine LO.gog rfl rfl rfl (OW.enter rfl (by decide) (X.call Try.call29 (evl_cons rfl (evl_cons rfl (evl_cons rfl evl_nil)))) (set_ok (fullM (kd : Int) 14).n (fullM (kd : Int) 14).ok vE vD f (([-9223372036854775808, -1, 0, 1, 2, 3, 4, 5, 12, 199, 200, 1099511627776, 1099511627777, 9223372036854775807] : List Int).getD i 0) _ (by omega) hF.len hF.E.one (Row.one hF.D)) ?_)
                  rintro v97 w96 ⟨rfl, hx98⟩
                  have := World.grownBy.size hx98
                  refine ⟨(Ext.trans (Ext.trans (Ext.trans (Ext.drew _) hx90) hx93) hx98), ?_⟩
                  refine WO.l ?_
                  refine LO.gog rfl rfl rfl (OW.enter rfl (by decide) (X.call Try.call6 (evl_cons rfl evl_nil)) (messageBack_walk vE vD { (fullM (kd : Int) 14) with n := (fullM (kd : Int) 14).n.set (sc f) (([-9223372036854775808, -1, 0, 1, 2, 3, 4, 5, 12, 199, 200, 1099511627776, 1099511627777, 9223372036854775807] : List Int).getD i 0) } _ ((set_at hF _ (n14_rng i)).ext (Ext.trans (Ext.trans (Ext.trans (Ext.trans (Ext.trans (Ext.store hx13 hx16 (by omega)) hwL2) (Ext.drew _)) hx90) hx93) hx98))) ?_)
                  rintro v100 w99 ⟨rfl, hx101⟩
                  have := World.grownBy.size hx101
                  refine ⟨(Ext.trans (Ext.trans (Ext.trans (Ext.trans (Ext.drew _) hx90) hx93) hx98) hx101), ?_⟩
                  refine WO.qg rfl rfl rfl rfl rfl (fun w' hE87 => (X.not rfl)) ?_
                  refine WO.q rfl rfl rfl rfl (fun w' hE87 => (X.pickF rfl rfl rfl)) ?_
                  refine WO.nil ?_
                  refine WL.nil ?_
                  refine thn_n ?_
                  refine WF.cond_f rfl ?_
                  refine WF.skip ?_
                  refine blk_n ?_
                  refine thn_n ?_
                  refine WF.region ?_
                  refine WL.va rfl rfl rfl (X.moveI e5_L2) ?_
                  refine WL.va rfl rfl rfl (X.add rfl rfl (w64 (by omega))) ?_
                  refine WL.va rfl rfl rfl (X.assignI rfl) ?_
                  refine WL.nil ?_
                  exact thn_n ⟨_, (by omega), i + 1, rfl, rfl, (by repeat (first | exact hAL2 | refine Agree.put ?_ rfl | refine Agree.sub hAL1 rfl ?_ | refine Agree.sub hAL0 rfl ?_ | refine Agree.named hF84 ?_ | refine Agree.named hF80 ?_ | refine Agree.named hF6 ?_)), (Ext.trans (Ext.trans (Ext.trans (Ext.trans (Ext.trans hwL2 (Ext.drew _)) hx90) hx93) hx98) hx101), (by omega)⟩
                · have gh3_85 := (of_decide_eq_false h3_85)
                  refine WF.exit ?_
                  refine thn_x ?_
                  refine thn_x ?_
                  refine blk_eq ?_
                  refine blk_n ?_
                  refine thn_n ?_
                  refine WF.region ?_
                  refine WL.va rfl rfl rfl (X.moveI ((hAL2.eq 4).trans ((congrFun hF84 4).trans e4_L1))) ?_
                  refine WL.va rfl rfl rfl (X.add rfl rfl (w64 (by omega))) ?_
                  refine WL.va rfl rfl rfl (X.assignI rfl) ?_
                  refine WL.nil ?_
                  exact thn_n ⟨_, (by omega), f + 1, rfl, rfl, (by repeat (first | exact hAL1 | refine Agree.put ?_ rfl | refine Agree.sub hAL2 rfl ?_ | refine Agree.sub hAL0 rfl ?_ | refine Agree.named hF84 ?_ | refine Agree.named hF80 ?_ | refine Agree.named hF6 ?_)), hwL2, (by omega)⟩
            · have gh2_81 := (of_decide_eq_false h2_81)
              refine WF.exit ?_
              refine thn_x ?_
              refine thn_x ?_
              refine blk_eq ?_
              refine thn_n ?_
              refine WF.seq ?_
              refine WF.region ?_
              refine WL.va rfl rfl rfl (X.loadOA hO3 hwL1 ((hAL1.eq 3).trans (congrFun hF80 3)) rfl Try.isAgg25 Try.sizeOf25) ?_
              refine WL.c rfl rfl rfl (X.call Try.call16 (evl_cons rfl evl_nil)) (put_ob (hF.ext (Ext.trans (Ext.store hx13 hx16 (by omega)) hwL1))) ?_
              rintro v104 wb ⟨⟨vb, rfl, ob⟩, hx105⟩
              have := World.grownBy.size hx105
              have fb := Bytes.of_own ob
              have hpl := pb_le (fullM (kd : Int) 14)
              refine WL.va rfl rfl rfl (X.move rfl) ?_
              refine WL.va rfl rfl rfl (X.extract rfl rfl) ?_
              refine WL.va rfl rfl rfl (X.extract rfl rfl) ?_
              refine WL.va rfl rfl rfl (X.assign rfl) ?_
              refine WL.va rfl rfl rfl (X.assignI rfl) ?_
              refine WL.nil ?_
              refine thn_n ?_
              refine WF.seq ?_
              refine WF.seq ?_
              refine WF.region ?_
              refine WL.va rfl rfl rfl (X.assignI rfl) ?_
              refine WL.nil ?_
              refine thn_n ?_
              refine WF.block ?_
              refine WF.named (fun F106 hF107 => ?_)
              refine WF.loopN (fun mL3 f' w' => ∃ (q : Nat), mL3 = 8 * (pb (fullM (kd : Int) 14)).length - q ∧ f' 8 = .int .i64 (q : Int) ∧ Agree [1, 2, 3, 4, 6, 10, 11, 12, 15, 16, 17, 18, 19, 20, 21, 22, 23, 24, 25, 26, 27, 28, 29, 30, 31, 32, 33, 34, 63, 64, 65, 66, 67] f' F106 ∧ Ext wb w' ∧ q ≤ 8 * (pb (fullM (kd : Int) 14)).length + 3) ?_ ?_
              · exact ⟨_, 0, rfl, (congrFun hF107 8), (Agree.refl _ _), (Ext.refl _), Nat.zero_le _⟩
              · rintro mL3 fL3 wL3 ⟨q, hmL3, e8_L3, hAL3, hwL3, hq⟩
                have := World.grownBy.size hwL3
                refine WF.seq ?_
                refine WF.seq ?_
                refine WF.region ?_
                refine WL.va rfl rfl rfl (X.moveI e8_L3) ?_
                refine WL.va rfl rfl rfl (X.move ((hAL3.eq 6).trans (congrFun hF107 6))) ?_
                refine WL.va rfl rfl rfl (X.len fb rfl Try.underlying23) ?_
                refine WL.va rfl rfl rfl (X.mul rfl rfl (w64 (by omega))) ?_
                refine WL.va rfl rfl rfl (X.lss rfl rfl) ?_
                refine WL.nil ?_
                refine thn_n ?_
                refine WF.cond rfl (fun h5_108 => ?_) (fun h5_108 => ?_)
                · have gh5_108 := (of_decide_eq_true h5_108)
                  refine WF.skip ?_
                  refine thn_n ?_
                  refine WF.seq ?_
                  refine WF.block ?_
                  refine WF.seq ?_
                  refine WF.region ?_
                  refine WL.va rfl rfl rfl (X.loadOA hO3 (Ext.trans (Ext.trans hwL1 hx105) hwL3) ((hAL3.eq 3).trans ((congrFun hF107 3).trans ((hAL1.eq 3).trans (congrFun hF80 3)))) rfl Try.isAgg25 Try.sizeOf25) ?_
                  refine WL.va rfl rfl rfl (X.moveI e8_L3) ?_
                  refine WL.va rfl rfl rfl (X.moveI e8_L3) ?_
                  refine WL.c rfl rfl rfl (X.call Try.call8 (evl_cons rfl (evl_cons rfl (evl_cons rfl (evl_cons rfl evl_nil))))) (messageTurned_walk vE vD (fullM (kd : Int) 14) (q : Int) (q : Int) 0 _ (hF.ext (Ext.trans (Ext.trans (Ext.trans (Ext.store hx13 hx16 (by omega)) hwL1) hx105) hwL3)) (by omega) (by omega) (by decide)) ?_
                  rintro v111 w110 ⟨rfl, hx112⟩
                  have := World.grownBy.size hx112
                  refine WL.va rfl rfl rfl (X.not rfl) ?_
                  refine WL.nil ?_
                  refine thn_n ?_
                  refine WF.cond_f rfl ?_
                  refine WF.skip ?_
                  refine blk_n ?_
                  refine thn_n ?_
                  refine WF.region ?_
                  refine WL.va rfl rfl rfl (X.moveI e8_L3) ?_
                  refine WL.va rfl rfl rfl (X.add rfl rfl (w64 (by omega))) ?_
                  refine WL.va rfl rfl rfl (X.assignI rfl) ?_
                  refine WL.nil ?_
                  exact thn_n ⟨_, (by omega), q + 3, rfl, rfl, (by repeat (first | exact hAL3 | refine Agree.put ?_ rfl | refine Agree.sub hAL1 rfl ?_ | refine Agree.sub hAL0 rfl ?_ | refine Agree.named hF107 ?_ | refine Agree.named hF80 ?_ | refine Agree.named hF6 ?_)), (Ext.trans hwL3 hx112), (by omega)⟩
                · have gh5_108 := (of_decide_eq_false h5_108)
                  refine WF.exit ?_
                  refine thn_x ?_
                  refine thn_x ?_
                  refine blk_eq ?_
                  refine thn_n ?_
                  refine WF.seq ?_
                  refine WF.region ?_
                  refine WL.va rfl rfl rfl (X.assignI rfl) ?_
                  refine WL.nil ?_
                  refine thn_n ?_
                  refine WF.block ?_
                  refine WF.named (fun F115 hF116 => ?_)
                  refine WF.loopN (fun mL4 f' w' => ∃ (z : Nat), mL4 = (pb (fullM (kd : Int) 14)).length - z ∧ f' 9 = .int .i64 (z : Int) ∧ Agree [1, 2, 3, 4, 6, 8, 10, 11, 12, 15, 16, 17, 18, 19, 20, 21, 22, 23, 24, 25, 26, 27, 28, 29, 30, 31, 32, 33, 34, 63, 64, 65, 66, 67, 68, 69, 70, 71, 72] f' F115 ∧ Ext wb w' ∧ z ≤ (pb (fullM (kd : Int) 14)).length) ?_ ?_
                  · exact ⟨_, 0, rfl, (congrFun hF116 9), (Agree.refl _ _), hwL3, Nat.zero_le _⟩
                  · rintro mL4 fL4 wL4 ⟨z, hmL4, e9_L4, hAL4, hwL4, hz⟩
                    have := World.grownBy.size hwL4
                    refine WF.seq ?_
                    refine WF.seq ?_
                    refine WF.region ?_
                    refine WL.va rfl rfl rfl (X.moveI e9_L4) ?_
                    refine WL.va rfl rfl rfl (X.move ((hAL4.eq 6).trans ((congrFun hF116 6).trans ((hAL3.eq 6).trans (congrFun hF107 6))))) ?_
                    refine WL.va rfl rfl rfl (X.len fb rfl Try.underlying23) ?_
                    refine WL.va rfl rfl rfl (X.lss rfl rfl) ?_
                    refine WL.nil ?_
                    refine thn_n ?_
                    refine WF.cond rfl (fun h7_117 => ?_) (fun h7_117 => ?_)
                    · have gh7_117 := (of_decide_eq_true h7_117)
                      refine WF.skip ?_
                      refine thn_n ?_
                      refine WF.seq ?_
                      refine WF.block ?_
                      refine WF.seq ?_
                      refine WF.region ?_
                      refine WL.va rfl rfl rfl (X.move ((hAL4.eq 6).trans ((congrFun hF116 6).trans ((hAL3.eq 6).trans (congrFun hF107 6))))) ?_
                      refine WL.va rfl rfl rfl (X.moveI e9_L4) ?_
                      refine WL.va rfl rfl rfl (X.slH fb rfl rfl (by omega) Try.underlying23 Try.sizeOf5) ?_
                      refine WL.c rfl rfl rfl (X.call Try.call5 (evl_cons rfl evl_nil)) (messageGets_walk _ ((pb (fullM (kd : Int) 14)).take z) _ (part_take (Row.ext fb hwL4) (by omega)) (by simp; omega)) ?_
                      rintro v120 w119 ⟨rfl, hx121⟩
                      have := World.grownBy.size hx121
                      refine WL.va rfl rfl rfl (X.not rfl) ?_
                      refine WL.nil ?_
                      refine thn_n ?_
                      refine WF.cond_f rfl ?_
                      refine WF.skip ?_
                      refine blk_n ?_
                      refine thn_n ?_
                      refine WF.region ?_
                      refine WL.va rfl rfl rfl (X.moveI e9_L4) ?_
                      refine WL.va rfl rfl rfl (X.add rfl rfl (w64 (by omega))) ?_
                      refine WL.va rfl rfl rfl (X.assignI rfl) ?_
                      refine WL.nil ?_
                      exact thn_n ⟨_, (by omega), z + 1, rfl, rfl, (by repeat (first | exact hAL4 | refine Agree.put ?_ rfl | refine Agree.sub hAL3 rfl ?_ | refine Agree.sub hAL1 rfl ?_ | refine Agree.sub hAL0 rfl ?_ | refine Agree.named hF116 ?_ | refine Agree.named hF107 ?_ | refine Agree.named hF80 ?_ | refine Agree.named hF6 ?_)), (Ext.trans hwL4 hx121), (by omega)⟩
                    · have gh7_117 := (of_decide_eq_false h7_117)
                      refine WF.exit ?_
                      refine thn_x ?_
                      refine thn_x ?_
                      refine blk_eq ?_
                      refine blk_n ?_
                      refine thn_n ?_
                      refine WF.region ?_
                      refine WL.va rfl rfl rfl (X.moveI ((hAL4.eq 2).trans ((congrFun hF116 2).trans ((hAL3.eq 2).trans ((congrFun hF107 2).trans ((hAL1.eq 2).trans ((congrFun hF80 2).trans e2_L0))))))) ?_
                      refine WL.va rfl rfl rfl (X.add rfl rfl (w64 (by omega))) ?_
                      refine WL.va rfl rfl rfl (X.assignI rfl) ?_
                      refine WL.nil ?_
                      exact thn_n ⟨_, (by omega), kd + 1, rfl, rfl, (by repeat (first | exact hAL0 | refine Agree.put ?_ rfl | refine Agree.sub hAL4 rfl ?_ | refine Agree.sub hAL3 rfl ?_ | refine Agree.sub hAL1 rfl ?_ | refine Agree.named hF116 ?_ | refine Agree.named hF107 ?_ | refine Agree.named hF80 ?_ | refine Agree.named hF6 ?_)), (Ext.trans (Ext.trans (Ext.trans (Ext.trans (Ext.trans hwL0 hx10) (Ext.store hx13 hx16 (by omega))) hwL1) hx105) hwL4), (by omega)⟩
      · have gh24 := (of_decide_eq_false h24)
        refine WL.p rfl rfl rfl (congrArg some h24) ?_
        refine WL.p rfl rfl rfl (congrArg some h24) ?_
        refine WL.vg rfl rfl rfl rfl (X.pickF rfl h24 rfl) ?_
        refine WL.vg rfl rfl rfl rfl (X.moveB rfl) ?_
        refine WL.p rfl rfl rfl rfl ?_
        refine WL.p rfl rfl rfl rfl ?_
        refine WL.p rfl rfl rfl rfl ?_
        refine WL.vg rfl rfl rfl rfl (X.pickF rfl rfl rfl) ?_
        refine WL.va rfl rfl rfl (X.pickF rfl rfl rfl) ?_
        refine WL.nil ?_
        refine thn_n ?_
        refine WF.cond_f rfl ?_
        refine WF.skip ?_
        refine thn_n ?_
        refine WF.seq ?_
        refine WF.seq ?_
        refine WF.region ?_
        refine WL.va rfl rfl rfl (X.assignI rfl) ?_
        refine WL.nil ?_
        refine thn_n ?_
        refine WF.block ?_
        refine WF.named (fun F126 hF127 => ?_)
        refine WF.loopN (fun mL1 f' w' => ∃ (f : Nat), mL1 = 14 - f ∧ f' 4 = .int .i64 (f : Int) ∧ Agree [1, 2, 3, 10, 11, 12, 15, 16, 17, 18, 19, 20, 21, 22, 23, 24, 25, 26, 27, 28, 29, 30, 31, 32] f' F126 ∧ Ext wM w' ∧ f ≤ 14) ?_ ?_
        · exact ⟨_, 0, rfl, (congrFun hF127 4), (Agree.refl _ _), hx20, Nat.zero_le _⟩
        · rintro mL1 fL1 wL1 ⟨f, hmL1, e4_L1, hAL1, hwL1, hf⟩
          have := World.grownBy.size hwL1
          refine WF.seq ?_
          refine WF.seq ?_
          refine WF.region ?_
          refine WL.va rfl rfl rfl (X.moveI e4_L1) ?_
          refine WL.va rfl rfl rfl (X.lss rfl rfl) ?_
          refine WL.nil ?_
          refine thn_n ?_
          refine WF.cond rfl (fun h2_128 => ?_) (fun h2_128 => ?_)
          · have gh2_128 := (of_decide_eq_true h2_128)
            refine WF.skip ?_
            refine thn_n ?_
            refine WF.seq ?_
            refine WF.block ?_
            refine WF.seq ?_
            refine WF.region ?_
            refine WL.va rfl rfl rfl (X.assignI rfl) ?_
            refine WL.nil ?_
            refine thn_n ?_
            refine WF.block ?_
            refine WF.named (fun F130 hF131 => ?_)
            refine WF.loopN (fun mL2 f' w' => ∃ (i : Nat), mL2 = 14 - i ∧ f' 5 = .int .i64 (i : Int) ∧ Agree [1, 2, 3, 4, 10, 11, 12, 15, 16, 17, 18, 19, 20, 21, 22, 23, 24, 25, 26, 27, 28, 29, 30, 31, 32, 33, 34] f' F130 ∧ Ext wM w' ∧ i ≤ 14) ?_ ?_
            · exact ⟨_, 0, rfl, (congrFun hF131 5), (Agree.refl _ _), hwL1, Nat.zero_le _⟩
            · rintro mL2 fL2 wL2 ⟨i, hmL2, e5_L2, hAL2, hwL2, hi⟩
              have := World.grownBy.size hwL2
              refine WF.seq ?_
              refine WF.seq ?_
              refine WF.region ?_
              refine WL.va rfl rfl rfl (X.moveI e5_L2) ?_
              refine WL.va rfl rfl rfl (X.move ((hAL2.eq 1).trans ((congrFun hF131 1).trans ((hAL1.eq 1).trans ((congrFun hF127 1).trans ((hAL0.eq 1).trans (congrFun hF6 1))))))) ?_
              refine WL.va rfl rfl rfl (X.len (show Ints _ _ [-9223372036854775808, -1, 0, 1, 2, 3, 4, 5, 12, 199, 200, 1099511627776, 1099511627777, 9223372036854775807] from Row.of_own ho4) rfl Try.underlying45) ?_
              refine WL.va rfl rfl rfl (X.lss rfl rfl) ?_
              refine WL.nil ?_
              refine thn_n ?_
              refine WF.cond rfl (fun h3_132 => ?_) (fun h3_132 => ?_)
              · have gh3_132 := (of_decide_eq_true h3_132)
                have hi14 : i < 14 := by have := gh3_132; simp only [List.length_cons, List.length_nil] at this; omega
                refine WF.skip ?_
                refine thn_n ?_
                refine WF.seq ?_
                refine WF.block ?_
                refine WF.seq ?_
                refine WF.drawn (.q 0 (.q 1 (.q 2 (.q 3 (.q 4 (.q 5 (.l 6 (.l 7 (.q 8 (.q 9 (.q 10 (.q 11 (.q 12 (.q 13 (.q 14 (.q 15 (.l 16 (.l 17 (.q 18 (.q 19 .nil)))))))))))))))))))) (fun w' => Ext wL2 w') 20 (by kernel_rfl) (by kernel_rfl) (Ext.drew _) ?_
                have := World.grownBy.size (Ext.drew wL2)
                refine WO.q rfl rfl rfl rfl (fun w' hE134 => (X.loadOA hO3 (Ext.trans hwL2 hE134) ((hAL2.eq 3).trans ((congrFun hF131 3).trans ((hAL1.eq 3).trans (congrFun hF127 3)))) rfl Try.isAgg25 Try.sizeOf25)) ?_
                refine WO.q rfl rfl rfl rfl (fun w' hE134 => (X.moveI ((hAL2.eq 4).trans ((congrFun hF131 4).trans e4_L1)))) ?_
                refine WO.q rfl rfl rfl rfl (fun w' hE134 => (X.move ((hAL2.eq 1).trans ((congrFun hF131 1).trans ((hAL1.eq 1).trans ((congrFun hF127 1).trans ((hAL0.eq 1).trans (congrFun hF6 1)))))))) ?_
                refine WO.q rfl rfl rfl rfl (fun w' hE134 => (X.moveI e5_L2)) ?_
                refine WO.q rfl rfl rfl rfl (fun w' hE134 => (X.idx (show Ints _ _ [-9223372036854775808, -1, 0, 1, 2, 3, 4, 5, 12, 199, 200, 1099511627776, 1099511627777, 9223372036854775807] from Row.of_own ho4) rfl rfl (by omega) Try.underlying45 Try.sizeOf3)) ?_
                refine WO.q rfl rfl rfl rfl (fun w' hE134 => (X.loadI (show Ints _ _ [-9223372036854775808, -1, 0, 1, 2, 3, 4, 5, 12, 199, 200, 1099511627776, 1099511627777, 9223372036854775807] from Row.of_own ho4) (Ext.trans (Ext.trans (Ext.trans (Ext.trans hwL0 hx10) (Ext.store hx13 hx16 (by omega))) hwL2) hE134) rfl (by omega) Try.isAgg3)) ?_
                refine WO.l ?_
                refine LO.go rfl rfl (OW.enter rfl (by decide) (X.call Try.call29 (evl_cons rfl (evl_cons rfl (evl_cons rfl evl_nil)))) (set_ok (fullM (kd : Int) 14).n (fullM (kd : Int) 14).ok vE vD f (([-9223372036854775808, -1, 0, 1, 2, 3, 4, 5, 12, 199, 200, 1099511627776, 1099511627777, 9223372036854775807] : List Int).getD i 0) _ (by omega) hF.len hF.E.one (Row.one hF.D)) ?_)
                rintro v136 w135 ⟨rfl, hx137⟩
                have := World.grownBy.size hx137
                refine ⟨(Ext.trans (Ext.drew _) hx137), ?_⟩
                refine WO.l ?_
                refine LO.go rfl rfl (OW.enter rfl (by decide) (X.call Try.call3 (evl_cons rfl evl_nil)) (messageChecks_walk vE vD { (fullM (kd : Int) 14) with n := (fullM (kd : Int) 14).n.set (sc f) (([-9223372036854775808, -1, 0, 1, 2, 3, 4, 5, 12, 199, 200, 1099511627776, 1099511627777, 9223372036854775807] : List Int).getD i 0) } _ ((set_at hF _ (n14_rng i)).ext (Ext.trans (Ext.trans (Ext.trans (Ext.store hx13 hx16 (by omega)) hwL2) (Ext.drew _)) hx137))) ?_)
                rintro v139 w138 ⟨rfl, hx140⟩
                have := World.grownBy.size hx140
                refine ⟨(Ext.trans (Ext.trans (Ext.drew _) hx137) hx140), ?_⟩
                refine WO.q rfl rfl rfl rfl (fun w' hE134 => (X.not rfl)) ?_
                refine WO.q rfl rfl rfl rfl (fun w' hE134 => (X.moveB rfl)) ?_
                refine WO.qg rfl rfl rfl rfl rfl (fun w' hE134 => (X.loadOA hO3 (Ext.trans hwL2 hE134) ((hAL2.eq 3).trans ((congrFun hF131 3).trans ((hAL1.eq 3).trans (congrFun hF127 3)))) rfl Try.isAgg25 Try.sizeOf25)) ?_
                refine WO.qg rfl rfl rfl rfl rfl (fun w' hE134 => (X.moveI ((hAL2.eq 4).trans ((congrFun hF131 4).trans e4_L1)))) ?_
                refine WO.qg rfl rfl rfl rfl rfl (fun w' hE134 => (X.move ((hAL2.eq 1).trans ((congrFun hF131 1).trans ((hAL1.eq 1).trans ((congrFun hF127 1).trans ((hAL0.eq 1).trans (congrFun hF6 1)))))))) ?_
                refine WO.qg rfl rfl rfl rfl rfl (fun w' hE134 => (X.moveI e5_L2)) ?_
                refine WO.qg rfl rfl rfl rfl rfl (fun w' hE134 => (X.idx (show Ints _ _ [-9223372036854775808, -1, 0, 1, 2, 3, 4, 5, 12, 199, 200, 1099511627776, 1099511627777, 9223372036854775807] from Row.of_own ho4) rfl rfl (by omega) Try.underlying45 Try.sizeOf3)) ?_
                refine WO.qg rfl rfl rfl rfl rfl (fun w' hE134 => (X.loadI (show Ints _ _ [-9223372036854775808, -1, 0, 1, 2, 3, 4, 5, 12, 199, 200, 1099511627776, 1099511627777, 9223372036854775807] from Row.of_own ho4) (Ext.trans (Ext.trans (Ext.trans (Ext.trans hwL0 hx10) (Ext.store hx13 hx16 (by omega))) hwL2) hE134) rfl (by omega) Try.isAgg3)) ?_
                refine WO.l ?_
                refine LO.gog rfl rfl rfl (OW.enter rfl (by decide) (X.call Try.call29 (evl_cons rfl (evl_cons rfl (evl_cons rfl evl_nil)))) (set_ok (fullM (kd : Int) 14).n (fullM (kd : Int) 14).ok vE vD f (([-9223372036854775808, -1, 0, 1, 2, 3, 4, 5, 12, 199, 200, 1099511627776, 1099511627777, 9223372036854775807] : List Int).getD i 0) _ (by omega) hF.len hF.E.one (Row.one hF.D)) ?_)
                rintro v144 w143 ⟨rfl, hx145⟩
                have := World.grownBy.size hx145
                refine ⟨(Ext.trans (Ext.trans (Ext.trans (Ext.drew _) hx137) hx140) hx145), ?_⟩
                refine WO.l ?_
                refine LO.gog rfl rfl rfl (OW.enter rfl (by decide) (X.call Try.call6 (evl_cons rfl evl_nil)) (messageBack_walk vE vD { (fullM (kd : Int) 14) with n := (fullM (kd : Int) 14).n.set (sc f) (([-9223372036854775808, -1, 0, 1, 2, 3, 4, 5, 12, 199, 200, 1099511627776, 1099511627777, 9223372036854775807] : List Int).getD i 0) } _ ((set_at hF _ (n14_rng i)).ext (Ext.trans (Ext.trans (Ext.trans (Ext.trans (Ext.trans (Ext.store hx13 hx16 (by omega)) hwL2) (Ext.drew _)) hx137) hx140) hx145))) ?_)
                rintro v147 w146 ⟨rfl, hx148⟩
                have := World.grownBy.size hx148
                refine ⟨(Ext.trans (Ext.trans (Ext.trans (Ext.trans (Ext.drew _) hx137) hx140) hx145) hx148), ?_⟩
                refine WO.qg rfl rfl rfl rfl rfl (fun w' hE134 => (X.not rfl)) ?_
                refine WO.q rfl rfl rfl rfl (fun w' hE134 => (X.pickF rfl rfl rfl)) ?_
                refine WO.nil ?_
                refine WL.nil ?_
                refine thn_n ?_
                refine WF.cond_f rfl ?_
                refine WF.skip ?_
                refine blk_n ?_
                refine thn_n ?_
                refine WF.region ?_
                refine WL.va rfl rfl rfl (X.moveI e5_L2) ?_
                refine WL.va rfl rfl rfl (X.add rfl rfl (w64 (by omega))) ?_
                refine WL.va rfl rfl rfl (X.assignI rfl) ?_
                refine WL.nil ?_
                exact thn_n ⟨_, (by omega), i + 1, rfl, rfl, (by repeat (first | exact hAL2 | refine Agree.put ?_ rfl | refine Agree.sub hAL1 rfl ?_ | refine Agree.sub hAL0 rfl ?_ | refine Agree.named hF131 ?_ | refine Agree.named hF127 ?_ | refine Agree.named hF6 ?_)), (Ext.trans (Ext.trans (Ext.trans (Ext.trans (Ext.trans hwL2 (Ext.drew _)) hx137) hx140) hx145) hx148), (by omega)⟩
              · have gh3_132 := (of_decide_eq_false h3_132)
                refine WF.exit ?_
                refine thn_x ?_
                refine thn_x ?_
                refine blk_eq ?_
                refine blk_n ?_
                refine thn_n ?_
                refine WF.region ?_
                refine WL.va rfl rfl rfl (X.moveI ((hAL2.eq 4).trans ((congrFun hF131 4).trans e4_L1))) ?_
                refine WL.va rfl rfl rfl (X.add rfl rfl (w64 (by omega))) ?_
                refine WL.va rfl rfl rfl (X.assignI rfl) ?_
                refine WL.nil ?_
                exact thn_n ⟨_, (by omega), f + 1, rfl, rfl, (by repeat (first | exact hAL1 | refine Agree.put ?_ rfl | refine Agree.sub hAL2 rfl ?_ | refine Agree.sub hAL0 rfl ?_ | refine Agree.named hF131 ?_ | refine Agree.named hF127 ?_ | refine Agree.named hF6 ?_)), hwL2, (by omega)⟩
          · have gh2_128 := (of_decide_eq_false h2_128)
            refine WF.exit ?_
            refine thn_x ?_
            refine thn_x ?_
            refine blk_eq ?_
            refine thn_n ?_
            refine WF.seq ?_
            refine WF.region ?_
            refine WL.va rfl rfl rfl (X.loadOA hO3 hwL1 ((hAL1.eq 3).trans (congrFun hF127 3)) rfl Try.isAgg25 Try.sizeOf25) ?_
            refine WL.c rfl rfl rfl (X.call Try.call16 (evl_cons rfl evl_nil)) (put_ob (hF.ext (Ext.trans (Ext.store hx13 hx16 (by omega)) hwL1))) ?_
            rintro v151 wb ⟨⟨vb, rfl, ob⟩, hx152⟩
            have := World.grownBy.size hx152
            have fb := Bytes.of_own ob
            have hpl := pb_le (fullM (kd : Int) 14)
            refine WL.va rfl rfl rfl (X.move rfl) ?_
            refine WL.va rfl rfl rfl (X.extract rfl rfl) ?_
            refine WL.va rfl rfl rfl (X.extract rfl rfl) ?_
            refine WL.va rfl rfl rfl (X.assign rfl) ?_
            refine WL.va rfl rfl rfl (X.assignI rfl) ?_
            refine WL.nil ?_
            refine thn_n ?_
            refine WF.seq ?_
            refine WF.seq ?_
            refine WF.region ?_
            refine WL.va rfl rfl rfl (X.assignI rfl) ?_
            refine WL.nil ?_
            refine thn_n ?_
            refine WF.block ?_
            refine WF.named (fun F153 hF154 => ?_)
            refine WF.loopN (fun mL3 f' w' => ∃ (q : Nat), mL3 = 8 * (pb (fullM (kd : Int) 14)).length - q ∧ f' 8 = .int .i64 (q : Int) ∧ Agree [1, 2, 3, 4, 6, 10, 11, 12, 15, 16, 17, 18, 19, 20, 21, 22, 23, 24, 25, 26, 27, 28, 29, 30, 31, 32, 33, 34, 63, 64, 65, 66, 67] f' F153 ∧ Ext wb w' ∧ q ≤ 8 * (pb (fullM (kd : Int) 14)).length + 3) ?_ ?_
            · exact ⟨_, 0, rfl, (congrFun hF154 8), (Agree.refl _ _), (Ext.refl _), Nat.zero_le _⟩
            · rintro mL3 fL3 wL3 ⟨q, hmL3, e8_L3, hAL3, hwL3, hq⟩
              have := World.grownBy.size hwL3
              refine WF.seq ?_
              refine WF.seq ?_
              refine WF.region ?_
              refine WL.va rfl rfl rfl (X.moveI e8_L3) ?_
              refine WL.va rfl rfl rfl (X.move ((hAL3.eq 6).trans (congrFun hF154 6))) ?_
              refine WL.va rfl rfl rfl (X.len fb rfl Try.underlying23) ?_
              refine WL.va rfl rfl rfl (X.mul rfl rfl (w64 (by omega))) ?_
              refine WL.va rfl rfl rfl (X.lss rfl rfl) ?_
              refine WL.nil ?_
              refine thn_n ?_
              refine WF.cond rfl (fun h5_155 => ?_) (fun h5_155 => ?_)
              · have gh5_155 := (of_decide_eq_true h5_155)
                refine WF.skip ?_
                refine thn_n ?_
                refine WF.seq ?_
                refine WF.block ?_
                refine WF.seq ?_
                refine WF.region ?_
                refine WL.va rfl rfl rfl (X.loadOA hO3 (Ext.trans (Ext.trans hwL1 hx152) hwL3) ((hAL3.eq 3).trans ((congrFun hF154 3).trans ((hAL1.eq 3).trans (congrFun hF127 3)))) rfl Try.isAgg25 Try.sizeOf25) ?_
                refine WL.va rfl rfl rfl (X.moveI e8_L3) ?_
                refine WL.va rfl rfl rfl (X.moveI e8_L3) ?_
                refine WL.c rfl rfl rfl (X.call Try.call8 (evl_cons rfl (evl_cons rfl (evl_cons rfl (evl_cons rfl evl_nil))))) (messageTurned_walk vE vD (fullM (kd : Int) 14) (q : Int) (q : Int) 0 _ (hF.ext (Ext.trans (Ext.trans (Ext.trans (Ext.store hx13 hx16 (by omega)) hwL1) hx152) hwL3)) (by omega) (by omega) (by decide)) ?_
                rintro v158 w157 ⟨rfl, hx159⟩
                have := World.grownBy.size hx159
                refine WL.va rfl rfl rfl (X.not rfl) ?_
                refine WL.nil ?_
                refine thn_n ?_
                refine WF.cond_f rfl ?_
                refine WF.skip ?_
                refine blk_n ?_
                refine thn_n ?_
                refine WF.region ?_
                refine WL.va rfl rfl rfl (X.moveI e8_L3) ?_
                refine WL.va rfl rfl rfl (X.add rfl rfl (w64 (by omega))) ?_
                refine WL.va rfl rfl rfl (X.assignI rfl) ?_
                refine WL.nil ?_
                exact thn_n ⟨_, (by omega), q + 3, rfl, rfl, (by repeat (first | exact hAL3 | refine Agree.put ?_ rfl | refine Agree.sub hAL1 rfl ?_ | refine Agree.sub hAL0 rfl ?_ | refine Agree.named hF154 ?_ | refine Agree.named hF127 ?_ | refine Agree.named hF6 ?_)), (Ext.trans hwL3 hx159), (by omega)⟩
              · have gh5_155 := (of_decide_eq_false h5_155)
                refine WF.exit ?_
                refine thn_x ?_
                refine thn_x ?_
                refine blk_eq ?_
                refine thn_n ?_
                refine WF.seq ?_
                refine WF.region ?_
                refine WL.va rfl rfl rfl (X.assignI rfl) ?_
                refine WL.nil ?_
                refine thn_n ?_
                refine WF.block ?_
                refine WF.named (fun F162 hF163 => ?_)
                refine WF.loopN (fun mL4 f' w' => ∃ (z : Nat), mL4 = (pb (fullM (kd : Int) 14)).length - z ∧ f' 9 = .int .i64 (z : Int) ∧ Agree [1, 2, 3, 4, 6, 8, 10, 11, 12, 15, 16, 17, 18, 19, 20, 21, 22, 23, 24, 25, 26, 27, 28, 29, 30, 31, 32, 33, 34, 63, 64, 65, 66, 67, 68, 69, 70, 71, 72] f' F162 ∧ Ext wb w' ∧ z ≤ (pb (fullM (kd : Int) 14)).length) ?_ ?_
                · exact ⟨_, 0, rfl, (congrFun hF163 9), (Agree.refl _ _), hwL3, Nat.zero_le _⟩
                · rintro mL4 fL4 wL4 ⟨z, hmL4, e9_L4, hAL4, hwL4, hz⟩
                  have := World.grownBy.size hwL4
                  refine WF.seq ?_
                  refine WF.seq ?_
                  refine WF.region ?_
                  refine WL.va rfl rfl rfl (X.moveI e9_L4) ?_
                  refine WL.va rfl rfl rfl (X.move ((hAL4.eq 6).trans ((congrFun hF163 6).trans ((hAL3.eq 6).trans (congrFun hF154 6))))) ?_
                  refine WL.va rfl rfl rfl (X.len fb rfl Try.underlying23) ?_
                  refine WL.va rfl rfl rfl (X.lss rfl rfl) ?_
                  refine WL.nil ?_
                  refine thn_n ?_
                  refine WF.cond rfl (fun h7_164 => ?_) (fun h7_164 => ?_)
                  · have gh7_164 := (of_decide_eq_true h7_164)
                    refine WF.skip ?_
                    refine thn_n ?_
                    refine WF.seq ?_
                    refine WF.block ?_
                    refine WF.seq ?_
                    refine WF.region ?_
                    refine WL.va rfl rfl rfl (X.move ((hAL4.eq 6).trans ((congrFun hF163 6).trans ((hAL3.eq 6).trans (congrFun hF154 6))))) ?_
                    refine WL.va rfl rfl rfl (X.moveI e9_L4) ?_
                    refine WL.va rfl rfl rfl (X.slH fb rfl rfl (by omega) Try.underlying23 Try.sizeOf5) ?_
                    refine WL.c rfl rfl rfl (X.call Try.call5 (evl_cons rfl evl_nil)) (messageGets_walk _ ((pb (fullM (kd : Int) 14)).take z) _ (part_take (Row.ext fb hwL4) (by omega)) (by simp; omega)) ?_
                    rintro v167 w166 ⟨rfl, hx168⟩
                    have := World.grownBy.size hx168
                    refine WL.va rfl rfl rfl (X.not rfl) ?_
                    refine WL.nil ?_
                    refine thn_n ?_
                    refine WF.cond_f rfl ?_
                    refine WF.skip ?_
                    refine blk_n ?_
                    refine thn_n ?_
                    refine WF.region ?_
                    refine WL.va rfl rfl rfl (X.moveI e9_L4) ?_
                    refine WL.va rfl rfl rfl (X.add rfl rfl (w64 (by omega))) ?_
                    refine WL.va rfl rfl rfl (X.assignI rfl) ?_
                    refine WL.nil ?_
                    exact thn_n ⟨_, (by omega), z + 1, rfl, rfl, (by repeat (first | exact hAL4 | refine Agree.put ?_ rfl | refine Agree.sub hAL3 rfl ?_ | refine Agree.sub hAL1 rfl ?_ | refine Agree.sub hAL0 rfl ?_ | refine Agree.named hF163 ?_ | refine Agree.named hF154 ?_ | refine Agree.named hF127 ?_ | refine Agree.named hF6 ?_)), (Ext.trans hwL4 hx168), (by omega)⟩
                  · have gh7_164 := (of_decide_eq_false h7_164)
                    refine WF.exit ?_
                    refine thn_x ?_
                    refine thn_x ?_
                    refine blk_eq ?_
                    refine blk_n ?_
                    refine thn_n ?_
                    refine WF.region ?_
                    refine WL.va rfl rfl rfl (X.moveI ((hAL4.eq 2).trans ((congrFun hF163 2).trans ((hAL3.eq 2).trans ((congrFun hF154 2).trans ((hAL1.eq 2).trans ((congrFun hF127 2).trans e2_L0))))))) ?_
                    refine WL.va rfl rfl rfl (X.add rfl rfl (w64 (by omega))) ?_
                    refine WL.va rfl rfl rfl (X.assignI rfl) ?_
                    refine WL.nil ?_
                    exact thn_n ⟨_, (by omega), kd + 1, rfl, rfl, (by repeat (first | exact hAL0 | refine Agree.put ?_ rfl | refine Agree.sub hAL4 rfl ?_ | refine Agree.sub hAL3 rfl ?_ | refine Agree.sub hAL1 rfl ?_ | refine Agree.named hF163 ?_ | refine Agree.named hF154 ?_ | refine Agree.named hF127 ?_ | refine Agree.named hF6 ?_)), (Ext.trans (Ext.trans (Ext.trans (Ext.trans (Ext.trans hwL0 hx10) (Ext.store hx13 hx16 (by omega))) hwL1) hx152) hwL4), (by omega)⟩
    · have gh0_7 := (of_decide_eq_false h0_7)
      refine WF.exit ?_
      refine thn_x ?_
      refine thn_x ?_
      refine blk_eq ?_
      refine thn_n ?_
      refine WF.seq ?_
      refine WF.region ?_
      refine WL.c rfl rfl rfl (X.call Try.call30 evl_nil) (knownLong_ok _) ?_
      rintro v172 w171 ⟨rfl, hx173⟩
      refine WL.va rfl rfl rfl (X.moveB rfl) ?_
      refine WL.cg rfl rfl rfl rfl (X.call Try.call12 evl_nil) (works_ok _) ?_
      rintro v176 w175 ⟨rfl, hx177⟩
      refine WL.va rfl rfl rfl (X.pickT rfl rfl rfl) ?_
      refine WL.va rfl rfl rfl (X.assignB rfl) ?_
      refine WL.nil ?_
      refine thn_n ?_
      refine WF.ret ?_
      refine fin_r ?_
      exact ⟨rfl, (Ext.trans (Ext.trans (Ext.trans hx3 hwL0) hx173) hx177)⟩

end Go.Proofs.Ytccbpfbcaogcnaa
