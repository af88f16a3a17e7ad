/- What was put, cut off anywhere, or with bytes behind it, is not read as that. -/
import Derived.Test.YtlcgjeebgjiebaaThu
import Derived.Test.YtlcgjeebgjiebaaPackS
namespace Go.Proofs.Ytlcgjeebgjiebaa
open Go Go.RowKit Kf

theorem err_more (l : List UInt8) : (decide ((⟨l, false⟩ : Pk.RS).err = 0) == decide ((l.length : Int) = 0)) = true := by
  cases l with
  | nil => rfl
  | cons a l => simp [Pk.RS.err]; omega
set_option maxHeartbeats 2000000 in
theorem packCut_walk (x : Value) (l : List Thing) (cut : Int) (vm : Value) (more : List UInt8) (w : World) (hT : Things w x l) (hcu : -9223372036854775808 ≤ cut ∧ cut ≤ 9223372036854775807) (hm : Bytes w vm more) (hz : more.length ≤ 140737488351232) : FnOk Try.prog 7 [x, i64 cut, vm] w (fun r w' => r = .bool true ∧ Ext w w') := by
  have hlm : (l.length : Int) ≤ 9223372036854775807 := by obtain ⟨_, hr, _⟩ := hT; obtain ⟨_, c, _, h1, h2, _⟩ := hr.shape; unfold maxLen at h2; omega
  refine FnOk.enter (rs := [6]) Try.func7 rfl Try.ntmps7 Try.results7 rfl rfl ?_
  refine WF.seq ?_
  refine WF.region ?_
  refine WL.va rfl rfl rfl (X.assignB rfl) ?_
  refine WL.nil ?_
  refine thn_n ?_
  refine WF.seq ?_
  refine WF.region ?_
  refine WL.va rfl rfl rfl (X.move rfl) ?_
  refine WL.c rfl rfl rfl (X.call Try.call30 (evl_cons rfl evl_nil)) (laid_ok _ l _ hT) ?_
  rintro v3 w2 ⟨⟨vb, rfl, o1⟩, hx4⟩
  have f1 := Bytes.of_own o1
  refine WL.va rfl rfl rfl (X.move rfl) ?_
  refine WL.va rfl rfl rfl (X.extract rfl rfl) ?_
  refine WL.va rfl rfl rfl (X.extract rfl rfl) ?_
  refine WL.va rfl rfl rfl (X.assign rfl) ?_
  refine WL.va rfl rfl rfl (X.assignB rfl) ?_
  refine WL.nil ?_
  refine thn_n ?_
  refine WF.seq ?_
  refine WF.seq ?_
  refine WF.region ?_
  refine WL.va rfl rfl rfl (X.moveB rfl) ?_
  refine WL.va rfl rfl rfl (X.not rfl) ?_
  refine WL.va rfl rfl rfl (X.moveB rfl) ?_
  refine WL.split (j := 2) rfl (fun h7 => ?_) (fun h7 => ?_)
  · have gh7 := (nt h7)
    refine WL.p rfl rfl rfl (congrArg some h7) ?_
    refine WL.p rfl rfl rfl (congrArg some h7) ?_
    refine WL.p rfl rfl rfl (congrArg some h7) ?_
    refine WL.va rfl rfl rfl (X.pickT rfl h7 rfl) ?_
    refine WL.nil ?_
    refine thn_n ?_
    refine WF.cond_t rfl ?_
    refine WF.seq ?_
    refine WF.region ?_
    refine WL.c rfl rfl rfl (X.call Try.call9 evl_nil) (works_ok _) ?_
    rintro v10 w9 ⟨rfl, hx11⟩
    refine WL.va rfl rfl rfl (X.assignB rfl) ?_
    refine WL.nil ?_
    refine thn_n ?_
    refine WF.ret ?_
    refine thn_r ?_
    refine fin_r ?_
    exact ⟨rfl, (Ext.trans hx4 hx11)⟩
  · have gh7 := (nf h7)
    have hok := of_decide_eq_true gh7
    have hbl : (Pk.laidB l).length ≤ 1000000 := by unfold Pk.laidB; rw [if_pos hok]; have := Pk.encAll_len hok.2; have := hok.1; omega
    have el : Pk.laidB l = Pk.encAll l := if_pos hok
    refine WL.vg rfl (congrArg some h7) rfl rfl (X.move rfl) ?_
    refine WL.vg rfl (congrArg some h7) rfl rfl (X.len hm rfl Try.underlying22) ?_
    refine WL.vg rfl (congrArg some h7) rfl rfl (X.gtr rfl rfl) ?_
    refine WL.va rfl rfl rfl (X.pickF rfl h7 rfl) ?_
    refine WL.nil ?_
    refine thn_n ?_
    refine WF.cond rfl (fun h0_13 => ?_) (fun h0_13 => ?_)
    · have gh0_13 := (of_decide_eq_true h0_13)
      refine WF.seq ?_
      refine WF.region ?_
      refine WL.c rfl rfl rfl (X.call Try.call9 evl_nil) (works_ok _) ?_
      rintro v16 w15 ⟨rfl, hx17⟩
      refine WL.va rfl rfl rfl (X.assignB rfl) ?_
      refine WL.nil ?_
      refine thn_n ?_
      refine WF.ret ?_
      refine thn_r ?_
      refine fin_r ?_
      exact ⟨rfl, (Ext.trans hx4 hx17)⟩
    · have gh0_13 := (of_decide_eq_false h0_13)
      have hm10 := gh0_13
      have hrd : readAll ⟨Pk.laidB l ++ more, false⟩ l = (true, ⟨more, false⟩) := by rw [el]; exact readAll_enc l (hT.good hok) more
      refine WF.skip ?_
      refine thn_n ?_
      refine WF.seq ?_
      refine WF.region ?_
      refine WL.va rfl rfl rfl (X.move rfl) ?_
      have szw : w2.heap.size ≤ w2.heap.size := Nat.le_refl _
      refine WL.c rfl rfl rfl (X.call Try.call33 (evl_cons rfl evl_nil)) (copyBytes_ok _ _ _ f1 (by omega)) ?_
      rintro v20 w19 ⟨o2, hx21⟩
      have o2 := own_mono o2 szw
      have szw := Nat.le_trans szw (World.grownBy.size hx21)
      refine WL.va rfl rfl rfl (X.move rfl) ?_
      refine WL.op rfl (OW.appendB o2 (Row.ext hm (Ext.trans hx4 hx21)) rfl rfl Try.underlying22 Try.type5 rfl rfl rfl rfl (by omega) szw ?_ (by decide))
      intro v23 w22 ho25 hx24 hmvhx24
      have f3 := Bytes.of_own ho25
      have szw := World.grownBy.size (Ext.own hx21 o2 (Nat.le_refl _) hx24)
      refine WL.c rfl rfl rfl (X.call Try.call22 (evl_cons rfl evl_nil)) (read_ok _ _ _ f3 (by simp; omega)) ?_
      rintro vr w26 ⟨⟨D, left, p0⟩, hx27⟩
      refine WL.va rfl rfl rfl (X.assign rfl) ?_
      refine WL.nil ?_
      refine thn_n ?_
      refine WF.seq ?_
      refine WF.seq ?_
      refine WF.region ?_
      refine WL.va rfl rfl rfl (X.move rfl) ?_
      refine WL.va rfl rfl rfl (X.move rfl) ?_
      refine WL.c rfl rfl rfl (X.call Try.call32 (evl_cons rfl (evl_cons rfl evl_nil))) (readT_ok vr D left _ _ _ _ l w2 _ _ p0 (hT.ext hx4) (Ext.trans (Ext.own hx21 o2 (Nat.le_refl _) hx24) hx27) szw) ?_
      rintro v29 w28 ⟨rfl, ⟨a1, left1, p1⟩, hx30⟩
      rw [hrd] at p1
      refine WL.va rfl rfl rfl (X.not rfl) ?_
      refine WL.va rfl rfl rfl (X.moveB rfl) ?_
      refine WL.split (j := 4) rfl (fun h33 => ?_) (fun h33 => ?_)
      · have gh33 := (nt h33)
        exact absurd (congrArg Prod.fst hrd) (by rw [gh33]; simp)
      · have gh33 := (nf h33)
        refine WL.vg rfl (congrArg some h33) rfl rfl (X.move rfl) ?_
        refine WL.cg rfl (congrArg some h33) rfl rfl (X.call Try.call25 (evl_cons rfl evl_nil)) (rLeft_ok vr _ _ _ _ _ _ _ p1) ?_
        rintro v35 w34 ⟨rfl, rfl⟩
        refine WL.vg rfl (congrArg some h33) rfl rfl (X.move rfl) ?_
        refine WL.vg rfl (congrArg some h33) rfl rfl (X.len hm rfl Try.underlying22) ?_
        refine WL.vg rfl (congrArg some h33) rfl rfl (X.neq rfl rfl) ?_
        refine WL.va rfl rfl rfl (X.pickF rfl h33 rfl) ?_
        refine WL.va rfl rfl rfl (X.moveB rfl) ?_
        refine WL.split (j := 11) rfl (fun h38 => ?_) (fun h38 => ?_)
        · have gh38 := (of_decide_eq_true h38)
          exact absurd rfl gh38
        · have gh38 := (Decidable.of_not_not (of_decide_eq_false h38))
          refine WL.vg rfl (congrArg some h38) rfl rfl (X.move rfl) ?_
          refine WL.cg rfl (congrArg some h38) rfl rfl (X.call Try.call28 (evl_cons rfl evl_nil)) (rEnd_ok vr _ _ _ _ _ _ _ p1) ?_
          rintro v40 w39 ⟨rfl, rfl⟩
          refine WL.vg rfl (congrArg some h38) rfl rfl (X.eql rfl rfl) ?_
          refine WL.vg rfl (congrArg some h38) rfl rfl (X.move rfl) ?_
          refine WL.vg rfl (congrArg some h38) rfl rfl (X.len hm rfl Try.underlying22) ?_
          refine WL.vg rfl (congrArg some h38) rfl rfl (X.eql rfl rfl) ?_
          refine WL.vg rfl (congrArg some h38) rfl rfl (X.neqB rfl rfl Try.underlying4) ?_
          refine WL.va rfl rfl rfl (X.pickF rfl h38 rfl) ?_
          refine WL.nil ?_
          refine thn_n ?_
          refine WF.cond rfl (fun h1_44 => ?_) (fun h1_44 => ?_)
          · have gh1_44 := h1_44
            rw [err_more] at gh1_44; cases gh1_44
          · have gh1_44 := h1_44
            refine WF.skip ?_
            refine thn_n ?_
            refine WF.seq ?_
            refine WF.seq ?_
            refine WF.region ?_
            refine WL.va rfl rfl rfl (X.move rfl) ?_
            refine WL.va rfl rfl rfl (X.len f1 rfl Try.underlying22) ?_
            refine WL.va rfl rfl rfl (X.eql rfl rfl) ?_
            refine WL.nil ?_
            refine thn_n ?_
            refine WF.cond rfl (fun h2_46 => ?_) (fun h2_46 => ?_)
            · have gh2_46 := (of_decide_eq_true h2_46)
              refine WF.seq ?_
              refine WF.region ?_
              refine WL.c rfl rfl rfl (X.call Try.call9 evl_nil) (works_ok _) ?_
              rintro v49 w48 ⟨rfl, hx50⟩
              refine WL.va rfl rfl rfl (X.assignB rfl) ?_
              refine WL.nil ?_
              refine thn_n ?_
              refine WF.ret ?_
              refine thn_r ?_
              refine fin_r ?_
              exact ⟨rfl, (Ext.trans (Ext.trans hx4 (hx30)) hx50)⟩
            · have gh2_46 := (of_decide_eq_false h2_46)
              have hne := gh2_46
              refine WF.skip ?_
              refine thn_n ?_
              refine WF.seq ?_
              refine WF.region ?_
              refine WL.va rfl rfl rfl (X.move rfl) ?_
              have f1 := (Row.ext f1 (hx30))
              have hl1 : (1 : Int) ≤ ((Pk.laidB l).length : Int) := by clear hcu hz hm10; omega
              refine WL.va rfl rfl rfl (X.moveI rfl) ?_
              refine WL.va rfl rfl rfl (X.move rfl) ?_
              refine WL.va rfl rfl rfl (X.len f1 rfl Try.underlying22) ?_
              refine WL.c rfl rfl rfl (X.call Try.call34 (evl_cons rfl (evl_cons rfl evl_nil))) (pick_ok cut ((Pk.laidB l).length : Int) _ hcu (by omega)) ?_
              rintro v53 w52 ⟨⟨p, rfl, _, hp⟩, rfl⟩
              obtain ⟨hp0, hp1⟩ := hp hl1
              obtain ⟨q, rfl⟩ := Int.eq_ofNat_of_zero_le hp0
              have hsl := Bytes.part f1 0 q (Nat.zero_le _) (by omega)
              simp only [List.drop_zero, Nat.sub_zero] at hsl
              refine WL.va rfl rfl rfl (X.slH f1 rfl rfl (by omega) Try.underlying22 Try.sizeOf5) ?_
              have szr := World.grownBy.size (hx30)
              refine WL.c rfl rfl rfl (X.call Try.call22 (evl_cons rfl evl_nil)) (read_ok _ _ _ hsl (by simp; omega)) ?_
              rintro vs w55 ⟨⟨D2, left2, p2⟩, hx56⟩
              refine WL.va rfl rfl rfl (X.assign rfl) ?_
              refine WL.nil ?_
              refine thn_n ?_
              refine WF.seq ?_
              refine WF.region ?_
              refine WL.va rfl rfl rfl (X.move rfl) ?_
              refine WL.va rfl rfl rfl (X.move rfl) ?_
              refine WL.c rfl rfl rfl (X.call Try.call32 (evl_cons rfl (evl_cons rfl evl_nil))) (readT_ok vs D2 left2 _ _ _ _ l w2 _ _ p2 (hT.ext hx4) (Ext.trans (hx30) hx56) szr) ?_
              rintro v58 w57 ⟨rfl, ⟨a3, left3, p3⟩, hx59⟩
              have hcut : (readAll ⟨(Pk.laidB l).take q, false⟩ l).2 = .dead := by rw [el]; exact readAll_cut l (hT.good hok) q (by rw [← el]; omega)
              rw [hcut] at p3
              refine WL.nil ?_
              refine thn_n ?_
              refine WF.seq ?_
              refine WF.seq ?_
              refine WF.region ?_
              refine WL.va rfl rfl rfl (X.assignI rfl) ?_
              refine WL.nil ?_
              refine thn_n ?_
              refine WF.block ?_
              refine WF.named (fun F61 hF62 => ?_)
              refine WF.loopN (fun mL0 f' w' => ∃ (k : Nat) (a4 : Nat) (left4 : Value), mL0 = l.length - k ∧ f' 10 = .int .i64 (k : Int) ∧ Agree [0, 1, 2, 6, 7, 8, 9, 11, 12, 13, 14, 15, 16, 17, 18, 19, 20, 21, 22, 24, 25, 26, 27, 28, 29, 30, 31, 32, 33, 34, 35, 36, 37, 38, 39, 40, 41, 42, 43, 44, 45, 46, 47, 48, 49, 50, 51, 53, 54, 55, 56, 57, 58, 59, 60, 61] f' F61 ∧ Ext w2 w' ∧ k ≤ l.length ∧ PR w' w28.heap.size vs D2 ((Pk.laidB l).take q) a4 .dead left4) ?_ ?_
              · exact ⟨_, 0, _, _, rfl, (congrFun hF62 10), (Agree.refl _ _), (hx59), ⟨Nat.zero_le _, p3⟩⟩
              · rintro mL0 fL0 wL0 ⟨k, a4, left4, hmL0, e10_L0, hAL0, hwL0, ⟨hk, h3⟩⟩
                refine WF.seq ?_
                refine WF.seq ?_
                refine WF.region ?_
                refine WL.va rfl rfl rfl (X.moveI e10_L0) ?_
                refine WL.va rfl rfl rfl (X.move ((hAL0.eq 0).trans (congrFun hF62 0))) ?_
                refine WL.va rfl rfl rfl (X.len hT.choose_spec.1 rfl Try.underlying45) ?_
                refine WL.va rfl rfl rfl (X.lss rfl rfl) ?_
                refine WL.nil ?_
                refine thn_n ?_
                refine WF.cond rfl (fun h3_63 => ?_) (fun h3_63 => ?_)
                · have gh3_63 := (of_decide_eq_true h3_63)
                  refine WF.skip ?_
                  refine thn_n ?_
                  refine WF.seq ?_
                  refine WF.block ?_
                  refine WF.region ?_
                  refine WL.va rfl rfl rfl (X.move ((hAL0.eq 9).trans (congrFun hF62 9))) ?_
                  refine WL.c rfl rfl rfl (X.call Try.call35 (evl_cons rfl evl_nil)) (rInt_ok vs _ _ _ _ _ _ _ h3) ?_
                  rintro v66 w65 ⟨rfl, ⟨a5, left5, h5⟩, hx67⟩
                  have h5 : PR _ _ _ _ _ _ .dead _ := h5
                  refine WL.nil ?_
                  refine blk_n ?_
                  refine thn_n ?_
                  refine WF.region ?_
                  refine WL.va rfl rfl rfl (X.moveI e10_L0) ?_
                  refine WL.va rfl rfl rfl (X.add rfl rfl (w64 (by omega))) ?_
                  refine WL.va rfl rfl rfl (X.assignI rfl) ?_
                  refine WL.nil ?_
                  exact thn_n ⟨_, (by omega), k + 1, _, _, rfl, rfl, (by repeat (first | exact hAL0 | refine Agree.put ?_ rfl | refine Agree.named hF62 ?_)), (Ext.own hwL0 h3.var.row szr hx67), ⟨by omega, h5⟩⟩
                · have gh3_63 := (of_decide_eq_false h3_63)
                  refine WF.exit ?_
                  refine thn_x ?_
                  refine thn_x ?_
                  refine blk_eq ?_
                  refine thn_n ?_
                  refine WF.seq ?_
                  refine WF.region ?_
                  refine WL.va rfl rfl rfl (X.move ((hAL0.eq 9).trans (congrFun hF62 9))) ?_
                  refine WL.c rfl rfl rfl (X.call Try.call27 (evl_cons rfl evl_nil)) (rBad_ok vs _ _ _ _ _ _ _ h3) ?_
                  rintro v69 w68 ⟨rfl, rfl⟩
                  refine WL.va rfl rfl rfl (X.moveB rfl) ?_
                  refine WL.split (j := 2) rfl (fun h72 => ?_) (fun h72 => ?_)
                  · have gh72 := h72
                    refine WL.vg rfl (congrArg some h72) rfl rfl (X.move ((hAL0.eq 9).trans (congrFun hF62 9))) ?_
                    refine WL.cg rfl (congrArg some h72) rfl rfl (X.call Try.call28 (evl_cons rfl evl_nil)) (rEnd_ok vs _ _ _ _ _ _ _ h3) ?_
                    rintro v74 w73 ⟨rfl, rfl⟩
                    refine WL.vg rfl (congrArg some h72) rfl rfl (X.eql rfl rfl) ?_
                    refine WL.va rfl rfl rfl (X.pickT rfl h72 rfl) ?_
                    refine WL.va rfl rfl rfl (X.moveB rfl) ?_
                    refine WL.split (j := 7) rfl (fun h77 => ?_) (fun h77 => ?_)
                    · have gh77 := (of_decide_eq_true h77)
                      refine WL.vg rfl (congrArg some h77) rfl rfl (X.move ((hAL0.eq 9).trans (congrFun hF62 9))) ?_
                      refine WL.cg rfl (congrArg some h77) rfl rfl (X.call Try.call25 (evl_cons rfl evl_nil)) (rLeft_ok vs _ _ _ _ _ _ _ h3) ?_
                      rintro v79 w78 ⟨rfl, rfl⟩
                      refine WL.vg rfl (congrArg some h77) rfl rfl (X.eql rfl rfl) ?_
                      refine WL.va rfl rfl rfl (X.pickT rfl h77 rfl) ?_
                      refine WL.va rfl rfl rfl (X.moveB rfl) ?_
                      refine WL.split (j := 12) rfl (fun h82 => ?_) (fun h82 => ?_)
                      · have gh82 := (of_decide_eq_true h82)
                        refine WL.cg rfl (congrArg some h82) rfl rfl (X.call Try.call9 evl_nil) (works_ok _) ?_
                        rintro v84 w83 ⟨rfl, hx85⟩
                        refine WL.va rfl rfl rfl (X.pickT rfl h82 rfl) ?_
                        refine WL.va rfl rfl rfl (X.assignB rfl) ?_
                        refine WL.nil ?_
                        refine thn_n ?_
                        refine WF.ret ?_
                        refine fin_r ?_
                        exact ⟨rfl, (Ext.trans (Ext.trans hx4 hwL0) hx85)⟩
                      · have gh82 := (of_decide_eq_false h82)
                        exact absurd rfl gh82
                    · have gh77 := (of_decide_eq_false h77)
                      exact absurd rfl gh77
                  · have gh72 := h72
                    exact absurd gh72 (by decide)

end Go.Proofs.Ytlcgjeebgjiebaa
