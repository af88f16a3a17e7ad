/- The walks of the reference's with and read. -/
import Derived.Test.YtccbpfbcaogcnaaMgI
namespace Go.Proofs.Ytccbpfbcaogcnaa
open Go Go.RowKit Kf
set_option maxRecDepth 20000
/-- entries in memory of their own, all of it below T -/
structure EOwnT (w : World) (B T : Nat) (v : Value) (E : List EV) : Prop where
  own : EOwn w B v E
  top : EOwn.below T v E
theorem EOwnT.of {w : World} {B : Nat} {v : Value} {E : List EV} (h : EOwn w B v E) : EOwnT w B w.heap.size v E := ⟨h, h.under⟩
theorem EOwnT.kept {w w' : World} {B T : Nat} {v : Value} {E : List EV} {row : Option Nat} (h : EOwnT w B T v E) (k : w.grownBy w' row) (hne : ∀ g, row = some g → g < B ∨ T ≤ g) : EOwnT w' B T v E := by
  have key : ∀ {u : Value}, (∀ b, u.ownBlock = some b → B ≤ b ∧ b < T) → u.ownBlock = none ∨ u.ownBlock ≠ row := fun {u} hu => by
    cases hb : u.ownBlock with
    | none => exact .inl rfl
    | some b =>
      right
      intro e
      have h1 := hu b hb
      have h2 := hne b e.symm
      omega
  exact ⟨⟨h.own.row.kept k (key fun b hb => ⟨(h.own.row.lt b hb).1, h.top.1 b hb⟩), fun e he => (h.own.data e he).kept k (key fun b hb => ⟨((h.own.data e he).lt b hb).1, h.top.2 e he b hb⟩), h.own.off, h.own.pair⟩, h.top⟩
theorem EOwnT.ext {w w' : World} {B T : Nat} {v : Value} {E : List EV} (h : EOwnT w B T v E) (k : Ext w w') : EOwnT w' B T v E := ⟨h.own.ext k, h.top⟩
theorem EOwnT.keptO {w w' : World} {B T g : Nat} {v : Value} {E : List EV} (h : EOwnT w B T v E) (k : w.grownBy w' (some g)) (hne : g < B ∨ T ≤ g) : EOwnT w' B T v E := h.kept k fun b hb => by injection hb with hb; omega
theorem EOwnT.app {w w' : World} {B T : Nat} {v v' dv : Value} {E : List EV} {s : En} (h : EOwnT w B T v E) (hd : OwnB w T 5 dv s.Data) (hr : w'.ownsRow B 57 3 v' (E.length + 1) (E.flatMap EV.c ++ EV.c (s, dv))) (k : w.grownBy w' v.ownBlock) (hm : Moved w v v') (hB : B ≤ T) : EOwnT w' B w'.heap.size v' (E ++ [(s, dv)]) := by
  have hdv : Apart dv v := fun b h1 h2 => by have := (hd.lt b h1).1; have := h.top.1 b h2; omega
  refine EOwnT.of ⟨by simpa [List.flatMap_append] using hr, fun e he => ?_, fun e he => ?_, ?_⟩
  · rcases List.mem_append.1 he with he | he
    · exact (h.own.data e he).kept k (h.own.off e he).ne
    · rw [List.mem_singleton] at he; subst he; exact own_mono (hd.kept k hdv.ne) hB
  · rcases List.mem_append.1 he with he | he
    · exact Apart.moved (h.own.off e he) (h.own.data e he) hm
    · rw [List.mem_singleton] at he; subst he; exact Apart.moved hdv hd hm
  · rw [List.pairwise_append]
    refine ⟨h.own.pair, List.pairwise_singleton _ _, fun a ha b hb => ?_⟩
    rw [List.mem_singleton] at hb; subst hb
    intro q h1 h2
    have := h.top.2 a ha q h1
    have := (hd.lt q h2).1
    omega
/-- so many entries ask for so many bytes -/
theorem int_room {s : Pk.RS} (h : s.int.2.bad = false) : s.bad = false ∧ s.int.2.left.length + 8 ≤ s.left.length := by
  unfold Pk.RS.int at h ⊢
  split at h
  · cases h
  · rename_i hc
    rw [if_neg hc]
    refine ⟨by simpa using fun e => hc (.inl e), ?_⟩
    show (s.left.drop 8).length + 8 ≤ _
    simp; omega
theorem blob_room {s : Pk.RS} (h : s.blob.2.bad = false) : s.bad = false ∧ s.blob.2.left.length + 8 ≤ s.left.length := by
  have h1 : s.int.2.bad = false := by
    unfold Pk.RS.blob Pk.RS.take at h
    split at h
    · cases h
    · rename_i hc; simpa using fun e => hc (.inl e)
  have h2 := int_room h1
  have h3 := (take_le s.int.2 s.int.1).2
  exact ⟨h2.1, Nat.le_trans (Nat.add_le_add_right h3 8) h2.2⟩
theorem rdE_room (s : Pk.RS) : ∀ k, (rdE s k).2.bad = false → (rdE s k).2.left.length + 24 * k ≤ s.left.length
  | 0, _ => by simp [rdE]
  | k + 1, h => by
    have h3 := blob_room (s := (rdE s k).2.int.2.int.2) h
    have h2 := int_room (s := (rdE s k).2.int.2) h3.1
    have h1 := int_room (s := (rdE s k).2) h2.1
    have ih := rdE_room s k h1.1
    have e : (rdE s (k + 1)).2.left.length = (rdE s k).2.int.2.int.2.blob.2.left.length := rfl
    omega
/-- what the reference has read so far -/
structure MgQ (m : Mg) (T : List Nat) : Prop where
  len : m.n.length = 14
  inn : ∀ k, rng (m.n.getD k 0)
  ein : ∀ e ∈ m.E, rng e.Term ∧ rng e.Kind
  non : 12 ∉ T → m.E = []
theorem MgQ.ok {m : Mg} {T : List Nat} {q : Nat} (h : MgQ m T) (b : Bool) : MgQ { m with ok := b } (T ++ [q]) := ⟨h.len, h.inn, h.ein, fun hn => h.non fun q => hn (List.mem_append_left _ q)⟩
theorem MgQ.num {m : Mg} {T : List Nat} {q : Nat} (h : MgQ m T) (a : Nat) {x : Int} (hx : rng x) : MgQ { m with n := m.n.set a x } (T ++ [q]) := ⟨by rw [List.length_set]; exact h.len, set_rng h.inn hx, h.ein, fun hn => h.non fun q => hn (List.mem_append_left _ q)⟩
theorem MgQ.dats {m : Mg} {T : List Nat} {q : Nat} (h : MgQ m T) (d : List UInt8) : MgQ { m with D := d } (T ++ [q]) := ⟨h.len, h.inn, h.ein, fun hn => h.non fun q => hn (List.mem_append_left _ q)⟩
theorem MgQ.ent {m : Mg} {T : List Nat} {l : List En} (h : MgQ m T) (hl : ∀ e ∈ l, rng e.Term ∧ rng e.Kind) : MgQ { m with E := l } (T ++ [12]) := ⟨h.len, h.inn, hl, fun hn => absurd (List.mem_append_right _ (List.mem_singleton.2 rfl)) hn⟩
/-- read alike, or lost -/
def Syn (m0 : Mg) (s : Pk.RS) (K T : List Nat) (m : Mg) (sp : Pk.RS) : Prop := readF m0 s T = some (m, sp) ∨ (readF m0 s K = none ∧ sp.bad = true)
theorem Syn.step {m0 m m' : Mg} {s sp sp' : Pk.RS} {K T : List Nat} {q : Nat} (h : Syn m0 s K T m sp) (h1 : rdF m sp q = some (m', sp')) (h2 : sp.bad = true → sp'.bad = true) : Syn m0 s K (T ++ [q]) m' sp' := by
  rcases h with h | ⟨h, hb⟩
  · exact .inl ((readF_snoc h).trans h1)
  · exact .inr ⟨h, h2 hb⟩
theorem Syn.none {m0 m : Mg} {s sp : Pk.RS} {K T : List Nat} {q : Nat} (h : Syn m0 s K T m sp) (h1 : rdF m sp q = none) (hK : ∃ M, K = T ++ [q] ++ M) : readF m0 s K = none := by
  rcases h with h | ⟨h, _⟩
  · exact readF_none h h1 hK
  · exact h
theorem bad_int {s : Pk.RS} (h : s.bad = true) : s.int.2.bad = true := by rw [dead_int h]; rfl
theorem bad_blob {s : Pk.RS} (h : s.bad = true) : s.blob.2.bad = true := by rw [dead_blob h]; rfl

set_option maxHeartbeats 2000000 in
theorem with_ok (n : List Int) (ok : Bool) (vE vD : Value) (p : Nat) (x : Int) (w : World) (hf : p < 11) (hn : n.length = 14) (hE : vE.oneCell' = true) (hD : vD.oneCell' = true) : FnOk Try.prog 81 [agg (mc n ok vE vD), i64 (p : Int), i64 x] w (fun r w' => r = agg (mc (n.set (cl p) x) ok vE vD) ∧ Ext w w') := by
  refine FnOk.enterC (rs := [.cell 6 25]) Try.func81 rfl Try.ntmps81 Try.results81 rfl rfl ?_
  refine WF.seq ?_
  refine WF.region ?_
  refine WL.op rfl (OW.boxA (cs := (mc n ok vE vD)) rfl ?_ (by decide))
  intro g3 w1 heg3 hlg3 hO3 hx3
  have := World.grownBy.size hx3
  refine WL.op rfl (OW.allocO (cs := [i64 0, i64 0, i64 0, i64 0, i64 0, i64 0, i64 0, i64 0, i64 0, i64 0, i64 0, i64 0, i64 0, i64 0, .bool false, .slice none 0 0, .slice none 0 0]) Try.zeroValue25 rfl ?_ (by decide))
  intro g6 w5 heg6 hlg6 hO6 hx7
  have := World.grownBy.size hx7
  refine WL.nil ?_
  refine thn_n ?_
  refine WF.seq ?_
  refine WF.seq ?_
  refine WF.region ?_
  refine WL.va rfl rfl rfl (X.moveI rfl) ?_
  refine WL.nil ?_
  refine thn_n ?_
  refine WF.block ?_
  refine WF.seq ?_
  refine WF.region ?_
  refine WL.va rfl rfl rfl (X.eql rfl rfl) ?_
  refine WL.va rfl rfl rfl (X.assignB rfl) ?_
  refine WL.nil ?_
  refine thn_n ?_
  refine WF.cond rfl (fun h0_9 => ?_) (fun h0_9 => ?_)
  · have gh0_9 := (of_decide_eq_true h0_9)
    have hfk : cl p = 3 := by
      have hk0 : p = 0 := by have := gh0_9; omega
      subst hk0; rfl
    refine WF.region ?_
    refine WL.va rfl rfl rfl (X.moveI rfl) ?_
    refine WL.va rfl rfl rfl (X.fieldAddrO (off := 3) rfl Try.underlying25 rfl rfl Try.sizeOf3) ?_
    refine WL.op rfl (OW.storeO (hO3.ext hx7) (Nat.le_of_ble_eq_true rfl) rfl rfl rfl Try.sizeOf3 ?_)
    intro w11 hO3 hx13
    have := World.grownBy.size hx13
    replace hO6 := hO6.keptO hx13 (by omega)
    replace hO3 := hO3.cast (mc_set x hn (by omega))
    have hones : ∀ u ∈ mc (n.set 3 x) ok vE vD, u.oneCell' = true := mc_ones _ _ hE hD
    refine WL.nil ?_
    refine blk_n ?_
    refine thn_n ?_
    refine WF.seq ?_
    refine WF.region ?_
    refine WL.va rfl rfl rfl (X.loadOA hO3 (Ext.refl _) rfl rfl Try.isAgg25 Try.sizeOf25) ?_
    refine WL.op rfl (OW.storeOA hO6 rfl rfl rfl hones Try.sizeOf25 ?_)
    intro w15 hO6 hx17
    have := World.grownBy.size hx17
    replace hO3 := hO3.keptO hx17 (by omega)
    refine WL.nil ?_
    refine thn_n ?_
    refine WF.ret ?_
    refine finC_r (vs := [_]) ⟨⟨_, rfl, readO hO6 Try.isAgg25 Try.sizeOf25⟩, trivial⟩ ?_
    exact ⟨(by rw [hfk]; rfl), (Ext.store (Ext.store (Ext.trans hx3 hx7) hx13 (by omega)) hx17 (by omega))⟩
  · have gh0_9 := (of_decide_eq_false h0_9)
    refine WF.seq ?_
    refine WF.region ?_
    refine WL.va rfl rfl rfl (X.eql rfl rfl) ?_
    refine WL.va rfl rfl rfl (X.assignB rfl) ?_
    refine WL.nil ?_
    refine thn_n ?_
    refine WF.cond rfl (fun h1_19 => ?_) (fun h1_19 => ?_)
    · have gh1_19 := (of_decide_eq_true h1_19)
      have hfk : cl p = 4 := by
        have hk0 : p = 1 := by have := gh1_19; omega
        subst hk0; rfl
      refine WF.region ?_
      refine WL.va rfl rfl rfl (X.moveI rfl) ?_
      refine WL.va rfl rfl rfl (X.fieldAddrO (off := 4) rfl Try.underlying25 rfl rfl Try.sizeOf3) ?_
      refine WL.op rfl (OW.storeO (hO3.ext hx7) (Nat.le_of_ble_eq_true rfl) rfl rfl rfl Try.sizeOf3 ?_)
      intro w21 hO3 hx23
      have := World.grownBy.size hx23
      replace hO6 := hO6.keptO hx23 (by omega)
      replace hO3 := hO3.cast (mc_set x hn (by omega))
      have hones : ∀ u ∈ mc (n.set 4 x) ok vE vD, u.oneCell' = true := mc_ones _ _ hE hD
      refine WL.nil ?_
      refine blk_n ?_
      refine thn_n ?_
      refine WF.seq ?_
      refine WF.region ?_
      refine WL.va rfl rfl rfl (X.loadOA hO3 (Ext.refl _) rfl rfl Try.isAgg25 Try.sizeOf25) ?_
      refine WL.op rfl (OW.storeOA hO6 rfl rfl rfl hones Try.sizeOf25 ?_)
      intro w25 hO6 hx27
      have := World.grownBy.size hx27
      replace hO3 := hO3.keptO hx27 (by omega)
      refine WL.nil ?_
      refine thn_n ?_
      refine WF.ret ?_
      refine finC_r (vs := [_]) ⟨⟨_, rfl, readO hO6 Try.isAgg25 Try.sizeOf25⟩, trivial⟩ ?_
      exact ⟨(by rw [hfk]; rfl), (Ext.store (Ext.store (Ext.trans hx3 hx7) hx23 (by omega)) hx27 (by omega))⟩
    · have gh1_19 := (of_decide_eq_false h1_19)
      refine WF.seq ?_
      refine WF.region ?_
      refine WL.va rfl rfl rfl (X.eql rfl rfl) ?_
      refine WL.va rfl rfl rfl (X.assignB rfl) ?_
      refine WL.nil ?_
      refine thn_n ?_
      refine WF.cond rfl (fun h2_29 => ?_) (fun h2_29 => ?_)
      · have gh2_29 := (of_decide_eq_true h2_29)
        have hfk : cl p = 5 := by
          have hk0 : p = 2 := by have := gh2_29; omega
          subst hk0; rfl
        refine WF.region ?_
        refine WL.va rfl rfl rfl (X.moveI rfl) ?_
        refine WL.va rfl rfl rfl (X.fieldAddrO (off := 5) rfl Try.underlying25 rfl rfl Try.sizeOf3) ?_
        refine WL.op rfl (OW.storeO (hO3.ext hx7) (Nat.le_of_ble_eq_true rfl) rfl rfl rfl Try.sizeOf3 ?_)
        intro w31 hO3 hx33
        have := World.grownBy.size hx33
        replace hO6 := hO6.keptO hx33 (by omega)
        replace hO3 := hO3.cast (mc_set x hn (by omega))
        have hones : ∀ u ∈ mc (n.set 5 x) ok vE vD, u.oneCell' = true := mc_ones _ _ hE hD
        refine WL.nil ?_
        refine blk_n ?_
        refine thn_n ?_
        refine WF.seq ?_
        refine WF.region ?_
        refine WL.va rfl rfl rfl (X.loadOA hO3 (Ext.refl _) rfl rfl Try.isAgg25 Try.sizeOf25) ?_
        refine WL.op rfl (OW.storeOA hO6 rfl rfl rfl hones Try.sizeOf25 ?_)
        intro w35 hO6 hx37
        have := World.grownBy.size hx37
        replace hO3 := hO3.keptO hx37 (by omega)
        refine WL.nil ?_
        refine thn_n ?_
        refine WF.ret ?_
        refine finC_r (vs := [_]) ⟨⟨_, rfl, readO hO6 Try.isAgg25 Try.sizeOf25⟩, trivial⟩ ?_
        exact ⟨(by rw [hfk]; rfl), (Ext.store (Ext.store (Ext.trans hx3 hx7) hx33 (by omega)) hx37 (by omega))⟩
      · have gh2_29 := (of_decide_eq_false h2_29)
        refine WF.seq ?_
        refine WF.region ?_
        refine WL.va rfl rfl rfl (X.eql rfl rfl) ?_
        refine WL.va rfl rfl rfl (X.assignB rfl) ?_
        refine WL.nil ?_
        refine thn_n ?_
        refine WF.cond rfl (fun h3_39 => ?_) (fun h3_39 => ?_)
        · have gh3_39 := (of_decide_eq_true h3_39)
          have hfk : cl p = 6 := by
            have hk0 : p = 3 := by have := gh3_39; omega
            subst hk0; rfl
          refine WF.region ?_
          refine WL.va rfl rfl rfl (X.moveI rfl) ?_
          refine WL.va rfl rfl rfl (X.fieldAddrO (off := 6) rfl Try.underlying25 rfl rfl Try.sizeOf3) ?_
          refine WL.op rfl (OW.storeO (hO3.ext hx7) (Nat.le_of_ble_eq_true rfl) rfl rfl rfl Try.sizeOf3 ?_)
          intro w41 hO3 hx43
          have := World.grownBy.size hx43
          replace hO6 := hO6.keptO hx43 (by omega)
          replace hO3 := hO3.cast (mc_set x hn (by omega))
          have hones : ∀ u ∈ mc (n.set 6 x) ok vE vD, u.oneCell' = true := mc_ones _ _ hE hD
          refine WL.nil ?_
          refine blk_n ?_
          refine thn_n ?_
          refine WF.seq ?_
          refine WF.region ?_
          refine WL.va rfl rfl rfl (X.loadOA hO3 (Ext.refl _) rfl rfl Try.isAgg25 Try.sizeOf25) ?_
          refine WL.op rfl (OW.storeOA hO6 rfl rfl rfl hones Try.sizeOf25 ?_)
          intro w45 hO6 hx47
          have := World.grownBy.size hx47
          replace hO3 := hO3.keptO hx47 (by omega)
          refine WL.nil ?_
          refine thn_n ?_
          refine WF.ret ?_
          refine finC_r (vs := [_]) ⟨⟨_, rfl, readO hO6 Try.isAgg25 Try.sizeOf25⟩, trivial⟩ ?_
          exact ⟨(by rw [hfk]; rfl), (Ext.store (Ext.store (Ext.trans hx3 hx7) hx43 (by omega)) hx47 (by omega))⟩
        · have gh3_39 := (of_decide_eq_false h3_39)
          refine WF.seq ?_
          refine WF.region ?_
          refine WL.va rfl rfl rfl (X.eql rfl rfl) ?_
          refine WL.va rfl rfl rfl (X.assignB rfl) ?_
          refine WL.nil ?_
          refine thn_n ?_
          refine WF.cond rfl (fun h4_49 => ?_) (fun h4_49 => ?_)
          · have gh4_49 := (of_decide_eq_true h4_49)
            have hfk : cl p = 7 := by
              have hk0 : p = 4 := by have := gh4_49; omega
              subst hk0; rfl
            refine WF.region ?_
            refine WL.va rfl rfl rfl (X.moveI rfl) ?_
            refine WL.va rfl rfl rfl (X.fieldAddrO (off := 7) rfl Try.underlying25 rfl rfl Try.sizeOf3) ?_
            refine WL.op rfl (OW.storeO (hO3.ext hx7) (Nat.le_of_ble_eq_true rfl) rfl rfl rfl Try.sizeOf3 ?_)
            intro w51 hO3 hx53
            have := World.grownBy.size hx53
            replace hO6 := hO6.keptO hx53 (by omega)
            replace hO3 := hO3.cast (mc_set x hn (by omega))
            have hones : ∀ u ∈ mc (n.set 7 x) ok vE vD, u.oneCell' = true := mc_ones _ _ hE hD
            refine WL.nil ?_
            refine blk_n ?_
            refine thn_n ?_
            refine WF.seq ?_
            refine WF.region ?_
            refine WL.va rfl rfl rfl (X.loadOA hO3 (Ext.refl _) rfl rfl Try.isAgg25 Try.sizeOf25) ?_
            refine WL.op rfl (OW.storeOA hO6 rfl rfl rfl hones Try.sizeOf25 ?_)
            intro w55 hO6 hx57
            have := World.grownBy.size hx57
            replace hO3 := hO3.keptO hx57 (by omega)
            refine WL.nil ?_
            refine thn_n ?_
            refine WF.ret ?_
            refine finC_r (vs := [_]) ⟨⟨_, rfl, readO hO6 Try.isAgg25 Try.sizeOf25⟩, trivial⟩ ?_
            exact ⟨(by rw [hfk]; rfl), (Ext.store (Ext.store (Ext.trans hx3 hx7) hx53 (by omega)) hx57 (by omega))⟩
          · have gh4_49 := (of_decide_eq_false h4_49)
            refine WF.seq ?_
            refine WF.region ?_
            refine WL.va rfl rfl rfl (X.eql rfl rfl) ?_
            refine WL.va rfl rfl rfl (X.assignB rfl) ?_
            refine WL.nil ?_
            refine thn_n ?_
            refine WF.cond rfl (fun h5_59 => ?_) (fun h5_59 => ?_)
            · have gh5_59 := (of_decide_eq_true h5_59)
              have hfk : cl p = 8 := by
                have hk0 : p = 5 := by have := gh5_59; omega
                subst hk0; rfl
              refine WF.region ?_
              refine WL.va rfl rfl rfl (X.moveI rfl) ?_
              refine WL.va rfl rfl rfl (X.fieldAddrO (off := 8) rfl Try.underlying25 rfl rfl Try.sizeOf3) ?_
              refine WL.op rfl (OW.storeO (hO3.ext hx7) (Nat.le_of_ble_eq_true rfl) rfl rfl rfl Try.sizeOf3 ?_)
              intro w61 hO3 hx63
              have := World.grownBy.size hx63
              replace hO6 := hO6.keptO hx63 (by omega)
              replace hO3 := hO3.cast (mc_set x hn (by omega))
              have hones : ∀ u ∈ mc (n.set 8 x) ok vE vD, u.oneCell' = true := mc_ones _ _ hE hD
              refine WL.nil ?_
              refine blk_n ?_
              refine thn_n ?_
              refine WF.seq ?_
              refine WF.region ?_
              refine WL.va rfl rfl rfl (X.loadOA hO3 (Ext.refl _) rfl rfl Try.isAgg25 Try.sizeOf25) ?_
              refine WL.op rfl (OW.storeOA hO6 rfl rfl rfl hones Try.sizeOf25 ?_)
              intro w66 hO6 hx68
              have := World.grownBy.size hx68
              replace hO3 := hO3.keptO hx68 (by omega)
              refine WL.nil ?_
              refine thn_n ?_
              refine WF.ret ?_
              refine finC_r (vs := [_]) ⟨⟨_, rfl, readO hO6 Try.isAgg25 Try.sizeOf25⟩, trivial⟩ ?_
              exact ⟨(by rw [hfk]; rfl), (Ext.store (Ext.store (Ext.trans hx3 hx7) hx63 (by omega)) hx68 (by omega))⟩
            · have gh5_59 := (of_decide_eq_false h5_59)
              refine WF.seq ?_
              refine WF.region ?_
              refine WL.va rfl rfl rfl (X.eql rfl rfl) ?_
              refine WL.va rfl rfl rfl (X.assignB rfl) ?_
              refine WL.nil ?_
              refine thn_n ?_
              refine WF.cond rfl (fun h6_70 => ?_) (fun h6_70 => ?_)
              · have gh6_70 := (of_decide_eq_true h6_70)
                have hfk : cl p = 13 := by
                  have hk0 : p = 6 := by have := gh6_70; omega
                  subst hk0; rfl
                refine WF.region ?_
                refine WL.va rfl rfl rfl (X.moveI rfl) ?_
                refine WL.va rfl rfl rfl (X.fieldAddrO (off := 13) rfl Try.underlying25 rfl rfl Try.sizeOf3) ?_
                refine WL.op rfl (OW.storeO (hO3.ext hx7) (Nat.le_of_ble_eq_true rfl) rfl rfl rfl Try.sizeOf3 ?_)
                intro w72 hO3 hx74
                have := World.grownBy.size hx74
                replace hO6 := hO6.keptO hx74 (by omega)
                replace hO3 := hO3.cast (mc_set x hn (by omega))
                have hones : ∀ u ∈ mc (n.set 13 x) ok vE vD, u.oneCell' = true := mc_ones _ _ hE hD
                refine WL.nil ?_
                refine blk_n ?_
                refine thn_n ?_
                refine WF.seq ?_
                refine WF.region ?_
                refine WL.va rfl rfl rfl (X.loadOA hO3 (Ext.refl _) rfl rfl Try.isAgg25 Try.sizeOf25) ?_
                refine WL.op rfl (OW.storeOA hO6 rfl rfl rfl hones Try.sizeOf25 ?_)
                intro w76 hO6 hx78
                have := World.grownBy.size hx78
                replace hO3 := hO3.keptO hx78 (by omega)
                refine WL.nil ?_
                refine thn_n ?_
                refine WF.ret ?_
                refine finC_r (vs := [_]) ⟨⟨_, rfl, readO hO6 Try.isAgg25 Try.sizeOf25⟩, trivial⟩ ?_
                exact ⟨(by rw [hfk]; rfl), (Ext.store (Ext.store (Ext.trans hx3 hx7) hx74 (by omega)) hx78 (by omega))⟩
              · have gh6_70 := (of_decide_eq_false h6_70)
                refine WF.seq ?_
                refine WF.region ?_
                refine WL.va rfl rfl rfl (X.eql rfl rfl) ?_
                refine WL.va rfl rfl rfl (X.assignB rfl) ?_
                refine WL.nil ?_
                refine thn_n ?_
                refine WF.cond rfl (fun h7_80 => ?_) (fun h7_80 => ?_)
                · have gh7_80 := (of_decide_eq_true h7_80)
                  have hfk : cl p = 9 := by
                    have hk0 : p = 7 := by have := gh7_80; omega
                    subst hk0; rfl
                  refine WF.region ?_
                  refine WL.va rfl rfl rfl (X.moveI rfl) ?_
                  refine WL.va rfl rfl rfl (X.fieldAddrO (off := 9) rfl Try.underlying25 rfl rfl Try.sizeOf3) ?_
                  refine WL.op rfl (OW.storeO (hO3.ext hx7) (Nat.le_of_ble_eq_true rfl) rfl rfl rfl Try.sizeOf3 ?_)
                  intro w82 hO3 hx84
                  have := World.grownBy.size hx84
                  replace hO6 := hO6.keptO hx84 (by omega)
                  replace hO3 := hO3.cast (mc_set x hn (by omega))
                  have hones : ∀ u ∈ mc (n.set 9 x) ok vE vD, u.oneCell' = true := mc_ones _ _ hE hD
                  refine WL.nil ?_
                  refine blk_n ?_
                  refine thn_n ?_
                  refine WF.seq ?_
                  refine WF.region ?_
                  refine WL.va rfl rfl rfl (X.loadOA hO3 (Ext.refl _) rfl rfl Try.isAgg25 Try.sizeOf25) ?_
                  refine WL.op rfl (OW.storeOA hO6 rfl rfl rfl hones Try.sizeOf25 ?_)
                  intro w86 hO6 hx88
                  have := World.grownBy.size hx88
                  replace hO3 := hO3.keptO hx88 (by omega)
                  refine WL.nil ?_
                  refine thn_n ?_
                  refine WF.ret ?_
                  refine finC_r (vs := [_]) ⟨⟨_, rfl, readO hO6 Try.isAgg25 Try.sizeOf25⟩, trivial⟩ ?_
                  exact ⟨(by rw [hfk]; rfl), (Ext.store (Ext.store (Ext.trans hx3 hx7) hx84 (by omega)) hx88 (by omega))⟩
                · have gh7_80 := (of_decide_eq_false h7_80)
                  refine WF.seq ?_
                  refine WF.region ?_
                  refine WL.va rfl rfl rfl (X.eql rfl rfl) ?_
                  refine WL.va rfl rfl rfl (X.assignB rfl) ?_
                  refine WL.nil ?_
                  refine thn_n ?_
                  refine WF.cond rfl (fun h8_90 => ?_) (fun h8_90 => ?_)
                  · have gh8_90 := (of_decide_eq_true h8_90)
                    have hfk : cl p = 10 := by
                      have hk0 : p = 8 := by have := gh8_90; omega
                      subst hk0; rfl
                    refine WF.region ?_
                    refine WL.va rfl rfl rfl (X.moveI rfl) ?_
                    refine WL.va rfl rfl rfl (X.fieldAddrO (off := 10) rfl Try.underlying25 rfl rfl Try.sizeOf3) ?_
                    refine WL.op rfl (OW.storeO (hO3.ext hx7) (Nat.le_of_ble_eq_true rfl) rfl rfl rfl Try.sizeOf3 ?_)
                    intro w92 hO3 hx94
                    have := World.grownBy.size hx94
                    replace hO6 := hO6.keptO hx94 (by omega)
                    replace hO3 := hO3.cast (mc_set x hn (by omega))
                    have hones : ∀ u ∈ mc (n.set 10 x) ok vE vD, u.oneCell' = true := mc_ones _ _ hE hD
                    refine WL.nil ?_
                    refine blk_n ?_
                    refine thn_n ?_
                    refine WF.seq ?_
                    refine WF.region ?_
                    refine WL.va rfl rfl rfl (X.loadOA hO3 (Ext.refl _) rfl rfl Try.isAgg25 Try.sizeOf25) ?_
                    refine WL.op rfl (OW.storeOA hO6 rfl rfl rfl hones Try.sizeOf25 ?_)
                    intro w96 hO6 hx98
                    have := World.grownBy.size hx98
                    replace hO3 := hO3.keptO hx98 (by omega)
                    refine WL.nil ?_
                    refine thn_n ?_
                    refine WF.ret ?_
                    refine finC_r (vs := [_]) ⟨⟨_, rfl, readO hO6 Try.isAgg25 Try.sizeOf25⟩, trivial⟩ ?_
                    exact ⟨(by rw [hfk]; rfl), (Ext.store (Ext.store (Ext.trans hx3 hx7) hx94 (by omega)) hx98 (by omega))⟩
                  · have gh8_90 := (of_decide_eq_false h8_90)
                    refine WF.seq ?_
                    refine WF.region ?_
                    refine WL.va rfl rfl rfl (X.eql rfl rfl) ?_
                    refine WL.va rfl rfl rfl (X.assignB rfl) ?_
                    refine WL.nil ?_
                    refine thn_n ?_
                    refine WF.cond rfl (fun h9_100 => ?_) (fun h9_100 => ?_)
                    · have gh9_100 := (of_decide_eq_true h9_100)
                      have hfk : cl p = 11 := by
                        have hk0 : p = 9 := by have := gh9_100; omega
                        subst hk0; rfl
                      refine WF.region ?_
                      refine WL.va rfl rfl rfl (X.moveI rfl) ?_
                      refine WL.va rfl rfl rfl (X.fieldAddrO (off := 11) rfl Try.underlying25 rfl rfl Try.sizeOf3) ?_
                      refine WL.op rfl (OW.storeO (hO3.ext hx7) (Nat.le_of_ble_eq_true rfl) rfl rfl rfl Try.sizeOf3 ?_)
                      intro w102 hO3 hx104
                      have := World.grownBy.size hx104
                      replace hO6 := hO6.keptO hx104 (by omega)
                      replace hO3 := hO3.cast (mc_set x hn (by omega))
                      have hones : ∀ u ∈ mc (n.set 11 x) ok vE vD, u.oneCell' = true := mc_ones _ _ hE hD
                      refine WL.nil ?_
                      refine blk_n ?_
                      refine thn_n ?_
                      refine WF.seq ?_
                      refine WF.region ?_
                      refine WL.va rfl rfl rfl (X.loadOA hO3 (Ext.refl _) rfl rfl Try.isAgg25 Try.sizeOf25) ?_
                      refine WL.op rfl (OW.storeOA hO6 rfl rfl rfl hones Try.sizeOf25 ?_)
                      intro w106 hO6 hx108
                      have := World.grownBy.size hx108
                      replace hO3 := hO3.keptO hx108 (by omega)
                      refine WL.nil ?_
                      refine thn_n ?_
                      refine WF.ret ?_
                      refine finC_r (vs := [_]) ⟨⟨_, rfl, readO hO6 Try.isAgg25 Try.sizeOf25⟩, trivial⟩ ?_
                      exact ⟨(by rw [hfk]; rfl), (Ext.store (Ext.store (Ext.trans hx3 hx7) hx104 (by omega)) hx108 (by omega))⟩
                    · have gh9_100 := (of_decide_eq_false h9_100)
                      refine WF.seq ?_
                      refine WF.region ?_
                      refine WL.va rfl rfl rfl (X.eql rfl rfl) ?_
                      refine WL.va rfl rfl rfl (X.assignB rfl) ?_
                      refine WL.nil ?_
                      refine thn_n ?_
                      refine WF.cond rfl (fun h10_110 => ?_) (fun h10_110 => ?_)
                      · have gh10_110 := (of_decide_eq_true h10_110)
                        have hfk : cl p = 12 := by
                          have hk0 : p = 10 := by have := gh10_110; omega
                          subst hk0; rfl
                        refine WF.region ?_
                        refine WL.va rfl rfl rfl (X.moveI rfl) ?_
                        refine WL.va rfl rfl rfl (X.fieldAddrO (off := 12) rfl Try.underlying25 rfl rfl Try.sizeOf3) ?_
                        refine WL.op rfl (OW.storeO (hO3.ext hx7) (Nat.le_of_ble_eq_true rfl) rfl rfl rfl Try.sizeOf3 ?_)
                        intro w112 hO3 hx114
                        have := World.grownBy.size hx114
                        replace hO6 := hO6.keptO hx114 (by omega)
                        replace hO3 := hO3.cast (mc_set x hn (by omega))
                        have hones : ∀ u ∈ mc (n.set 12 x) ok vE vD, u.oneCell' = true := mc_ones _ _ hE hD
                        refine WL.nil ?_
                        refine blk_n ?_
                        refine thn_n ?_
                        refine WF.seq ?_
                        refine WF.region ?_
                        refine WL.va rfl rfl rfl (X.loadOA hO3 (Ext.refl _) rfl rfl Try.isAgg25 Try.sizeOf25) ?_
                        refine WL.op rfl (OW.storeOA hO6 rfl rfl rfl hones Try.sizeOf25 ?_)
                        intro w116 hO6 hx118
                        have := World.grownBy.size hx118
                        replace hO3 := hO3.keptO hx118 (by omega)
                        refine WL.nil ?_
                        refine thn_n ?_
                        refine WF.ret ?_
                        refine finC_r (vs := [_]) ⟨⟨_, rfl, readO hO6 Try.isAgg25 Try.sizeOf25⟩, trivial⟩ ?_
                        exact ⟨(by rw [hfk]; rfl), (Ext.store (Ext.store (Ext.trans hx3 hx7) hx114 (by omega)) hx118 (by omega))⟩
                      · have gh10_110 := (of_decide_eq_false h10_110)
                        have := gh10_110; omega

end Go.Proofs.Ytccbpfbcaogcnaa
