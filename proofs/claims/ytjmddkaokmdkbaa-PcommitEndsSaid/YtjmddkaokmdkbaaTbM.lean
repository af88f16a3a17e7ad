/- The walks of Pick and of the table's function move. -/
import Derived.Test.YtjmddkaokmdkbaaTbC
import Derived.Test.YtjmddkaokmdkbaaPl
namespace Go.Proofs.Ytjmddkaokmdkbaa
open Go Go.RowKit Kf
set_option maxRecDepth 20000

def pickN (k : Int) (n : Nat) : Nat := if n = 0 then 0 else (k % (n : Int)).toNat
theorem pickN_lt {k : Int} {n : Nat} (h : 0 < n) : pickN k n < n := by
  unfold pickN
  rw [if_neg (by omega)]
  have := Int.emod_lt_of_pos k (show (0 : Int) < n by omega)
  have := Int.emod_nonneg k (show (n : Int) ≠ 0 by omega)
  omega
theorem pickN_le {k : Int} {n : Nat} : pickN k n ≤ n := by
  by_cases h : 0 < n
  · exact Nat.le_of_lt (pickN_lt h)
  · unfold pickN; rw [if_pos (by omega)]; omega
theorem pickN_0 {k : Int} {n : Nat} (h : (n : Int) < 1) : (0 : Int) = ((pickN k n : Nat) : Int) := by unfold pickN; rw [if_pos (by omega)]; rfl
theorem pickN_n {k : Int} {n : Nat} (h : ¬ (n : Int) < 1) (h2 : k.tmod n < 0) : k.tmod n + n = ((pickN k n : Nat) : Int) := by
  unfold pickN
  rw [if_neg (by omega)]
  have h3 := Int.emod_lt_of_pos k (show (0 : Int) < n by omega)
  have h4 := Int.emod_nonneg k (show (n : Int) ≠ 0 by omega)
  have e : k.tmod n % (n : Int) = k % (n : Int) := by
    have q := Int.mul_tdiv_add_tmod k (n : Int)
    have : k % (n : Int) = (n * k.tdiv n + k.tmod n) % (n : Int) := by rw [q]
    rw [this, Int.mul_add_emod_self_left]
  have h5 := Int.lt_tmod_of_pos k (show (0 : Int) < n by omega)
  have e2 : (k.tmod n + n) % (n : Int) = k.tmod n % (n : Int) := Int.add_emod_right ..
  rw [Int.emod_eq_of_lt (by omega) (by omega)] at e2
  omega
theorem pickN_p {k : Int} {n : Nat} (h : ¬ (n : Int) < 1) (h2 : ¬ k.tmod n < 0) : k.tmod n = ((pickN k n : Nat) : Int) := by
  unfold pickN
  rw [if_neg (by omega)]
  have h3 := Int.emod_lt_of_pos k (show (0 : Int) < n by omega)
  have h4 := Int.emod_nonneg k (show (n : Int) ≠ 0 by omega)
  have e : k.tmod n % (n : Int) = k % (n : Int) := by
    have q := Int.mul_tdiv_add_tmod k (n : Int)
    have : k % (n : Int) = (n * k.tdiv n + k.tmod n) % (n : Int) := by rw [q]
    rw [this, Int.mul_add_emod_self_left]
  have h5 := Int.tmod_lt_of_pos k (show (0 : Int) < n by omega)
  rw [Int.emod_eq_of_lt (by omega) (by omega)] at e
  omega
/-- what the table always is -/
structure TbOk (x : Tb) : Prop where
  ok : ∀ k, k < 3 → (x.co k).ok
  many : 1 ≤ x.many ∧ x.many ≤ 7
  nw : ∀ k : Nat, k < 3 → newOk ((k : Int) + 1) 5 x.many x.parts = true
  parts : 1 ≤ x.parts.length ∧ x.parts.length ≤ 4
  votes : x.votes.length = x.parts.length
  starts : 0 ≤ x.starts ∧ x.starts ≤ 100000
  post : x.post.length ≤ 90000
  msg : ∀ m ∈ x.post, In64 m.ints ∧ (m.Kind = 8 ∨ m.Kind = 10 → 1 ≤ m.To ∧ m.To ≤ 7 ∧ (x.kept m.To.toNat).length ≤ 1100) ∧ (m.Kind ≠ 8 ∧ m.Kind ≠ 10 → 1 ≤ m.To ∧ m.To ≤ 3)
def Tb.act (x : Tb) (K A : Int) : Tb :=
  if pickN K 9 = 0 then x.vote (pickN A x.parts.length)
  else if pickN K 9 = 1 then x.start (pickN A 3)
  else if pickN K 9 = 6 then (if 0 < x.post.length then x.less (pickN A x.post.length) else x)
  else if pickN K 9 = 7 then (if 0 < x.post.length then { x with post := x.post ++ [x.post.getD (pickN A x.post.length) Msg.zero] } else x)
  else if pickN K 9 = 8 then x.made (pickN A 3)
  else if 0 < x.post.length then x.come (pickN A x.post.length) else x
def Tb.move (x : Tb) (K A : Int) : Tb := (x.act K A).values
theorem tells_co (x : Tb) (m : Msg) : (x.tells m).co = x.co := rfl
theorem out1_co (x : Tb) (m : Msg) : (x.out1 m).co = x.co := by unfold Tb.out1; split; rfl; split <;> rfl
theorem outs_co : ∀ (l : List Msg) (x : Tb), (l.foldl Tb.out1 x).co = x.co
  | [], _ => rfl
  | m :: l, x => by rw [List.foldl_cons, outs_co l, out1_co]
theorem updN_ok {f : Nat → CC} {k : Nat} {c : CC} (h : ∀ q, q < 3 → (f q).ok) (hc : c.ok) : ∀ q, q < 3 → (updN f k c q).ok := fun q hq => by
  by_cases e : q = k
  · subst e; rw [updN_at]; exact hc
  · rw [updN_ne e]; exact h q hq
theorem start_ok' {x : Tb} {k : Nat} (h : ∀ q, q < 3 → (x.co q).ok) (hk : k < 3) : ∀ q, q < 3 → ((x.start k).co q).ok := updN_ok h ((h k hk).started _)
theorem come_ok' {x : Tb} {i : Nat} (h : TbOk x) (hi : i < x.post.length) : ∀ q, q < 3 → ((x.come i).co q).ok := by
  have hm : x.post[i]? = some x.post[i] := List.getElem?_eq_getElem hi
  obtain ⟨_, _, h3⟩ := h.msg _ (List.getElem_mem hi)
  by_cases hK : x.post[i].Kind = 8 ∨ x.post[i].Kind = 10
  · rw [come_t hm hK]
    unfold Tb.takeM
    rw [outs_co]
    exact h.ok
  · have hK' : x.post[i].Kind ≠ 8 ∧ x.post[i].Kind ≠ 10 := by omega
    rw [come_s hm hK']
    have := h3 hK'
    exact updN_ok h.ok (h.ok _ (by omega)).step
theorem act_ok {x : Tb} (K A : Int) (h : TbOk x) : ∀ q, q < 3 → ((x.act K A).co q).ok := by
  unfold Tb.act
  split
  · exact h.ok
  split
  · exact start_ok' h.ok (pickN_lt (by omega))
  split
  · split
    · exact h.ok
    · exact h.ok
  split
  · split
    · exact h.ok
    · exact h.ok
  split
  · exact updN_ok h.ok (Rel.new (h.nw _ (pickN_lt (by omega)))).ok
  split
  · rename_i hp; exact come_ok' h (pickN_lt hp)
  · exact h.ok
theorem ptrs_set {gk : Nat → Nat} {n k gn : Nat} (h : k < n) : (ptrs gk n).set k (at_ gn) = ptrs (updN gk k gn) n := by
  apply List.ext_getElem
  · simp [ptrs]
  · intro i h1 h2
    rw [List.getElem_set]
    by_cases e : k = i
    · subst e; simp [ptrs, updN]
    · have : i ≠ k := fun q => e q.symm
      simp [ptrs, updN, e, this]

theorem pickN_ok (k : Int) (n : Nat) (w : World) (_hk : -9223372036854775808 ≤ k ∧ k ≤ 9223372036854775807) (hn : n ≤ 1000000) : FnOk Try.prog 25 [i64 k, i64 (n : Int)] w (fun r w' => r = i64 ((pickN k n : Nat) : Int) ∧ w = w') := by
  refine FnOk.enter (rs := [4]) Try.func25 rfl Try.ntmps25 Try.results25 rfl rfl ?_
  refine WF.seq ?_
  refine WF.region ?_
  refine WL.va rfl rfl rfl (X.assignI rfl) ?_
  refine WL.nil ?_
  refine thn_n ?_
  refine WF.seq ?_
  refine WF.seq ?_
  refine WF.region ?_
  refine WL.va rfl rfl rfl (X.moveI rfl) ?_
  refine WL.va rfl rfl rfl (X.lss rfl rfl) ?_
  refine WL.nil ?_
  refine thn_n ?_
  refine WF.cond rfl (fun h0_1 => ?_) (fun h0_1 => ?_)
  · have gh0_1 := (of_decide_eq_true h0_1)
    have c0 : (n : Int) < 1 := gh0_1
    refine WF.seq ?_
    refine WF.region ?_
    refine WL.va rfl rfl rfl (X.assignI rfl) ?_
    refine WL.nil ?_
    refine thn_n ?_
    refine WF.ret ?_
    refine thn_r ?_
    refine fin_r ?_
    exact ⟨congrArg i64 (pickN_0 c0), rfl⟩
  · have gh0_1 := (of_decide_eq_false h0_1)
    have c0 : ¬ (n : Int) < 1 := gh0_1
    have hr1 := Int.tmod_lt_of_pos k (show (0 : Int) < n by omega)
    have hr2 := Int.lt_tmod_of_pos k (show (0 : Int) < n by omega)
    refine WF.skip ?_
    refine thn_n ?_
    refine WF.seq ?_
    refine WF.region ?_
    refine WL.va rfl rfl rfl (X.moveI rfl) ?_
    refine WL.va rfl rfl rfl (X.moveI rfl) ?_
    refine WL.va rfl rfl rfl (X.rem rfl rfl (by omega) rfl) ?_
    refine WL.va rfl rfl rfl (X.assignI rfl) ?_
    refine WL.nil ?_
    refine thn_n ?_
    refine WF.seq ?_
    refine WF.seq ?_
    refine WF.region ?_
    refine WL.va rfl rfl rfl (X.moveI rfl) ?_
    refine WL.va rfl rfl rfl (X.lss rfl rfl) ?_
    refine WL.nil ?_
    refine thn_n ?_
    refine WF.cond rfl (fun h1_3 => ?_) (fun h1_3 => ?_)
    · have gh1_3 := (of_decide_eq_true h1_3)
      have c1 : k.tmod n < 0 := gh1_3
      refine WF.region ?_
      refine WL.va rfl rfl rfl (X.moveI rfl) ?_
      refine WL.va rfl rfl rfl (X.moveI rfl) ?_
      refine WL.va rfl rfl rfl (X.add rfl rfl (w64 (by omega))) ?_
      refine WL.va rfl rfl rfl (X.assignI rfl) ?_
      refine WL.nil ?_
      refine thn_n ?_
      refine WF.seq ?_
      refine WF.region ?_
      refine WL.va rfl rfl rfl (X.moveI rfl) ?_
      refine WL.va rfl rfl rfl (X.assignI rfl) ?_
      refine WL.nil ?_
      refine thn_n ?_
      refine WF.ret ?_
      refine fin_r ?_
      first | exact ⟨congrArg i64 (pickN_n c0 c1), rfl⟩ | exact ⟨congrArg i64 (pickN_p c0 c1), rfl⟩
    · have gh1_3 := (of_decide_eq_false h1_3)
      have c1 : ¬ k.tmod n < 0 := gh1_3
      refine WF.skip ?_
      refine thn_n ?_
      refine WF.seq ?_
      refine WF.region ?_
      refine WL.va rfl rfl rfl (X.moveI rfl) ?_
      refine WL.va rfl rfl rfl (X.assignI rfl) ?_
      refine WL.nil ?_
      refine thn_n ?_
      refine WF.ret ?_
      refine fin_r ?_
      first | exact ⟨congrArg i64 (pickN_n c0 c1), rfl⟩ | exact ⟨congrArg i64 (pickN_p c0 c1), rfl⟩

theorem pick_to {i : Nat} {k : Int} {n : Nat} (e : i = pickN k n) (_k' : Int) (_n' : Nat) (w : World) (hk : -9223372036854775808 ≤ k ∧ k ≤ 9223372036854775807) (hn : n ≤ 1000000) : FnOk Try.prog 25 [i64 k, i64 (n : Int)] w (fun r w' => r = i64 (i : Int) ∧ w = w') := by
  subst e; exact pickN_ok k n w hk hn
set_option maxHeartbeats 16000000 in
theorem move_ok (w0 w : World) (G : Fp TR) (g : Nat) (x : Tb) (K A : Int) (h : TG w0 w G g x 3) (hT : TbOk x) (hK : -9223372036854775808 ≤ K ∧ K ≤ 9223372036854775807) (hA : -9223372036854775808 ≤ A ∧ A ≤ 9223372036854775807) : FnOk Try.prog 23 [at_ g, agg [i64 K, i64 A]] w (fun _ w' => TP w0 w w' G g (x.move K A) 3) := by
  have hsz0 := h.since.size
  have hpl := hT.post
  have hpt := hT.parts
  have hvt := hT.votes
  have hmt := hT.many
  have hst := hT.starts
  obtain ⟨k, hke⟩ : ∃ k, k = pickN A 3 := ⟨_, rfl⟩
  have hk : k < 3 := by rw [hke]; exact pickN_lt (by omega)
  obtain ⟨i, hie⟩ : ∃ i, i = pickN A x.post.length := ⟨_, rfl⟩
  have hi : 0 < x.post.length → i < x.post.length := fun q => by rw [hie]; exact pickN_lt q
  have hil : i ≤ x.post.length := by rw [hie]; exact pickN_le
  have hlt : (x.post.take i).length = i := by simp; omega
  have hld : (x.post.drop (i + 1)).length = x.post.length - (i + 1) := by simp
  obtain ⟨kp, hkpe⟩ : ∃ kp, kp = pickN A x.parts.length := ⟨_, rfl⟩
  have hkp : kp < x.parts.length := by rw [hkpe]; exact pickN_lt (by omega)
  obtain ⟨kn, hkne⟩ : ∃ kn, kn = pickN K 9 := ⟨_, rfl⟩
  obtain ⟨vp, vv, vc, vo, vk, gk, hI⟩ := h
  have hx := hI.obj
  have tg := hx.lt
  have hpg : ∀ b, vo.ownBlock = some b → b ≠ g := fun b e => Fp.ne (hI.post.fp b e) hI.at_ (by simp)
  have hcg : ∀ b, vc.ownBlock = some b → b ≠ g := fun b e => Fp.ne (hI.coords.fp b e) hI.at_ (by simp)
  refine FnOk.enter (rs := []) Try.func23 rfl Try.ntmps23 Try.results23 rfl rfl ?_
  refine WF.seq ?_
  refine WF.region ?_
  refine WL.op rfl (OW.boxA (cs := [i64 K, i64 A]) rfl ?_ (by decide))
  intro g3 w1 heg3 hlg3 hO3 hx2
  have := World.grownBy.size hx2
  have hw1 := hx2
  have hI1 := hI.ext hx2
  have hg3 : G g3 = none := Fp.fresh hI.below (by omega)
  refine WL.nil ?_
  refine thn_n ?_
  refine WF.seq ?_
  refine WF.drawn (.q 0 (.q 1 (.q 2 (.q 3 (.q 4 (.q 5 (.q 6 (.l 7 (.q 8 .nil))))))))) (fun w' => Ext w1 w') 9 (by kernel_rfl) (by kernel_rfl) (Ext.drew _) ?_
  have := World.grownBy.size (Ext.drew w1)
  refine WO.q rfl rfl rfl rfl (fun w' hE4 => (X.fieldAddrO (off := 1) rfl Try.underlying66 rfl rfl Try.sizeOf3)) ?_
  refine WO.q rfl rfl rfl rfl (fun w' hE4 => (X.loadO hO3 hE4 rfl rfl Try.isAgg3)) ?_
  refine WO.q rfl rfl rfl rfl (fun w' hE4 => (X.move rfl)) ?_
  refine WO.q rfl rfl rfl rfl (fun w' hE4 => (X.nilCheck rfl)) ?_
  refine WO.q rfl rfl rfl rfl (fun w' hE4 => (X.fieldAddrO (off := 13) rfl Try.underlying63 rfl rfl Try.sizeOf36)) ?_
  refine WO.q rfl rfl rfl rfl (fun w' hE4 => (X.loadO hx (Ext.trans hx2 hE4) rfl rfl Try.isAgg36)) ?_
  refine WO.q rfl rfl rfl rfl (fun w' hE4 => (X.len (hI1.post.rd) rfl Try.underlying36)) ?_
  refine WO.l ?_
  refine LO.go rfl rfl (OW.enter rfl (by decide) (X.call Try.call25 (evl_cons (v := (i64 A)) rfl (evl_cons (v := (i64 (x.post.length : Int))) rfl evl_nil))) (pick_to hie A x.post.length _ hA (by omega)) ?_)
  rintro v6 w5 ⟨rfl, rfl⟩
  refine ⟨(Ext.drew _), ?_⟩
  refine WO.q rfl rfl rfl rfl (fun w' hE4 => (X.assignI rfl)) ?_
  refine WO.nil ?_
  refine WL.nil ?_
  refine thn_n ?_
  refine WF.seq ?_
  refine WF.region ?_
  refine WL.va rfl rfl rfl (X.fieldAddrO (off := 1) rfl Try.underlying66 rfl rfl Try.sizeOf3) ?_
  refine WL.va rfl rfl rfl (X.loadO hO3 (Ext.drew _) rfl rfl Try.isAgg3) ?_
  refine WL.c rfl rfl rfl (X.call Try.call25 (evl_cons (v := (i64 A)) rfl (evl_cons (v := (i64 (3 : Nat))) rfl evl_nil))) (pick_to hke A 3 _ hA (by omega)) ?_
  rintro v9 w8 ⟨rfl, rfl⟩
  refine WL.va rfl rfl rfl (X.assignI rfl) ?_
  refine WL.nil ?_
  refine thn_n ?_
  refine WF.seq ?_
  refine WF.region ?_
  refine WL.va rfl rfl rfl (X.move rfl) ?_
  refine WL.va rfl rfl rfl (X.nilCheck rfl) ?_
  refine WL.va rfl rfl rfl (X.fieldAddrO (off := 13) rfl Try.underlying63 rfl rfl Try.sizeOf36) ?_
  refine WL.va rfl rfl rfl (X.loadO hx (Ext.trans hx2 (Ext.drew _)) rfl rfl Try.isAgg36) ?_
  refine WL.va rfl rfl rfl (X.len (hI1.post.rd) rfl Try.underlying36) ?_
  refine WL.va rfl rfl rfl (X.gtr rfl rfl) ?_
  refine WL.va rfl rfl rfl (X.assignB rfl) ?_
  refine WL.nil ?_
  refine thn_n ?_
  refine WF.named (fun F12 hF13 => ?_)
  refine WF.cut (fun f' w' => Agree [0, 1, 3, 4, 5, 6, 9, 10, 11, 12, 13, 14, 15, 16, 17, 18, 19, 20, 21, 22, 23, 24, 25] f' F12 ∧ True ∧ TP w0 w w' G g (x.act K A) 3) ?_ ?_
  · refine WF.seq ?_
    refine WF.region ?_
    refine WL.va rfl rfl rfl (X.fieldAddrO (off := 0) (congrFun hF13 3) Try.underlying66 rfl rfl Try.sizeOf3) ?_
    refine WL.va rfl rfl rfl (X.loadO hO3 (Ext.drew _) rfl rfl Try.isAgg3) ?_
    refine WL.c rfl rfl rfl (X.call Try.call25 (evl_cons (v := (i64 K)) rfl (evl_cons (v := (i64 (9 : Nat))) rfl evl_nil))) (pick_to hkne K 9 _ hK (by omega)) ?_
    rintro v15 w14 ⟨rfl, rfl⟩
    refine WL.nil ?_
    refine thn_n ?_
    refine WF.block ?_
    refine WF.seq ?_
    refine WF.region ?_
    refine WL.va rfl rfl rfl (X.eql rfl rfl) ?_
    refine WL.va rfl rfl rfl (X.assignB rfl) ?_
    refine WL.nil ?_
    refine thn_n ?_
    refine WF.cond rfl (fun h0_17 => ?_) (fun h0_17 => ?_)
    · have gh0_17 := (of_decide_eq_true h0_17)
      have hn : kn = 0 := by have := gh0_17; omega
      refine WF.drawn (.q 0 (.q 1 (.q 2 (.q 3 (.q 4 (.q 5 (.q 6 (.q 7 (.l 8 .nil))))))))) (fun w' => Ext w1.drew w') 9 (by kernel_rfl) (by kernel_rfl) (Ext.drew _) ?_
      have := World.grownBy.size (Ext.drew w1.drew)
      refine WO.q rfl rfl rfl rfl (fun w' hE19 => (X.move (congrFun hF13 0))) ?_
      refine WO.q rfl rfl rfl rfl (fun w' hE19 => (X.fieldAddrO (off := 1) (congrFun hF13 3) Try.underlying66 rfl rfl Try.sizeOf3)) ?_
      refine WO.q rfl rfl rfl rfl (fun w' hE19 => (X.loadO hO3 (Ext.trans (Ext.drew _) hE19) rfl rfl Try.isAgg3)) ?_
      refine WO.q rfl rfl rfl rfl (fun w' hE19 => (X.move (congrFun hF13 0))) ?_
      refine WO.q rfl rfl rfl rfl (fun w' hE19 => (X.nilCheck rfl)) ?_
      refine WO.q rfl rfl rfl rfl (fun w' hE19 => (X.fieldAddrO (off := 0) rfl Try.underlying63 rfl rfl Try.sizeOf22)) ?_
      refine WO.q rfl rfl rfl rfl (fun w' hE19 => (X.loadO hx (Ext.trans (Ext.trans hx2 (Ext.drew _)) hE19) rfl rfl Try.isAgg22)) ?_
      refine WO.q rfl rfl rfl rfl (fun w' hE19 => (X.len (hI1.parts.rd) rfl Try.underlying22)) ?_
      refine WO.l ?_
      refine LO.go rfl rfl (OW.enter rfl (by decide) (X.call Try.call25 (evl_cons (v := (i64 A)) rfl (evl_cons (v := (i64 (x.parts.length : Int))) rfl evl_nil))) (pick_to hkpe A x.parts.length _ hA (by omega)) ?_)
      rintro v21 w20 ⟨rfl, rfl⟩
      refine ⟨(Ext.drew _), ?_⟩
      refine WO.nil ?_
      have hI2 := hI1.ext (show Ext w1 w1.drew.drew from (Ext.trans (Ext.drew _) (Ext.drew _)))
      have he2 : Ext w1 w1.drew.drew := (show Ext w1 w1.drew.drew from (Ext.trans (Ext.drew _) (Ext.drew _)))
      refine WL.c rfl rfl rfl (X.call Try.call42 (evl_cons (v := (at_ g)) rfl (evl_cons (v := (i64 (kp : Int))) rfl evl_nil))) (tvote_ok w0 _ G g kp x ⟨_, _, _, _, _, _, hI2⟩ hkp hvt (by omega) hpt.2 (by omega)) ?_
      rintro v24 w23 hTP
      have hTP0 := TP.pre he2 hTP
      refine WL.nil ?_
      refine blk_n ?_
      refine thn_n ?_
      exact ⟨(by repeat (first | exact (Agree.refl _ F12) | refine Agree.put ?_ rfl | refine Agree.named hF13 ?_)), trivial, (by
      first
      | (have q : x.act K A = x.vote kp := by unfold Tb.act; rw [← hkne, ← hkpe, if_pos (by omega)]
         rw [q]; exact TP.pre hw1 hTP0)
      | (have q : x.act K A = x.start k := by unfold Tb.act; rw [← hkne, ← hke, if_neg (by omega), if_pos (by omega)]
         rw [q]; exact TP.pre hw1 hTP1)
      | (have q : x.act K A = x.less i := by unfold Tb.act; rw [← hkne, ← hie, if_neg (by omega), if_neg (by omega), if_pos (by omega), if_pos hp0]
         rw [q]; exact TP.pre hw1 hTP6)
      | (have q : x.act K A = { x with post := x.post ++ [x.post[i]'hin] } := by unfold Tb.act; rw [← hkne, ← hie, if_neg (by omega), if_neg (by omega), if_neg (by omega), if_pos (by omega), if_pos hp0, show x.post.getD i Msg.zero = x.post[i]'hin from by rw [List.getD_eq_getElem?_getD, List.getElem?_eq_getElem hin]; rfl]
         rw [q]; exact TP.pre hw1 (TP.pre heJ hTP))
      | (have q : x.act K A = x.made k := by unfold Tb.act; rw [← hkne, ← hke, if_neg (by omega), if_neg (by omega), if_neg (by omega), if_neg (by omega), if_pos (by omega)]
         rw [q]; exact TP.pre hw1 hTP8)
      | (have q : x.act K A = x.come i := by unfold Tb.act; rw [← hkne, ← hie, if_neg (by omega), if_neg (by omega), if_neg (by omega), if_neg (by omega), if_neg (by omega), if_pos hp0]
         rw [q]; exact TP.pre hw1 hTP2)
      | (have q : x.act K A = x := by
           unfold Tb.act; rw [← hkne, if_neg (by omega), if_neg (by omega)]
           first
           | rw [if_pos (by omega), if_neg hp0]
           | rw [if_neg (by omega), if_pos (by omega), if_neg hp0]
           | rw [if_neg (by omega), if_neg (by omega), if_neg (by omega), if_neg hp0]
         rw [q]; exact TP.pre hw1 (TP.refl ⟨_, _, _, _, _, _, hI1⟩ (by first | exact Ext.drew _ | exact Ext.refl _))))⟩
    · have gh0_17 := (of_decide_eq_false h0_17)
      have n0 : kn ≠ 0 := by have := gh0_17; omega
      refine WF.seq ?_
      refine WF.region ?_
      refine WL.va rfl rfl rfl (X.eql rfl rfl) ?_
      refine WL.va rfl rfl rfl (X.assignB rfl) ?_
      refine WL.nil ?_
      refine thn_n ?_
      refine WF.cond rfl (fun h1_26 => ?_) (fun h1_26 => ?_)
      · have gh1_26 := (of_decide_eq_true h1_26)
        have hn : kn = 1 := by have := gh1_26; omega
        refine WF.region ?_
        refine WL.va rfl rfl rfl (X.move (congrFun hF13 0)) ?_
        refine WL.va rfl rfl rfl (X.moveI (congrFun hF13 5)) ?_
        have he2 : Ext w1 w1.drew := (show Ext w1 w1.drew from (Ext.drew _))
        have hI2 := hI1.ext he2
        refine WL.c rfl rfl rfl (X.call Try.call24 (evl_cons (v := (at_ g)) rfl (evl_cons (v := (i64 (k : Int))) rfl evl_nil))) (tstart_ok w0 _ G g k x ⟨_, _, _, _, _, _, hI2⟩ hk hT.ok (by omega) (by omega)) ?_
        rintro v29 w28 hTP1
        replace hTP1 := TP.pre he2 hTP1
        refine WL.nil ?_
        refine blk_n ?_
        refine thn_n ?_
        exact ⟨(by repeat (first | exact (Agree.refl _ F12) | refine Agree.put ?_ rfl | refine Agree.named hF13 ?_)), trivial, (by
      first
      | (have q : x.act K A = x.vote kp := by unfold Tb.act; rw [← hkne, ← hkpe, if_pos (by omega)]
         rw [q]; exact TP.pre hw1 hTP0)
      | (have q : x.act K A = x.start k := by unfold Tb.act; rw [← hkne, ← hke, if_neg (by omega), if_pos (by omega)]
         rw [q]; exact TP.pre hw1 hTP1)
      | (have q : x.act K A = x.less i := by unfold Tb.act; rw [← hkne, ← hie, if_neg (by omega), if_neg (by omega), if_pos (by omega), if_pos hp0]
         rw [q]; exact TP.pre hw1 hTP6)
      | (have q : x.act K A = { x with post := x.post ++ [x.post[i]'hin] } := by unfold Tb.act; rw [← hkne, ← hie, if_neg (by omega), if_neg (by omega), if_neg (by omega), if_pos (by omega), if_pos hp0, show x.post.getD i Msg.zero = x.post[i]'hin from by rw [List.getD_eq_getElem?_getD, List.getElem?_eq_getElem hin]; rfl]
         rw [q]; exact TP.pre hw1 (TP.pre heJ hTP))
      | (have q : x.act K A = x.made k := by unfold Tb.act; rw [← hkne, ← hke, if_neg (by omega), if_neg (by omega), if_neg (by omega), if_neg (by omega), if_pos (by omega)]
         rw [q]; exact TP.pre hw1 hTP8)
      | (have q : x.act K A = x.come i := by unfold Tb.act; rw [← hkne, ← hie, if_neg (by omega), if_neg (by omega), if_neg (by omega), if_neg (by omega), if_neg (by omega), if_pos hp0]
         rw [q]; exact TP.pre hw1 hTP2)
      | (have q : x.act K A = x := by
           unfold Tb.act; rw [← hkne, if_neg (by omega), if_neg (by omega)]
           first
           | rw [if_pos (by omega), if_neg hp0]
           | rw [if_neg (by omega), if_pos (by omega), if_neg hp0]
           | rw [if_neg (by omega), if_neg (by omega), if_neg (by omega), if_neg hp0]
         rw [q]; exact TP.pre hw1 (TP.refl ⟨_, _, _, _, _, _, hI1⟩ (by first | exact Ext.drew _ | exact Ext.refl _))))⟩
      · have gh1_26 := (of_decide_eq_false h1_26)
        have n1 : kn ≠ 1 := by have := gh1_26; omega
        refine WF.seq ?_
        refine WF.region ?_
        refine WL.va rfl rfl rfl (X.eql rfl rfl) ?_
        refine WL.va rfl rfl rfl (X.assignB rfl) ?_
        refine WL.nil ?_
        refine thn_n ?_
        refine WF.cond rfl (fun h2_31 => ?_) (fun h2_31 => ?_)
        · have gh2_31 := (of_decide_eq_true h2_31)
          have hn : kn = 6 := by have := gh2_31; omega
          refine WF.seq ?_
          refine WF.region ?_
          refine WL.va rfl rfl rfl (X.moveB (congrFun hF13 6)) ?_
          refine WL.nil ?_
          refine thn_n ?_
          refine WF.cond rfl (fun h3_32 => ?_) (fun h3_32 => ?_)
          · have gh3_32 := (of_decide_eq_true h3_32)
            have hp0 : 0 < x.post.length := by have := gh3_32; omega
            have hin := hi hp0
            refine WF.drawn (.q 0 (.q 2 (.q 3 (.q 4 (.q 5 (.q 6 (.q 7 (.q 9 (.q 10 (.q 11 (.q 12 (.q 13 (.q 14 (.q 15 (.l 1 (.l 8 (.l 16 (.q 17 (.q 18 .nil))))))))))))))))))) (fun w' => Ext w1.drew w') 19 (by kernel_rfl) (by kernel_rfl) (Ext.drew _) ?_
            have := World.grownBy.size (Ext.drew w1.drew)
            refine WO.q rfl rfl rfl rfl (fun w' hE34 => (X.move (congrFun hF13 0))) ?_
            refine WO.q rfl rfl rfl rfl (fun w' hE34 => (X.move (congrFun hF13 0))) ?_
            refine WO.q rfl rfl rfl rfl (fun w' hE34 => (X.nilCheck rfl)) ?_
            refine WO.q rfl rfl rfl rfl (fun w' hE34 => (X.fieldAddrO (off := 13) rfl Try.underlying63 rfl rfl Try.sizeOf36)) ?_
            refine WO.q rfl rfl rfl rfl (fun w' hE34 => (X.loadO hx (Ext.trans (Ext.trans hx2 (Ext.drew _)) hE34) rfl rfl Try.isAgg36)) ?_
            refine WO.q rfl rfl rfl rfl (fun w' hE34 => (X.moveI (congrFun hF13 4))) ?_
            refine WO.q rfl rfl rfl rfl (fun w' hE34 => (X.slH (hI1.post.rd) rfl rfl (by omega) Try.underlying36 Try.sizeOf40)) ?_
            refine WO.q rfl rfl rfl rfl (fun w' hE34 => (X.move (congrFun hF13 0))) ?_
            refine WO.q rfl rfl rfl rfl (fun w' hE34 => (X.nilCheck rfl)) ?_
            refine WO.q rfl rfl rfl rfl (fun w' hE34 => (X.fieldAddrO (off := 13) rfl Try.underlying63 rfl rfl Try.sizeOf36)) ?_
            refine WO.q rfl rfl rfl rfl (fun w' hE34 => (X.loadO hx (Ext.trans (Ext.trans hx2 (Ext.drew _)) hE34) rfl rfl Try.isAgg36)) ?_
            refine WO.q rfl rfl rfl rfl (fun w' hE34 => (X.moveI (congrFun hF13 4))) ?_
            refine WO.q rfl rfl rfl rfl (fun w' hE34 => (X.add rfl rfl (show IntKind.i64.wrap ((i : Int) + 1) = ((i + 1 : Nat) : Int) from by rw [w64 (by omega)]; omega))) ?_
            refine WO.q rfl rfl rfl rfl (fun w' hE34 => (X.slL (hI1.post.rd) rfl rfl (by omega) Try.underlying36 Try.sizeOf40)) ?_
            refine WO.l ?_
            refine LO.go rfl rfl (OW.lit0 Try.underlying36 Try.sizeOf40 ?_ (by decide))
            intro v35 wZ ho37 hx36
            have := World.grownBy.size hx36
            have hoZ := ho37
            refine ⟨(Ext.trans (Ext.drew _) hx36), ?_⟩
            refine WO.l ?_
            refine LO.go rfl rfl (OW.append (bytes := 168) hoZ (Row.ext (msgs_take hI1.post.rd (by omega)) (Ext.trans (Ext.trans (Ext.drew _) (Ext.drew _)) hx36)) bares_one rfl rfl Try.underlying36 Try.type40 rfl rfl rfl rfl (by decide) (by unfold maxLen; omega) (by omega) ((Ext.trans (Ext.trans (Ext.drew _) (Ext.drew _)) hx36)).size ?_ (by decide))
            intro v38 wT ho40 hx39 hmvhx39
            have hoT := ho40
            refine ⟨(Ext.own (Ext.trans (Ext.drew _) hx36) hoZ (Nat.le_refl _) hx39), ?_⟩
            refine WO.l ?_
            refine LO.go rfl rfl (OW.append (bytes := 168) hoT (Row.ext (msgs_drop hI1.post.rd (by omega)) (Ext.trans (Ext.drew _) (Ext.own (Ext.trans (Ext.drew _) hx36) hoZ (Nat.le_refl _) hx39))) bares_one rfl rfl Try.underlying36 Try.type40 rfl rfl rfl rfl (by decide) (by unfold maxLen; omega) (by omega) ((Ext.trans (Ext.drew _) (Ext.own (Ext.trans (Ext.drew _) hx36) hoZ (Nat.le_refl _) hx39))).size ?_ (by decide))
            intro vL wP ho42 hx41 hmvhx41
            have hoL : World.ownsRow wP w1.heap.size 40 17 vL (x.less i).post.length ((x.less i).post.flatMap Msg.bare) := by have q := ho42; simpa [Tb.less, List.flatMap_append] using q
            refine ⟨(Ext.own (Ext.own (Ext.trans (Ext.drew _) hx36) hoZ (Nat.le_refl _) hx39) hoT (Nat.le_refl _) hx41), ?_⟩
            refine WO.q rfl rfl rfl rfl (fun w' hE34 => (X.nilCheck rfl)) ?_
            refine WO.q rfl rfl rfl rfl (fun w' hE34 => (X.fieldAddrO (off := 13) rfl Try.underlying63 rfl rfl Try.sizeOf36)) ?_
            refine WO.nil ?_
            have heP : Ext w1 wP := (show Ext w1 wP from (Ext.trans (Ext.drew _) (Ext.own (Ext.own (Ext.trans (Ext.drew _) hx36) hoZ (Nat.le_refl _) hx39) hoT (Nat.le_refl _) hx41)))
            refine WL.op rfl (OW.storeO (hx.ext (Ext.trans (Ext.trans hx2 (Ext.drew _)) (Ext.own (Ext.own (Ext.trans (Ext.drew _) hx36) hoZ (Nat.le_refl _) hx39) hoT (Nat.le_refl _) hx41))) (Nat.le_of_ble_eq_true rfl) rfl rfl (own_one hoL) Try.sizeOf36 ?_)
            intro wS hx hx44
            have := World.grownBy.size hx44
            replace hO3 := (hO3.ext (Ext.trans (Ext.drew _) (Ext.own (Ext.own (Ext.trans (Ext.drew _) hx36) hoZ (Nat.le_refl _) hx39) hoT (Nat.le_refl _) hx41))).keptO hx44 (by omega)
            replace hx : Blk _ _ _ (Tb.cells (x.less i) vp vv vc vL vk) := hx
            have hTP6 : TP w0 w1 wS G g (x.less i) 3 := hI1.setPost (l := (x.less i).post) hx (own_mono (hoL.kept hx44 (.inr fun e => by have := (hoL.lt g e).1; omega)) (Nat.zero_le _)) (fun b e => .inr (hoL.lt b e).1) ((ChgS.of_ext heP).row1 hx44 (.inl (.inl rfl)))
            refine WL.nil ?_
            refine blk_n ?_
            refine thn_n ?_
            exact ⟨(by repeat (first | exact (Agree.refl _ F12) | refine Agree.put ?_ rfl | refine Agree.named hF13 ?_)), trivial, (by
      first
      | (have q : x.act K A = x.vote kp := by unfold Tb.act; rw [← hkne, ← hkpe, if_pos (by omega)]
         rw [q]; exact TP.pre hw1 hTP0)
      | (have q : x.act K A = x.start k := by unfold Tb.act; rw [← hkne, ← hke, if_neg (by omega), if_pos (by omega)]
         rw [q]; exact TP.pre hw1 hTP1)
      | (have q : x.act K A = x.less i := by unfold Tb.act; rw [← hkne, ← hie, if_neg (by omega), if_neg (by omega), if_pos (by omega), if_pos hp0]
         rw [q]; exact TP.pre hw1 hTP6)
      | (have q : x.act K A = { x with post := x.post ++ [x.post[i]'hin] } := by unfold Tb.act; rw [← hkne, ← hie, if_neg (by omega), if_neg (by omega), if_neg (by omega), if_pos (by omega), if_pos hp0, show x.post.getD i Msg.zero = x.post[i]'hin from by rw [List.getD_eq_getElem?_getD, List.getElem?_eq_getElem hin]; rfl]
         rw [q]; exact TP.pre hw1 (TP.pre heJ hTP))
      | (have q : x.act K A = x.made k := by unfold Tb.act; rw [← hkne, ← hke, if_neg (by omega), if_neg (by omega), if_neg (by omega), if_neg (by omega), if_pos (by omega)]
         rw [q]; exact TP.pre hw1 hTP8)
      | (have q : x.act K A = x.come i := by unfold Tb.act; rw [← hkne, ← hie, if_neg (by omega), if_neg (by omega), if_neg (by omega), if_neg (by omega), if_neg (by omega), if_pos hp0]
         rw [q]; exact TP.pre hw1 hTP2)
      | (have q : x.act K A = x := by
           unfold Tb.act; rw [← hkne, if_neg (by omega), if_neg (by omega)]
           first
           | rw [if_pos (by omega), if_neg hp0]
           | rw [if_neg (by omega), if_pos (by omega), if_neg hp0]
           | rw [if_neg (by omega), if_neg (by omega), if_neg (by omega), if_neg hp0]
         rw [q]; exact TP.pre hw1 (TP.refl ⟨_, _, _, _, _, _, hI1⟩ (by first | exact Ext.drew _ | exact Ext.refl _))))⟩
          · have gh3_32 := (of_decide_eq_false h3_32)
            have hp0 : ¬ 0 < x.post.length := by have := gh3_32; omega
            refine WF.skip ?_
            refine blk_n ?_
            refine thn_n ?_
            exact ⟨(by repeat (first | exact (Agree.refl _ F12) | refine Agree.put ?_ rfl | refine Agree.named hF13 ?_)), trivial, (by
      first
      | (have q : x.act K A = x.vote kp := by unfold Tb.act; rw [← hkne, ← hkpe, if_pos (by omega)]
         rw [q]; exact TP.pre hw1 hTP0)
      | (have q : x.act K A = x.start k := by unfold Tb.act; rw [← hkne, ← hke, if_neg (by omega), if_pos (by omega)]
         rw [q]; exact TP.pre hw1 hTP1)
      | (have q : x.act K A = x.less i := by unfold Tb.act; rw [← hkne, ← hie, if_neg (by omega), if_neg (by omega), if_pos (by omega), if_pos hp0]
         rw [q]; exact TP.pre hw1 hTP6)
      | (have q : x.act K A = { x with post := x.post ++ [x.post[i]'hin] } := by unfold Tb.act; rw [← hkne, ← hie, if_neg (by omega), if_neg (by omega), if_neg (by omega), if_pos (by omega), if_pos hp0, show x.post.getD i Msg.zero = x.post[i]'hin from by rw [List.getD_eq_getElem?_getD, List.getElem?_eq_getElem hin]; rfl]
         rw [q]; exact TP.pre hw1 (TP.pre heJ hTP))
      | (have q : x.act K A = x.made k := by unfold Tb.act; rw [← hkne, ← hke, if_neg (by omega), if_neg (by omega), if_neg (by omega), if_neg (by omega), if_pos (by omega)]
         rw [q]; exact TP.pre hw1 hTP8)
      | (have q : x.act K A = x.come i := by unfold Tb.act; rw [← hkne, ← hie, if_neg (by omega), if_neg (by omega), if_neg (by omega), if_neg (by omega), if_neg (by omega), if_pos hp0]
         rw [q]; exact TP.pre hw1 hTP2)
      | (have q : x.act K A = x := by
           unfold Tb.act; rw [← hkne, if_neg (by omega), if_neg (by omega)]
           first
           | rw [if_pos (by omega), if_neg hp0]
           | rw [if_neg (by omega), if_pos (by omega), if_neg hp0]
           | rw [if_neg (by omega), if_neg (by omega), if_neg (by omega), if_neg hp0]
         rw [q]; exact TP.pre hw1 (TP.refl ⟨_, _, _, _, _, _, hI1⟩ (by first | exact Ext.drew _ | exact Ext.refl _))))⟩
        · have gh2_31 := (of_decide_eq_false h2_31)
          have n6 : kn ≠ 6 := by have := gh2_31; omega
          refine WF.seq ?_
          refine WF.region ?_
          refine WL.va rfl rfl rfl (X.eql rfl rfl) ?_
          refine WL.va rfl rfl rfl (X.assignB rfl) ?_
          refine WL.nil ?_
          refine thn_n ?_
          refine WF.cond rfl (fun h4_46 => ?_) (fun h4_46 => ?_)
          · have gh4_46 := (of_decide_eq_true h4_46)
            have hn : kn = 7 := by have := gh4_46; omega
            refine WF.seq ?_
            refine WF.region ?_
            refine WL.va rfl rfl rfl (X.moveB (congrFun hF13 6)) ?_
            refine WL.nil ?_
            refine thn_n ?_
            refine WF.cond rfl (fun h5_47 => ?_) (fun h5_47 => ?_)
            · have gh5_47 := (of_decide_eq_true h5_47)
              have hp0 : 0 < x.post.length := by have := gh5_47; omega
              have hin := hi hp0
              refine WF.drawn (.q 0 (.q 1 (.q 2 (.q 3 (.q 4 (.q 5 (.q 6 (.q 7 (.q 8 (.q 9 (.q 10 (.l 11 (.l 12 (.l 13 (.q 14 (.q 15 .nil)))))))))))))))) (fun w' => World.grownBy w1.drew w' vo.ownBlock) 16 (by kernel_rfl) (by kernel_rfl) (grown_of_ext (Ext.drew _)) ?_
              have := World.grownBy.size (Ext.drew w1.drew)
              refine WO.q rfl rfl rfl rfl (fun w' hE49 => (X.move (congrFun hF13 0))) ?_
              refine WO.q rfl rfl rfl rfl (fun w' hE49 => (X.move (congrFun hF13 0))) ?_
              refine WO.q rfl rfl rfl rfl (fun w' hE49 => (X.nilCheck rfl)) ?_
              refine WO.q rfl rfl rfl rfl (fun w' hE49 => (X.fieldAddrO (off := 13) rfl Try.underlying63 rfl rfl Try.sizeOf36)) ?_
              refine WO.q rfl rfl rfl rfl (fun w' hE49 => (X.loadO ((hx.ext (Ext.trans hx2 (Ext.drew _))).kept hE49 (fun e => hpg _ e rfl)) (Ext.refl _) rfl rfl Try.isAgg36)) ?_
              refine WO.q rfl rfl rfl rfl (fun w' hE49 => (X.move (congrFun hF13 0))) ?_
              refine WO.q rfl rfl rfl rfl (fun w' hE49 => (X.nilCheck rfl)) ?_
              refine WO.q rfl rfl rfl rfl (fun w' hE49 => (X.fieldAddrO (off := 13) rfl Try.underlying63 rfl rfl Try.sizeOf36)) ?_
              refine WO.q rfl rfl rfl rfl (fun w' hE49 => (X.loadO ((hx.ext (Ext.trans hx2 (Ext.drew _))).kept hE49 (fun e => hpg _ e rfl)) (Ext.refl _) rfl rfl Try.isAgg36)) ?_
              refine WO.q rfl rfl rfl rfl (fun w' hE49 => (X.moveI (congrFun hF13 4))) ?_
              refine WO.q rfl rfl rfl rfl (fun w' hE49 => (X.idx (hI1.post.rd) rfl rfl hin Try.underlying36 Try.sizeOf40)) ?_
              refine WO.l ?_
              refine LO.go rfl rfl (OW.val rfl (by decide) (X.loadEl (hI1.post.rd) (Ext.trans (Ext.drew _) (Ext.drew _)) rfl hin (flat_el Msg.bare_len hin) Try.isAgg40 Try.sizeOf40) ?_)
              refine ⟨(grown_of_ext (Ext.drew _)), ?_⟩
              refine WO.l ?_
              refine LO.go rfl rfl (OW.lits (vs := [agg (Msg.bare (x.post[i]'hin))]) (evp_cons rfl evp_nil) Try.underlying36 Try.sizeOf40 Try.zeroValue40 ⟨rfl, trivial⟩ rfl rfl rfl ?_ (by decide))
              intro v51 w50 ho53 hx52
              have := World.grownBy.size hx52
              have o1 : World.ownsRow w50 _ 40 17 v51 1 (Msg.bare (x.post[i]'hin)) := ho53
              have hJ := (hI1.ext (Ext.trans (Ext.trans (Ext.drew _) (Ext.drew _)) hx52))
              have heJ := (Ext.trans (Ext.trans (Ext.drew _) (Ext.drew _)) hx52)
              refine ⟨(grown_ext (grown_of_ext (Ext.drew _)) hx52), ?_⟩
              refine WO.l ?_
              refine LO.go rfl rfl (OW.append (bytes := 168) hJ.post.own (Row.of_own o1) (Msg.bare_one (x.post[i]'hin)) rfl rfl Try.underlying36 Try.type40 rfl rfl rfl rfl (by decide) (by unfold maxLen; omega) (by omega) (Nat.zero_le _) ?_ (by decide))
              intro vo2 w54 ho56 hx55 hmvhx55
              have := World.grownBy.size hx55
              replace hx := (hx.ext (Ext.trans (Ext.trans (Ext.trans hx2 (Ext.drew _)) (Ext.drew _)) hx52)).keptR hx55 (fun b e => by first | exact hpg b e)
              have hmA := hmvhx55
              have hxA := hx55
              have hoA := ho56
              refine ⟨(grown2 (grown_ext (grown_of_ext (Ext.drew _)) hx52) hx55), ?_⟩
              refine WO.q rfl rfl rfl rfl (fun w' hE49 => (X.nilCheck rfl)) ?_
              refine WO.q rfl rfl rfl rfl (fun w' hE49 => (X.fieldAddrO (off := 13) rfl Try.underlying63 rfl rfl Try.sizeOf36)) ?_
              refine WO.nil ?_
              refine WL.op rfl (OW.storeO hx (Nat.le_of_ble_eq_true rfl) rfl rfl (own_one hoA) Try.sizeOf36 ?_)
              intro w57 hx hx59
              have := World.grownBy.size hx59
              replace hx : Blk _ _ _ (Tb.cells x vp vv vc vo2 vk) := hx
              have hTP := hJ.pushed (ms := [(x.post[i]'hin)]) (by rw [bare_one1]; exact hoA) hmA hxA hx59 hx
              refine WL.nil ?_
              refine blk_n ?_
              refine thn_n ?_
              exact ⟨(by repeat (first | exact (Agree.refl _ F12) | refine Agree.put ?_ rfl | refine Agree.named hF13 ?_)), trivial, (by
      first
      | (have q : x.act K A = x.vote kp := by unfold Tb.act; rw [← hkne, ← hkpe, if_pos (by omega)]
         rw [q]; exact TP.pre hw1 hTP0)
      | (have q : x.act K A = x.start k := by unfold Tb.act; rw [← hkne, ← hke, if_neg (by omega), if_pos (by omega)]
         rw [q]; exact TP.pre hw1 hTP1)
      | (have q : x.act K A = x.less i := by unfold Tb.act; rw [← hkne, ← hie, if_neg (by omega), if_neg (by omega), if_pos (by omega), if_pos hp0]
         rw [q]; exact TP.pre hw1 hTP6)
      | (have q : x.act K A = { x with post := x.post ++ [x.post[i]'hin] } := by unfold Tb.act; rw [← hkne, ← hie, if_neg (by omega), if_neg (by omega), if_neg (by omega), if_pos (by omega), if_pos hp0, show x.post.getD i Msg.zero = x.post[i]'hin from by rw [List.getD_eq_getElem?_getD, List.getElem?_eq_getElem hin]; rfl]
         rw [q]; exact TP.pre hw1 (TP.pre heJ hTP))
      | (have q : x.act K A = x.made k := by unfold Tb.act; rw [← hkne, ← hke, if_neg (by omega), if_neg (by omega), if_neg (by omega), if_neg (by omega), if_pos (by omega)]
         rw [q]; exact TP.pre hw1 hTP8)
      | (have q : x.act K A = x.come i := by unfold Tb.act; rw [← hkne, ← hie, if_neg (by omega), if_neg (by omega), if_neg (by omega), if_neg (by omega), if_neg (by omega), if_pos hp0]
         rw [q]; exact TP.pre hw1 hTP2)
      | (have q : x.act K A = x := by
           unfold Tb.act; rw [← hkne, if_neg (by omega), if_neg (by omega)]
           first
           | rw [if_pos (by omega), if_neg hp0]
           | rw [if_neg (by omega), if_pos (by omega), if_neg hp0]
           | rw [if_neg (by omega), if_neg (by omega), if_neg (by omega), if_neg hp0]
         rw [q]; exact TP.pre hw1 (TP.refl ⟨_, _, _, _, _, _, hI1⟩ (by first | exact Ext.drew _ | exact Ext.refl _))))⟩
            · have gh5_47 := (of_decide_eq_false h5_47)
              have hp0 : ¬ 0 < x.post.length := by have := gh5_47; omega
              refine WF.skip ?_
              refine blk_n ?_
              refine thn_n ?_
              exact ⟨(by repeat (first | exact (Agree.refl _ F12) | refine Agree.put ?_ rfl | refine Agree.named hF13 ?_)), trivial, (by
      first
      | (have q : x.act K A = x.vote kp := by unfold Tb.act; rw [← hkne, ← hkpe, if_pos (by omega)]
         rw [q]; exact TP.pre hw1 hTP0)
      | (have q : x.act K A = x.start k := by unfold Tb.act; rw [← hkne, ← hke, if_neg (by omega), if_pos (by omega)]
         rw [q]; exact TP.pre hw1 hTP1)
      | (have q : x.act K A = x.less i := by unfold Tb.act; rw [← hkne, ← hie, if_neg (by omega), if_neg (by omega), if_pos (by omega), if_pos hp0]
         rw [q]; exact TP.pre hw1 hTP6)
      | (have q : x.act K A = { x with post := x.post ++ [x.post[i]'hin] } := by unfold Tb.act; rw [← hkne, ← hie, if_neg (by omega), if_neg (by omega), if_neg (by omega), if_pos (by omega), if_pos hp0, show x.post.getD i Msg.zero = x.post[i]'hin from by rw [List.getD_eq_getElem?_getD, List.getElem?_eq_getElem hin]; rfl]
         rw [q]; exact TP.pre hw1 (TP.pre heJ hTP))
      | (have q : x.act K A = x.made k := by unfold Tb.act; rw [← hkne, ← hke, if_neg (by omega), if_neg (by omega), if_neg (by omega), if_neg (by omega), if_pos (by omega)]
         rw [q]; exact TP.pre hw1 hTP8)
      | (have q : x.act K A = x.come i := by unfold Tb.act; rw [← hkne, ← hie, if_neg (by omega), if_neg (by omega), if_neg (by omega), if_neg (by omega), if_neg (by omega), if_pos hp0]
         rw [q]; exact TP.pre hw1 hTP2)
      | (have q : x.act K A = x := by
           unfold Tb.act; rw [← hkne, if_neg (by omega), if_neg (by omega)]
           first
           | rw [if_pos (by omega), if_neg hp0]
           | rw [if_neg (by omega), if_pos (by omega), if_neg hp0]
           | rw [if_neg (by omega), if_neg (by omega), if_neg (by omega), if_neg hp0]
         rw [q]; exact TP.pre hw1 (TP.refl ⟨_, _, _, _, _, _, hI1⟩ (by first | exact Ext.drew _ | exact Ext.refl _))))⟩
          · have gh4_46 := (of_decide_eq_false h4_46)
            have n7 : kn ≠ 7 := by have := gh4_46; omega
            refine WF.seq ?_
            refine WF.region ?_
            refine WL.va rfl rfl rfl (X.eql rfl rfl) ?_
            refine WL.va rfl rfl rfl (X.assignB rfl) ?_
            refine WL.nil ?_
            refine thn_n ?_
            refine WF.cond rfl (fun h6_61 => ?_) (fun h6_61 => ?_)
            · have gh6_61 := (of_decide_eq_true h6_61)
              have hn : kn = 8 := by have := gh6_61; omega
              refine WF.seq ?_
              refine WF.drawn (.q 0 (.q 1 (.q 2 (.q 3 (.q 4 (.q 5 (.q 6 (.q 7 (.q 8 (.q 9 (.l 10 (.q 11 (.q 12 (.q 13 (.q 14 (.q 15 .nil)))))))))))))))) (fun w' => Ext w1.drew w') 16 (by kernel_rfl) (by kernel_rfl) (Ext.drew _) ?_
              have := World.grownBy.size (Ext.drew w1.drew)
              refine WO.q rfl rfl rfl rfl (fun w' hE63 => (X.moveI (congrFun hF13 5))) ?_
              refine WO.q rfl rfl rfl rfl (fun w' hE63 => (X.add rfl rfl (w64 (by omega)))) ?_
              refine WO.q rfl rfl rfl rfl (fun w' hE63 => (X.move (congrFun hF13 0))) ?_
              refine WO.q rfl rfl rfl rfl (fun w' hE63 => (X.nilCheck rfl)) ?_
              refine WO.q rfl rfl rfl rfl (fun w' hE63 => (X.fieldAddrO (off := 0) rfl Try.underlying63 rfl rfl Try.sizeOf22)) ?_
              refine WO.q rfl rfl rfl rfl (fun w' hE63 => (X.loadO hx (Ext.trans (Ext.trans hx2 (Ext.drew _)) hE63) rfl rfl Try.isAgg22)) ?_
              refine WO.q rfl rfl rfl rfl (fun w' hE63 => (X.move (congrFun hF13 0))) ?_
              refine WO.q rfl rfl rfl rfl (fun w' hE63 => (X.nilCheck rfl)) ?_
              refine WO.q rfl rfl rfl rfl (fun w' hE63 => (X.fieldAddrO (off := 2) rfl Try.underlying63 rfl rfl Try.sizeOf3)) ?_
              refine WO.q rfl rfl rfl rfl (fun w' hE63 => (X.loadO hx (Ext.trans (Ext.trans hx2 (Ext.drew _)) hE63) rfl rfl Try.isAgg3)) ?_
              refine WO.l ?_
              have heA : Ext w1 w1.drew.drew := (show Ext w1 w1.drew.drew from (Ext.trans (Ext.drew _) (Ext.drew _)))
              have hIA : TIn w0 w1.drew.drew G g x 3 vp vv vc vo vk gk := hI1.ext heA
              refine LO.go rfl rfl (OW.enter rfl (by decide) (X.call Try.call8 (evl_cons (v := (i64 ((k : Int) + 1))) rfl (evl_cons (v := (i64 5)) rfl (evl_cons (v := vp) rfl (evl_cons (v := (i64 x.many)) rfl evl_nil))))) (new_ok ((k : Int) + 1) 5 x.many vp x.parts _ (Row.ext hI1.parts.rd heA)) ?_)
              rintro v65 wN ⟨_, hy9, hx66⟩
              have := World.grownBy.size hx66
              refine ⟨(Ext.trans (Ext.drew _) hx66), ?_⟩
              obtain ⟨gn, Fn, rfl, hCn, hFn⟩ := hy9 (hT.nw k hk)
              have heN := hx66
              refine WO.q rfl rfl rfl rfl (fun w' hE63 => (X.move rfl)) ?_
              refine WO.q rfl rfl rfl rfl (fun w' hE63 => (X.extract rfl rfl)) ?_
              refine WO.q rfl rfl rfl rfl (fun w' hE63 => (X.extract rfl rfl)) ?_
              refine WO.q rfl rfl rfl rfl (fun w' hE63 => (X.assign rfl)) ?_
              refine WO.q rfl rfl rfl rfl (fun w' hE63 => (X.assignI rfl)) ?_
              refine WO.nil ?_
              refine WL.nil ?_
              refine thn_n ?_
              refine WF.region ?_
              refine WL.va rfl rfl rfl (X.move (congrFun hF13 0)) ?_
              refine WL.va rfl rfl rfl (X.nilCheck rfl) ?_
              refine WL.va rfl rfl rfl (X.fieldAddrO (off := 11) rfl Try.underlying63 rfl rfl Try.sizeOf61) ?_
              refine WL.va rfl rfl rfl (X.loadO hx (Ext.trans (Ext.trans (Ext.trans hx2 (Ext.drew _)) (Ext.drew _)) hx66) rfl rfl Try.isAgg61) ?_
              refine WL.va rfl rfl rfl (X.moveI (congrFun hF13 5)) ?_
              refine WL.va rfl rfl rfl (X.move rfl) ?_
              refine WL.va rfl rfl rfl (X.idx (hI1.coords.rd) rfl rfl hk Try.underlying61 Try.sizeOf27) ?_
              have hcW : RowF wN G .coords 27 1 vc 3 (ptrs gk 3) := RowF.ext hIA.coords heN
              have hxW : Blk wN g 63 (Tb.cells x vp vv vc vo vk) := (hx.ext (Ext.trans (Ext.trans (Ext.trans hx2 (Ext.drew _)) (Ext.drew _)) hx66))
              have heM : Ext wN wN := (show Ext wN wN from (Ext.refl _))
              refine WL.op rfl (OW.storeOwn hcW.own (show k * 1 < 3 * 1 from by omega) rfl rfl rfl Try.sizeOf27 ?_)
              intro w67 ho70 hx69
              have hgX : Blk w67 g 63 (Tb.cells x vp vv vc vo vk) := hxW.keptR hx69 hcg
              have hoX : World.ownsRow w67 0 27 1 vc 3 (ptrs (updN gk k gn) 3) := by have q : World.ownsRow w67 _ 27 1 vc 3 ((ptrs gk 3).set (k * 1) (at_ gn)) := ho70; rw [Nat.mul_one, ptrs_set hk] at q; exact q
              have hCX : ChgS (fun b => b = g ∨ G b = some .coords) w1.drew.drew w67 := (ChgS.of_ext heN).row hx69 (fun b e => .inl (.inr (hIA.coords.fp b e)))
              have hcm : ChgS (fun b => b = g ∨ G b = some TR.coords) wN w67 := (ChgS.of_ext heM).row hx69 (fun b e => .inl (.inr (hIA.coords.fp b e)))
              have hTP8 : TP w0 w1.drew.drew w67 G g (x.made k) 3 := hIA.newCo (hCn.chgS hcm (fun b e q => by have q1 := hFn b e; rcases q with rfl | q; omega; have := Fp.lt hIA.below q; omega)) hFn (.inl ⟨rfl, hk⟩) hgX hoX (fun b e => .inl e) hCX
              replace hTP8 := TP.pre heA hTP8
              refine WL.nil ?_
              refine blk_n ?_
              refine thn_n ?_
              exact ⟨(by repeat (first | exact (Agree.refl _ F12) | refine Agree.put ?_ rfl | refine Agree.named hF13 ?_)), trivial, (by
      first
      | (have q : x.act K A = x.vote kp := by unfold Tb.act; rw [← hkne, ← hkpe, if_pos (by omega)]
         rw [q]; exact TP.pre hw1 hTP0)
      | (have q : x.act K A = x.start k := by unfold Tb.act; rw [← hkne, ← hke, if_neg (by omega), if_pos (by omega)]
         rw [q]; exact TP.pre hw1 hTP1)
      | (have q : x.act K A = x.less i := by unfold Tb.act; rw [← hkne, ← hie, if_neg (by omega), if_neg (by omega), if_pos (by omega), if_pos hp0]
         rw [q]; exact TP.pre hw1 hTP6)
      | (have q : x.act K A = { x with post := x.post ++ [x.post[i]'hin] } := by unfold Tb.act; rw [← hkne, ← hie, if_neg (by omega), if_neg (by omega), if_neg (by omega), if_pos (by omega), if_pos hp0, show x.post.getD i Msg.zero = x.post[i]'hin from by rw [List.getD_eq_getElem?_getD, List.getElem?_eq_getElem hin]; rfl]
         rw [q]; exact TP.pre hw1 (TP.pre heJ hTP))
      | (have q : x.act K A = x.made k := by unfold Tb.act; rw [← hkne, ← hke, if_neg (by omega), if_neg (by omega), if_neg (by omega), if_neg (by omega), if_pos (by omega)]
         rw [q]; exact TP.pre hw1 hTP8)
      | (have q : x.act K A = x.come i := by unfold Tb.act; rw [← hkne, ← hie, if_neg (by omega), if_neg (by omega), if_neg (by omega), if_neg (by omega), if_neg (by omega), if_pos hp0]
         rw [q]; exact TP.pre hw1 hTP2)
      | (have q : x.act K A = x := by
           unfold Tb.act; rw [← hkne, if_neg (by omega), if_neg (by omega)]
           first
           | rw [if_pos (by omega), if_neg hp0]
           | rw [if_neg (by omega), if_pos (by omega), if_neg hp0]
           | rw [if_neg (by omega), if_neg (by omega), if_neg (by omega), if_neg hp0]
         rw [q]; exact TP.pre hw1 (TP.refl ⟨_, _, _, _, _, _, hI1⟩ (by first | exact Ext.drew _ | exact Ext.refl _))))⟩
            · have gh6_61 := (of_decide_eq_false h6_61)
              have n8 : kn ≠ 8 := by have := gh6_61; omega
              refine WF.seq ?_
              refine WF.region ?_
              refine WL.va rfl rfl rfl (X.moveB (congrFun hF13 6)) ?_
              refine WL.nil ?_
              refine thn_n ?_
              refine WF.cond rfl (fun h7_70 => ?_) (fun h7_70 => ?_)
              · have gh7_70 := (of_decide_eq_true h7_70)
                have hp0 : 0 < x.post.length := by have := gh7_70; omega
                have hin := hi hp0
                refine WF.region ?_
                refine WL.va rfl rfl rfl (X.move (congrFun hF13 0)) ?_
                refine WL.va rfl rfl rfl (X.moveI (congrFun hF13 4)) ?_
                have he2 : Ext w1 w1.drew := (show Ext w1 w1.drew from (Ext.drew _))
                have hI2 := hI1.ext he2
                refine WL.c rfl rfl rfl (X.call Try.call26 (evl_cons (v := (at_ g)) rfl (evl_cons (v := (i64 (i : Int))) rfl evl_nil))) (tcome_ok w0 _ G g i x (x.post[i]'hin) ⟨_, _, _, _, _, _, hI2⟩ (List.getElem?_eq_getElem hin) (hT.msg _ (List.getElem_mem hin)).1 (hT.msg _ (List.getElem_mem hin)).2.1 (hT.msg _ (List.getElem_mem hin)).2.2 hT.ok (by omega)) ?_
                rintro v73 w72 hTP2
                replace hTP2 := TP.pre he2 hTP2
                refine WL.nil ?_
                refine blk_n ?_
                refine thn_n ?_
                exact ⟨(by repeat (first | exact (Agree.refl _ F12) | refine Agree.put ?_ rfl | refine Agree.named hF13 ?_)), trivial, (by
      first
      | (have q : x.act K A = x.vote kp := by unfold Tb.act; rw [← hkne, ← hkpe, if_pos (by omega)]
         rw [q]; exact TP.pre hw1 hTP0)
      | (have q : x.act K A = x.start k := by unfold Tb.act; rw [← hkne, ← hke, if_neg (by omega), if_pos (by omega)]
         rw [q]; exact TP.pre hw1 hTP1)
      | (have q : x.act K A = x.less i := by unfold Tb.act; rw [← hkne, ← hie, if_neg (by omega), if_neg (by omega), if_pos (by omega), if_pos hp0]
         rw [q]; exact TP.pre hw1 hTP6)
      | (have q : x.act K A = { x with post := x.post ++ [x.post[i]'hin] } := by unfold Tb.act; rw [← hkne, ← hie, if_neg (by omega), if_neg (by omega), if_neg (by omega), if_pos (by omega), if_pos hp0, show x.post.getD i Msg.zero = x.post[i]'hin from by rw [List.getD_eq_getElem?_getD, List.getElem?_eq_getElem hin]; rfl]
         rw [q]; exact TP.pre hw1 (TP.pre heJ hTP))
      | (have q : x.act K A = x.made k := by unfold Tb.act; rw [← hkne, ← hke, if_neg (by omega), if_neg (by omega), if_neg (by omega), if_neg (by omega), if_pos (by omega)]
         rw [q]; exact TP.pre hw1 hTP8)
      | (have q : x.act K A = x.come i := by unfold Tb.act; rw [← hkne, ← hie, if_neg (by omega), if_neg (by omega), if_neg (by omega), if_neg (by omega), if_neg (by omega), if_pos hp0]
         rw [q]; exact TP.pre hw1 hTP2)
      | (have q : x.act K A = x := by
           unfold Tb.act; rw [← hkne, if_neg (by omega), if_neg (by omega)]
           first
           | rw [if_pos (by omega), if_neg hp0]
           | rw [if_neg (by omega), if_pos (by omega), if_neg hp0]
           | rw [if_neg (by omega), if_neg (by omega), if_neg (by omega), if_neg hp0]
         rw [q]; exact TP.pre hw1 (TP.refl ⟨_, _, _, _, _, _, hI1⟩ (by first | exact Ext.drew _ | exact Ext.refl _))))⟩
              · have gh7_70 := (of_decide_eq_false h7_70)
                have hp0 : ¬ 0 < x.post.length := by have := gh7_70; omega
                refine WF.skip ?_
                refine blk_n ?_
                refine thn_n ?_
                exact ⟨(by repeat (first | exact (Agree.refl _ F12) | refine Agree.put ?_ rfl | refine Agree.named hF13 ?_)), trivial, (by
      first
      | (have q : x.act K A = x.vote kp := by unfold Tb.act; rw [← hkne, ← hkpe, if_pos (by omega)]
         rw [q]; exact TP.pre hw1 hTP0)
      | (have q : x.act K A = x.start k := by unfold Tb.act; rw [← hkne, ← hke, if_neg (by omega), if_pos (by omega)]
         rw [q]; exact TP.pre hw1 hTP1)
      | (have q : x.act K A = x.less i := by unfold Tb.act; rw [← hkne, ← hie, if_neg (by omega), if_neg (by omega), if_pos (by omega), if_pos hp0]
         rw [q]; exact TP.pre hw1 hTP6)
      | (have q : x.act K A = { x with post := x.post ++ [x.post[i]'hin] } := by unfold Tb.act; rw [← hkne, ← hie, if_neg (by omega), if_neg (by omega), if_neg (by omega), if_pos (by omega), if_pos hp0, show x.post.getD i Msg.zero = x.post[i]'hin from by rw [List.getD_eq_getElem?_getD, List.getElem?_eq_getElem hin]; rfl]
         rw [q]; exact TP.pre hw1 (TP.pre heJ hTP))
      | (have q : x.act K A = x.made k := by unfold Tb.act; rw [← hkne, ← hke, if_neg (by omega), if_neg (by omega), if_neg (by omega), if_neg (by omega), if_pos (by omega)]
         rw [q]; exact TP.pre hw1 hTP8)
      | (have q : x.act K A = x.come i := by unfold Tb.act; rw [← hkne, ← hie, if_neg (by omega), if_neg (by omega), if_neg (by omega), if_neg (by omega), if_neg (by omega), if_pos hp0]
         rw [q]; exact TP.pre hw1 hTP2)
      | (have q : x.act K A = x := by
           unfold Tb.act; rw [← hkne, if_neg (by omega), if_neg (by omega)]
           first
           | rw [if_pos (by omega), if_neg hp0]
           | rw [if_neg (by omega), if_pos (by omega), if_neg hp0]
           | rw [if_neg (by omega), if_neg (by omega), if_neg (by omega), if_neg hp0]
         rw [q]; exact TP.pre hw1 (TP.refl ⟨_, _, _, _, _, _, hI1⟩ (by first | exact Ext.drew _ | exact Ext.refl _))))⟩
  · rintro fCs4 wCs4 ⟨hACs4, hwCs4, hTA⟩
    obtain ⟨G9, n9, c9, hG9⟩ := hTA
    refine WF.region ?_
    refine WL.va rfl rfl rfl (X.move ((hACs4.eq 0).trans (congrFun hF13 0))) ?_
    have hV := fun G2 hG2 => values_ok w0 wCs4 G2 g (x.act K A) hG2 (act_ok K A hT)
    refine WL.c rfl rfl rfl (X.call Try.call27 (evl_cons (v := (at_ g)) rfl evl_nil)) (hV _ hG9) ?_
    rintro v76 w75 hTP9
    refine WL.nil ?_
    refine fin_n ?_
    exact TP.join n9 c9 hTP9

end Go.Proofs.Ytjmddkaokmdkbaa
