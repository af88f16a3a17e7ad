/- Ballots are bounded: the invariant of PcommitEnds' moves. -/
import Derived.Test.YtjmddkaokmdkbaaLo
namespace Go.Proofs.Ytjmddkaokmdkbaa
open Go Go.RowKit Kf
set_option maxRecDepth 20000
def top8 (x : Tb) : Int := 8 * x.starts + 3
/-- nothing is above the last start -/
structure Bd (x : Tb) (t : Int) : Prop where
  m : ∀ m ∈ x.post, m.Kind = 8 ∨ m.Kind = 10 → m.Ballot ≤ t
  p : ∀ a p, 1 ≤ a → a ≤ x.many → (ent x a p).Promised ≤ t
section
variable {g : Gh} {x : Tb} {k : Nat} {m : Msg} {t : Int}
theorem Bd.le (h : Bd x t) {t' : Int} (k : t ≤ t') : Bd x t' := ⟨fun m hm q => Int.le_trans (h.m m hm q) k, fun a p h1 h2 => Int.le_trans (h.p a p h1 h2) k⟩
theorem Bd.push (h : Bd x t) {l : List Msg} (hl : ∀ m ∈ l, m.Kind = 8 ∨ m.Kind = 10 → m.Ballot ≤ t) : Bd { x with post := x.post ++ l } t := ⟨fun m hm q => by
  rcases List.mem_append.1 hm with e | e
  · exact h.m m e q
  · exact hl m e q, h.p⟩
theorem Bd.less (h : Bd x t) (i : Nat) : Bd (x.less i) t := ⟨fun m hm q => by
  rcases List.mem_append.1 hm with e | e
  · exact h.m m (List.mem_of_mem_take e) q
  · exact h.m m (List.mem_of_mem_drop e) q, h.p⟩
theorem Bd.out1 (h : Bd x t) {o : Msg} (ho : o.Kind ≠ 8 ∧ o.Kind ≠ 10) : Bd (x.out1 o) t := by
  unfold Tb.out1
  split
  · refine h.push fun m hm q => ?_
    obtain ⟨i, hi, rfl⟩ := List.mem_map.1 hm
    have q : o.Kind = 8 ∨ o.Kind = 10 := q
    omega
  · split
    · refine h.push fun m hm q => ?_
      rw [List.mem_singleton] at hm; subst hm; omega
    · exact h
theorem stepA_kind (a : Acc) (id : Int) (m : Msg) : (stepA a id m).2.Kind = 9 ∨ (stepA a id m).2.Kind = 11 := by
  unfold stepA stepP stepO
  split
  · split <;> exact .inl rfl
  · dsimp only; split <;> split <;> exact .inr rfl
theorem stepA_prom {a : Acc} {id : Int} {m : Msg} {t : Int} (h1 : a.Promised ≤ t) (h2 : m.Ballot ≤ t) : (stepA a id m).1.Promised ≤ t := by
  unfold stepA stepP stepO
  split
  · split
    · exact h2
    · exact h1
  · dsimp only
    split
    · exact h2
    · exact h1
theorem Bd.take (h : Bd x t) (hm : MI g x m) (hX : XI g x) (hK : m.Kind = 8 ∨ m.Kind = 10) (hl : (x.kept m.To.toNat).length < 1024) (hb : m.Ballot ≤ t) : Bd (x.takeM m) t := by
  have hkd := hm.kind
  unfold MK at hkd
  have hT : 1 ≤ m.To ∧ m.To ≤ x.many := by rcases hkd with q | q | q | q <;> omega
  have hmay : may m = true := by
    unfold may
    rcases hK with q | q
    · simp [q]
    · rcases hkd with q2 | q2 | q2 | q2
      · omega
      · simp [q]; exact q2.2.2.2.2.1
      · omega
      · omega
  have he := ent_took hmay hT.1 hl hm.txn
  have hout := (takeA_ent (id := m.To) hmay hl m.Part hm.txn).2
  have hfold : x.takeM m = (x.took m).out1 (stepA (ent x m.To m.Part) m.To m).2 := by
    unfold Tb.takeM
    rw [hout]; rfl
  rw [hfold]
  have hX' := hX.many
  have hkk : (stepA (ent x m.To m.Part) m.To m).2.Kind ≠ 8 ∧ (stepA (ent x m.To m.Part) m.To m).2.Kind ≠ 10 := by rcases stepA_kind (ent x m.To m.Part) m.To m with q | q <;> omega
  have hbt : Bd (x.took m) t := ⟨h.m, fun a p h1 h2 => by
    rw [he]
    split
    · exact stepA_prom (h.p _ _ hT.1 hT.2) hb
    · exact h.p a p h1 h2⟩
  exact hbt.out1 hkk
theorem step_out {c : CC} {m o : Msg} (ho : o ∈ (c.step m).2) : o.Kind = 10 ∧ o.Ballot = c.num ∧ c.st = true := by
  unfold CC.step at ho
  split at ho
  · cases ho
  split at ho
  · cases ho
  split at ho
  · cases ho
  split at ho
  · cases ho
  unfold CC.promise at ho
  split at ho
  · cases ho
  rename_i h1
  split at ho
  · cases ho
  dsimp only at ho
  split at ho
  · cases ho
  obtain ⟨i, _, rfl⟩ := List.mem_map.1 ho
  refine ⟨rfl, rfl, ?_⟩
  cases e : c.st with
  | true => rfl
  | false => exact absurd (.inl e) h1
theorem Bd.step (h : Bd x t) (hX : XI g x) (hk : k < 3) (ht : 8 * x.starts + 3 ≤ t) : Bd (x.stepC k m) t := by
  refine ⟨fun m' hm' q => ?_, h.p⟩
  rcases List.mem_append.1 hm' with e | e
  · exact h.m m' e q
  · obtain ⟨_, e2, e3⟩ := step_out e
    obtain ⟨s, s1, s2, s3, _⟩ := (hX.co k hk).1.run e3
    rw [e2]; omega
end
/-- the invariant of moves, with ballots -/
def InvE (x : Tb) (n : Nat) : Prop := InvO x n ∧ Bd x (8 * x.starts + 3)
theorem Bd.of_keep {x x' : Tb} {t : Int} (h : Bd x t) (e1 : x'.post = x.post) (e2 : x'.kept = x.kept) (e3 : x'.many = x.many) : Bd x' t :=
  ⟨by rw [e1]; exact h.m, fun a p h1 h2 => by unfold ent; rw [e2]; exact h.p a p h1 (by rw [← e3]; exact h2)⟩
theorem val1_many (x : Tb) (k : Nat) : (x.val1 k).many = x.many ∧ (x.val1 k).parts = x.parts := by unfold Tb.val1; split <;> exact ⟨rfl, rfl⟩
theorem values_many (x : Tb) : x.values.many = x.many ∧ x.values.parts = x.parts ∧ x.values.co = x.co := by
  unfold Tb.values
  refine ⟨?_, ?_, ?_⟩
  · rw [(val1_many _ _).1, (val1_many _ _).1, (val1_many _ _).1]
  · rw [(val1_many _ _).2, (val1_many _ _).2, (val1_many _ _).2]
  · rw [val1_co, val1_co, val1_co]
theorem Bd.values {x : Tb} {t : Int} (h : Bd x t) : Bd x.values t := h.of_keep (values_keep x).2.2 (values_keep x).2.1 (values_many x).1
theorem come_bd {x : Tb} {n : Nat} {t : Int} (h : InvO x n) (hb : Bd x t) (ht : 8 * x.starts + 3 ≤ t) (hn : n < 1000) {i : Nat} (hi : i < x.post.length) : Bd (x.come i) t := by
  obtain ⟨⟨g, hX⟩, hs, hk⟩ := h
  have hm : x.post[i]? = some x.post[i] := List.getElem?_eq_getElem hi
  have hM := hX.ms _ (List.getElem_mem hi)
  have hML : MI g (x.less i) x.post[i] := hM.go (Goes.same rfl rfl rfl (Int.le_refl _) rfl rfl)
  by_cases hK : x.post[i].Kind = 8 ∨ x.post[i].Kind = 10
  · rw [come_t hm hK]
    exact (hb.less i).take hML (hX.less i) hK (by have := hk (x.post[i].To.toNat); show (x.kept _).length < 1024; omega) (hb.m _ (List.getElem_mem hi) hK)
  · have hK' : x.post[i].Kind ≠ 8 ∧ x.post[i].Kind ≠ 10 := by omega
    rw [come_s hm hK']
    have hkd := hM.kind
    unfold MK at hkd
    have hT : 1 ≤ x.post[i].To ∧ x.post[i].To ≤ 3 := by rcases hkd with q | q | q | q <;> omega
    exact (hb.less i).step (hX.less i) (by omega) ht
theorem start_out {c : CC} {b : Int} {o : Msg} (ho : o ∈ c.startM b) : o.Kind = 8 ∧ o.Ballot = b ∧ o.From = c.me := by
  obtain ⟨p, hp, h2⟩ := List.mem_flatMap.1 ho
  split at h2
  · obtain ⟨i, _, rfl⟩ := List.mem_map.1 h2
    exact ⟨rfl, rfl, rfl⟩
  · cases h2
theorem lawE : LawOne InvE := by
  refine ⟨fun x h => ⟨lawOne.start x h, ?_⟩, fun x n K A h hn hp => ⟨lawOne.move x n K A h.1 hn hp, ?_⟩, fun x n h => lawOne.ok x n h.1, fun x n h => lawOne.bad x n h.1, fun x n h => lawOne.one x n h.1, fun x n h => lawOne.two x n h.1⟩
  · obtain ⟨a, np, vs, _, _, _, _, _, rfl⟩ := h
    exact ⟨(fun m hm => by cases hm), fun a p _ _ => by show (0 : Int) ≤ 8 * 0 + 3; decide⟩
  · obtain ⟨hO, hb⟩ := h
    have h0 := hO
    obtain ⟨⟨g, hX⟩, hs, hk⟩ := h0
    have hpn : 0 < x.parts.length := by obtain ⟨p, hp⟩ := hX.parts_ne; exact List.length_pos_of_mem hp
    have hst := hX.st
    have key : Bd (x.act K A) (8 * (x.act K A).starts + 3) := by
      unfold Tb.act
      split
      · refine hb.push fun m hm q => ?_
        obtain ⟨i, hi, rfl⟩ := List.mem_map.1 hm
        show (0 : Int) ≤ _
        show 0 ≤ 8 * x.starts + 3
        omega
      split
      · refine ⟨fun m hm q => ?_, fun a p h1 h2 => ?_⟩
        · show m.Ballot ≤ 8 * (x.starts + 1) + 3
          have hk3 : pickN A 3 < 3 := pickN_lt (by omega)
          rcases List.mem_append.1 hm with e | e
          · have := hb.m m e q; omega
          · have := (start_out e).2.1; omega
        · have := hb.p a p h1 h2
          show (ent x a p).Promised ≤ 8 * (x.starts + 1) + 3
          omega
      split
      · split
        · exact hb.less _
        · exact hb
      split
      · split
        · rename_i hp
          refine hb.push fun m hm q => ?_
          rw [List.mem_singleton] at hm
          rw [hm, List.getD_eq_getElem?_getD, List.getElem?_eq_getElem (pickN_lt hp)] at q ⊢
          exact hb.m _ (List.getElem_mem _) q
        · exact hb
      split
      · exact hb.of_keep rfl rfl rfl
      split
      · rename_i hp
        have hc := come_bd hO hb (Int.le_refl _) (by omega) (pickN_lt (k := A) hp)
        have hcs : (x.come (pickN A x.post.length)).starts = x.starts := by
          unfold Tb.come
          dsimp only
          split
          · rfl
          · unfold Tb.takeM; rw [(outs_keep _ _).1]; rfl
        rw [hcs]; exact hc
      · exact hb
    show Bd (x.act K A).values (8 * (x.act K A).values.starts + 3)
    rw [(values_keep _).1]
    exact key.values
end Go.Proofs.Ytjmddkaokmdkbaa
