/- The law of PcommitOne. -/
import Derived.Test.YtjmddkaokmdkbaaLz
namespace Go.Proofs.Ytjmddkaokmdkbaa
open Go Go.RowKit Kf
set_option maxRecDepth 20000
section
variable {g g' : Gh} {x x' : Tb} {k : Nat} {m : Msg}
theorem valueFrom_cases {ch : Int → Int} (h : ∀ p, ch p = 0 ∨ ch p = 1 ∨ ch p = 2) : ∀ (l : List Int) (v : Int), v = 0 ∨ v = 1 → (valueFrom ch v l = 2 ∧ ∃ p ∈ l, ch p = 2) ∨ (valueFrom ch v l = 1 ∧ v = 1 ∧ ∀ p ∈ l, ch p = 1) ∨ valueFrom ch v l = 0
  | [], v, hv => by
    unfold valueFrom
    rcases hv with q | q
    · exact .inr (.inr q)
    · exact .inr (.inl ⟨q, q, fun p hp => by cases hp⟩)
  | p :: l, v, hv => by
    unfold valueFrom
    by_cases h2 : ch p = 2
    · rw [if_pos h2]; exact .inl ⟨rfl, p, by simp, h2⟩
    · rw [if_neg h2]
      by_cases h0 : ch p = 0
      · rw [if_pos h0]
        rcases valueFrom_cases h l 0 (.inl rfl) with ⟨q, p', hp', q2⟩ | ⟨_, q, _⟩ | q
        · exact .inl ⟨q, p', by simp [hp'], q2⟩
        · omega
        · exact .inr (.inr q)
      · rw [if_neg h0]
        rcases valueFrom_cases h l v hv with ⟨q, p', hp', q2⟩ | ⟨q, q2, q3⟩ | q
        · exact .inl ⟨q, p', by simp [hp'], q2⟩
        · refine .inr (.inl ⟨q, q2, fun p' hp' => ?_⟩)
          rcases List.mem_cons.1 hp' with e | e
          · subst e; rcases h p' with q | q | q <;> omega
          · exact q3 p' e
        · exact .inr (.inr q)
theorem co_value (h : XI g x) (hk : k < 3) : (x.co k).value = 0 ∨ ((x.co k).value = 1 ∧ ∀ p ∈ x.parts, Chosen x.many g p 1) ∨ ((x.co k).value = 2 ∧ ∃ p ∈ x.parts, Chosen x.many g p 2) := by
  obtain ⟨hc, _⟩ := h.co k hk
  have h3 : ∀ p, (x.co k).ch p = 0 ∨ (x.co k).ch p = 1 ∨ (x.co k).ch p = 2 := fun p => by
    rcases hc.ch p with q | q
    · exact .inl q
    · exact .inr q.1
  unfold CC.value
  rcases valueFrom_cases h3 (x.co k).parts 1 (.inr rfl) with ⟨q, p, hp, q2⟩ | ⟨q, _, q2⟩ | q
  · refine .inr (.inr ⟨q, p, by rw [← hc.parts]; exact hp, ?_⟩)
    rcases hc.ch p with q3 | q3
    · omega
    · rw [q2] at q3; exact q3
  · refine .inr (.inl ⟨q, fun p hp => ?_⟩)
    have q2 := q2 p (by rw [hc.parts]; exact hp)
    rcases hc.ch p with q3 | q3
    · omega
    · rw [q2] at q3; exact q3
  · exact .inl q
theorem XI.parts_ne (h : XI g x) : ∃ p, p ∈ x.parts := by
  obtain ⟨np, h1, h2, h3⟩ := h.parts
  exact ⟨1, by rw [h3]; exact List.mem_map.2 ⟨0, by simp; omega, rfl⟩⟩
theorem XI.val1 (h : XI g x) (hk : k < 3) : XI g (x.val1 k) := by
  unfold Tb.val1
  split
  · exact h
  rename_i hz
  have hv := co_value h hk
  have hbad : ¬ ((x.value ≠ 0 ∧ (x.co k).value ≠ x.value) ∨ ((x.co k).value ≠ 1 ∧ (x.co k).value ≠ 2)) := by
    rintro (⟨q1, q2⟩ | q)
    · rcases h.val with q | ⟨q, a1⟩ | ⟨q, p, hp, a1⟩
      · exact q1 q
      · rcases hv with q3 | ⟨q3, b1⟩ | ⟨q3, p, hp, b1⟩
        · exact hz q3
        · omega
        · have := h.core.agree (a1 p hp) b1; omega
      · rcases hv with q3 | ⟨q3, b1⟩ | ⟨q3, _⟩
        · exact hz q3
        · have := h.core.agree a1 (b1 p hp); omega
        · omega
    · rcases hv with q3 | ⟨q3, _⟩ | ⟨q3, _⟩ <;> omega
  rw [if_neg hbad]
  have k' : Goes g x g { x with bad := x.bad, value := (x.co k).value } := Goes.same rfl rfl rfl (Int.le_refl _) rfl rfl
  refine ⟨h.many, h.parts, h.votes, h.v0, h.v12, h.one, h.neg, h.safe, h.dv, h.ac, fun a p q1 q2 => ?_, h.st, fun i hi => ⟨(h.co i hi).1.go k' fun _ _ _ q => q, (h.co i hi).2⟩, fun m hm => (h.ms m hm).go k', h.bad, ?_⟩
  · have q := h.en a p q1 q2
    exact ⟨q.p0, q.b0, q.le, q.sm, q.v, q.d⟩
  · rcases hv with q | q | q
    · exact absurd q hz
    · exact .inr (.inl q)
    · exact .inr (.inr q)
theorem XI.values (h : XI g x) : XI g x.values := by
  have h1 := h.val1 (k := 0) (by omega)
  have h2 := h1.val1 (k := 1) (by omega)
  exact h2.val1 (k := 2) (by omega)
theorem val1_keep (x : Tb) (k : Nat) : (x.val1 k).starts = x.starts ∧ (x.val1 k).kept = x.kept ∧ (x.val1 k).post = x.post := by
  unfold Tb.val1; split <;> exact ⟨rfl, rfl, rfl⟩
theorem values_keep (x : Tb) : x.values.starts = x.starts ∧ x.values.kept = x.kept ∧ x.values.post = x.post := by
  unfold Tb.values
  obtain ⟨a1, a2, a3⟩ := val1_keep x 0
  obtain ⟨b1, b2, b3⟩ := val1_keep (x.val1 0) 1
  obtain ⟨c1, c2, c3⟩ := val1_keep ((x.val1 0).val1 1) 2
  exact ⟨by rw [c1, b1, a1], by rw [c2, b2, a2], by rw [c3, b3, a3]⟩
theorem outs_keep : ∀ (l : List Msg) (x : Tb), (l.foldl Tb.out1 x).starts = x.starts ∧ (l.foldl Tb.out1 x).kept = x.kept
  | [], _ => ⟨rfl, rfl⟩
  | m :: l, x => by
    rw [List.foldl_cons]
    obtain ⟨h1, h2⟩ := outs_keep l (x.out1 m)
    have : (x.out1 m).starts = x.starts ∧ (x.out1 m).kept = x.kept := by unfold Tb.out1; split; exact ⟨rfl, rfl⟩; split <;> exact ⟨rfl, rfl⟩
    exact ⟨by rw [h1, this.1], by rw [h2, this.2]⟩
/-- the invariant, by the number of moves -/
def InvO (x : Tb) (n : Nat) : Prop := (∃ g, XI g x) ∧ x.starts ≤ n ∧ ∀ a, (x.kept a).length ≤ n
theorem come_inv {n : Nat} (h : InvO x n) (hn : n < 1000) {i : Nat} (hi : i < x.post.length) : (∃ g, XI g (x.come i)) ∧ (x.come i).starts ≤ n ∧ ∀ a, ((x.come i).kept a).length ≤ n + 1 := by
  obtain ⟨⟨g, hX⟩, hs, hk⟩ := h
  have hm : x.post[i]? = some x.post[i] := List.getElem?_eq_getElem hi
  have hM := hX.ms _ (List.getElem_mem hi)
  have hL := hX.less i
  have hML : MI g (x.less i) x.post[i] := hM.go (Goes.same rfl rfl rfl (Int.le_refl _) rfl rfl)
  by_cases hK : x.post[i].Kind = 8 ∨ x.post[i].Kind = 10
  · rw [come_t hm hK]
    refine ⟨hL.take hML hK (by have := hk (x.post[i].To.toNat); show (x.kept _).length < 1024; omega), ?_, fun a => ?_⟩
    · unfold Tb.takeM; rw [(outs_keep _ _).1]; exact hs
    · unfold Tb.takeM; rw [(outs_keep _ _).2]
      show (updN x.kept _ _ a).length ≤ n + 1
      by_cases e : a = x.post[i].To.toNat
      · subst e; rw [updN_at]
        have := hk (x.post[i].To.toNat)
        have q := takeA_len2 (l := x.kept x.post[i].To.toNat) (id := x.post[i].To) (m := x.post[i])
        show (takeA (x.kept x.post[i].To.toNat) x.post[i].To x.post[i]).1.length ≤ n + 1
        omega
      · rw [updN_ne e]; have := hk a; omega
  · have hK' : x.post[i].Kind ≠ 8 ∧ x.post[i].Kind ≠ 10 := by omega
    rw [come_s hm hK']
    have hkd := hML.kind
    unfold MK at hkd
    have hT : 1 ≤ x.post[i].To ∧ x.post[i].To ≤ 3 := by rcases hkd with q | q | q | q <;> omega
    exact ⟨hL.step (by omega) (by show x.starts ≤ 1000; omega) hML hK', hs, fun a => by have := hk a; show (x.kept a).length ≤ n + 1; omega⟩
theorem move_inv {n : Nat} (K A : Int) (h : InvO x n) (hn : n < 1000) : InvO (x.move K A) (n + 1) := by
  have h0 := h
  obtain ⟨⟨g, hX⟩, hs, hk⟩ := h0
  have key : (∃ g, XI g (x.act K A)) ∧ (x.act K A).starts ≤ n + 1 ∧ ∀ a, ((x.act K A).kept a).length ≤ n + 1 := by
    have hk1 : ∀ a, (x.kept a).length ≤ n + 1 := fun a => by have := hk a; omega
    have hpn : 0 < x.parts.length := by obtain ⟨p, hp⟩ := hX.parts_ne; exact List.length_pos_of_mem hp
    unfold Tb.act
    split
    · exact ⟨⟨g, hX.vote (pickN_lt hpn)⟩, by show x.starts ≤ n + 1; omega, hk1⟩
    split
    · exact ⟨⟨g, hX.start (pickN_lt (by omega)) (by omega)⟩, by show x.starts + 1 ≤ n + 1; omega, hk1⟩
    split
    · split
      · exact ⟨⟨g, hX.less _⟩, by show x.starts ≤ n + 1; omega, hk1⟩
      · exact ⟨⟨g, hX⟩, by omega, hk1⟩
    split
    · split
      · rename_i hp
        refine ⟨⟨g, hX.push fun m hm => ?_⟩, by show x.starts ≤ n + 1; omega, hk1⟩
        rw [List.mem_singleton] at hm
        rw [hm, List.getD_eq_getElem?_getD, List.getElem?_eq_getElem (pickN_lt hp)]
        exact hX.ms _ (List.getElem_mem _)
      · exact ⟨⟨g, hX⟩, by omega, hk1⟩
    split
    · exact ⟨⟨g, hX.made (pickN_lt (by omega))⟩, by show x.starts ≤ n + 1; omega, hk1⟩
    split
    · rename_i hp
      obtain ⟨a, b, c⟩ := come_inv h hn (pickN_lt hp)
      exact ⟨a, by omega, c⟩
    · exact ⟨⟨g, hX⟩, by omega, hk1⟩
  obtain ⟨⟨g', hX'⟩, hs', hk'⟩ := key
  obtain ⟨v1, v2, _⟩ := values_keep (x.act K A)
  exact ⟨⟨g', hX'.values⟩, by show (x.act K A).values.starts ≤ _; rw [v1]; omega, fun a => by show ((x.act K A).values.kept a).length ≤ _; rw [v2]; exact hk' a⟩
theorem sm_in {m : Msg} (h : ∀ z ∈ m.ints, Sm z) : In64 m.ints := fun z hz => by
  have := h z hz
  unfold Sm at this
  omega
theorem inv_ok {n : Nat} (h : InvO x n) (hn : n < 1000) (hp : x.post.length ≤ 90000) : TbOk x := by
  obtain ⟨⟨g, hX⟩, hs, hk⟩ := h
  have hm7 := hX.many7
  have hst := hX.st
  obtain ⟨np, h1, h2, h3⟩ := hX.parts
  obtain ⟨a, h4, h5⟩ := hX.many
  refine ⟨fun k hk => (hX.co k hk).2, hm7, fun k hk => by rw [h5, h3]; exact nw_ok hk h1 h2 h4, by rw [h3, psN_len]; exact ⟨h1, h2⟩, hX.votes.1, by omega, hp, fun m hm => ?_⟩
  have hM := hX.ms m hm
  have hkd := hM.kind
  unfold MK at hkd
  refine ⟨sm_in hM.sm, fun q => ⟨?_, ?_, by have := hk m.To.toNat; omega⟩, fun q => ?_⟩
  · rcases hkd with q | q | q | q <;> omega
  · rcases hkd with q | q | q | q <;> omega
  · rcases hkd with q | q | q | q <;> omega
theorem began_inv (h : Began x) : InvO x 0 := by
  obtain ⟨a, np, vs, ha, h1, h2, hv, hv12, rfl⟩ := h
  refine ⟨⟨⟨fun p b => if b = 0 ∧ 1 ≤ p ∧ p ≤ np then vs.getD (p - 1).toNat 0 else 0, fun _ _ _ => False⟩, ?_⟩, Int.le_refl _, fun _ => Nat.le_refl _⟩
  have hg12 : ∀ i, i < np → vs.getD i 0 = 1 ∨ vs.getD i 0 = 2 := fun i hi => hv12 _ (by rw [List.getD_eq_getElem?_getD, List.getElem?_eq_getElem (by omega)]; exact List.getElem_mem _)
  have hz : ∀ p b : Int, (if b = 0 ∧ 1 ≤ p ∧ p ≤ np then vs.getD (p - 1).toNat 0 else 0) ≠ 0 → b = 0 := fun p b q => by
    by_cases e : b = 0 ∧ 1 ≤ p ∧ p ≤ np
    · exact e.1
    · rw [if_neg e] at q; exact absurd rfl q
  refine ⟨⟨a, ha, rfl⟩, ⟨np, h1, h2, rfl⟩, ⟨by rw [show (TbB (1 + 2 * (a : Int)) (psN np) (psN np) vs).votes = vs from rfl, show (TbB (1 + 2 * (a : Int)) (psN np) (psN np) vs).parts = psN np from rfl, psN_len, hv], hv12⟩, fun k hk => ?_, fun p b => ?_, fun p b q => ?_, fun p b q => ?_, fun p b q hb => ?_, fun a p b hd => hd.elim, fun a p b hd => hd.elim, fun a p _ _ => ?_, Int.le_refl _, fun k hk => ?_, fun m hm => (by cases hm), rfl, .inl rfl⟩
  · have hk : k < (psN np).length := hk
    show (if (0 : Int) = 0 ∧ 1 ≤ (psN np).getD k 0 ∧ (psN np).getD k 0 ≤ np then vs.getD ((psN np).getD k 0 - 1).toNat 0 else 0) = vs.getD k 0
    have e : (psN np).getD k 0 = (k : Int) + 1 := by rw [List.getD_eq_getElem?_getD, List.getElem?_eq_getElem hk]; simp [psN]
    rw [psN_len] at hk
    rw [e, if_pos ⟨rfl, by omega, by omega⟩]
    congr 1
    omega
  · show (if b = 0 ∧ 1 ≤ p ∧ p ≤ np then vs.getD (p - 1).toNat 0 else 0) = 0 ∨ _
    by_cases e : b = 0 ∧ 1 ≤ p ∧ p ≤ np
    · have := hg12 (p - 1).toNat (by omega)
      dsimp only
      rw [if_pos e]; exact .inr this
    · exact .inl (if_neg e)
  · have e := hz p b (by have q : (if b = 0 ∧ 1 ≤ p ∧ p ≤ np then vs.getD (p - 1).toNat 0 else 0) = 1 := q; omega)
    subst e; exact q
  · have e := hz p b q
    subst e
    exact ⟨Int.le_refl _, by show (0 : Int) ≤ 8 * 0 + 3; decide⟩
  · have e := hz p b q
    omega
  · exact ⟨Int.le_refl _, Int.le_refl _, Int.le_refl _, by show -100000 ≤ (0 : Int) ∧ (0 : Int) ≤ 100000; decide, .inl rfl, fun q => absurd rfl q⟩
  · exact ⟨⟨rfl, rfl, rfl, rfl, (fun p b v f hf => by cases hf), (fun p => .inl rfl), (fun hs => by cases hs)⟩, (Rel.new (nw_ok hk h1 h2 ha)).ok⟩
theorem part_at (h : XI g x) {p : Int} (hp : p ∈ x.parts) : ∃ v ∈ x.votes, g.V p 0 = v := by
  obtain ⟨i, hi, rfl⟩ := List.mem_iff_getElem.1 hp
  have q := h.v0 i hi
  rw [List.getD_eq_getElem?_getD, List.getElem?_eq_getElem hi, List.getD_eq_getElem?_getD, List.getElem?_eq_getElem (by rw [h.votes.1]; exact hi)] at q
  exact ⟨_, List.getElem_mem (by rw [h.votes.1]; exact hi), q⟩
theorem lawOne : LawOne InvO := by
  refine ⟨fun x h => began_inv h, fun x n K A h hn _ => move_inv K A h (by omega), fun x n h hn hp => inv_ok h (by omega) (by omega), fun x n h => ?_, fun x n h hv => ?_, fun x n h hv => ?_⟩
  · obtain ⟨⟨g, hX⟩, _⟩ := h; exact hX.bad
  · obtain ⟨⟨g, hX⟩, _⟩ := h
    have hall : ∀ p ∈ x.parts, Chosen x.many g p 1 := by
      rcases hX.val with q | ⟨_, q⟩ | ⟨q, _⟩
      · omega
      · exact q
      · omega
    cases e : abortB x.votes with
    | false => rfl
    | true =>
      unfold abortB at e
      obtain ⟨v, hv2, hv3⟩ := List.any_eq_true.1 e
      have hv3 : v = 2 := by simpa using hv3
      obtain ⟨i, hi, rfl⟩ := List.mem_iff_getElem.1 hv2
      have hi' : i < x.parts.length := by rw [← hX.votes.1]; exact hi
      have q := hX.v0 i hi'
      have hm : x.parts.getD i 0 ∈ x.parts := by rw [List.getD_eq_getElem?_getD, List.getElem?_eq_getElem hi']; exact List.getElem_mem _
      rw [List.getD_eq_getElem?_getD (l := x.votes), List.getElem?_eq_getElem hi] at q
      obtain ⟨_, b, hb, _⟩ := hall _ hm
      have := hX.one _ b hb
      rw [this] at q
      have q : (1 : Int) = x.votes[i] := q
      omega
  · obtain ⟨⟨g, hX⟩, _⟩ := h
    obtain ⟨p, hp, _, b, hb, hmj⟩ : ∃ p ∈ x.parts, Chosen x.many g p 2 := by
      rcases hX.val with q | ⟨q, _⟩ | ⟨_, q⟩
      · omega
      · omega
      · exact q
    obtain ⟨f, hf, _⟩ := hmj.both hmj (by have := hX.many7; omega)
    obtain ⟨d1, _, _, d4⟩ := hX.dv _ _ _ hf
    by_cases h0 : 0 < b
    · exact .inr (d4 h0)
    · have := (hX.neg _ _ d1).1
      have hb0 : b = 0 := by omega
      subst hb0
      obtain ⟨v, hv, hvp⟩ := part_at hX hp
      refine .inl ?_
      unfold abortB
      exact List.any_eq_true.2 ⟨v, hv, by rw [← hvp, hb]; rfl⟩
end
end Go.Proofs.Ytjmddkaokmdkbaa
