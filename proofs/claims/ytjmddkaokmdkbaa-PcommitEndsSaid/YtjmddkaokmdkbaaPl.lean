/- The code's coordinator and the document's do the same. -/
import Derived.Test.YtjmddkaokmdkbaaPcoS
namespace Go.Proofs.Ytjmddkaokmdkbaa
open Go Go.RowKit Kf

theorem mem_addF {l : List Int} {f x : Int} : x ∈ addF l f ↔ x ∈ l ∨ x = f := by
  unfold addF; split
  · constructor
    · exact .inl
    · rintro (h | rfl); exact h; assumption
  · simp
theorem nodup_addF {l : List Int} {f : Int} (h : l.Nodup) : (addF l f).Nodup := by
  unfold addF; split
  · exact h
  · rw [List.nodup_append]
    refine ⟨h, by simp, fun a ha b hb e => ?_⟩
    rw [List.mem_singleton] at hb; subst hb; subst e; contradiction
theorem addF_ge (l : List Int) (f : Int) : l.length ≤ (addF l f).length := by unfold addF; split <;> simp
/-- so many of 1..n are in a list -/
theorem cnt_list {l : List Int} {n : Nat} (h : l.Nodup) (hr : ∀ f ∈ l, 1 ≤ f ∧ f ≤ n) : ((List.range n).filter fun (i : Nat) => decide ((i : Int) + 1 ∈ l)).length = l.length := by
  apply Nat.le_antisymm
  · have hd : (((List.range n).filter fun (i : Nat) => decide ((i : Int) + 1 ∈ l)).map fun (i : Nat) => (i : Int) + 1).Nodup := by
      rw [List.Nodup, List.pairwise_map]
      exact (List.nodup_range.sublist List.filter_sublist).imp (fun hne e => hne (by omega))
    have := nodup_sub hd (m := l) (fun x hx => by
      obtain ⟨i, hi, rfl⟩ := List.mem_map.1 hx
      exact of_decide_eq_true (List.mem_filter.1 hi).2)
    simpa using this
  · have := nodup_sub h (m := ((List.range n).filter fun (i : Nat) => decide ((i : Int) + 1 ∈ l)).map fun (i : Nat) => (i : Int) + 1) (fun x hx => by
      have := hr x hx
      refine List.mem_map.2 ⟨(x - 1).toNat, List.mem_filter.2 ⟨by simp; omega, decide_eq_true ?_⟩, by omega⟩
      rw [show (((x - 1).toNat : Nat) : Int) + 1 = x by omega]; exact hx)
    simpa using this
/-- a majority has accepted a value of a part, in a ballot -/
def Maj (A : KeyN 3 → List Int) (nac p v : Int) : Prop := ∃ b, nac < 2 * ((A (k3 p b v)).length : Int)
/-- the code's coordinator, and the document's -/
structure Rel (c : CC) (r : RC) : Prop where
  ok : c.ok
  me : c.me = r.me
  txn : c.txn = r.txn
  nac : c.nac = r.nac
  parts : c.parts = r.parts
  st : c.st = r.st
  top : c.top = r.top
  num : c.num = r.bal
  A : ∀ p n v f, f ∈ c.A (k3 p n v) ↔ (⟨p, f, n, 0, v⟩ : Hd) ∈ r.acc
  ch1 : ∀ p, c.ch p = 2 ↔ Maj c.A c.nac p 2
  ch2 : ∀ p, c.ch p = 0 ↔ ¬ Maj c.A c.nac p 1 ∧ ¬ Maj c.A c.nac p 2
  ch3 : ∀ p, c.ch p = 0 ∨ c.ch p = 1 ∨ c.ch p = 2
  pr : c.st = true → ∀ p, c.pr p = (r.ofP p).map fun h => (h.From, h.Index, h.Value)
  po : c.st = true → ∀ p, 0 < c.po p ↔ p ∈ r.prop
theorem Rel.cnt {c : CC} {r : RC} (h : Rel c r) (p b v : Int) : (r.cnt p b v r.nac.toNat : Int) = (c.A (k3 p b v)).length := by
  have h1 := cnt_list (n := r.nac.toNat) (h.ok.A (k3 p b v)).1 (fun f hf => by have := (h.ok.A (k3 p b v)).2 f hf; have := h.nac; omega)
  unfold RC.cnt
  rw [← h1]
  congr 2
  apply List.filter_congr
  intro i _
  exact decide_eq_decide.2 (h.A p b v _).symm
theorem Rel.chosen {c : CC} {r : RC} (h : Rel c r) (p v : Int) : r.chosen p v = true ↔ Maj c.A c.nac p v := by
  unfold RC.chosen
  rw [List.any_eq_true]
  constructor
  · rintro ⟨x, _, hx⟩
    have := of_decide_eq_true hx
    rw [h.cnt] at this
    exact ⟨x.Ballot, by rw [h.nac]; exact this⟩
  · rintro ⟨b, hb⟩
    have h1 := h.ok.nac
    obtain ⟨f, hf⟩ := List.exists_mem_of_length_pos (l := c.A (k3 p b v)) (by omega)
    refine ⟨_, (h.A p b v f).1 hf, decide_eq_true ?_⟩
    show r.nac < 2 * (r.cnt p b v r.nac.toNat : Int)
    rw [h.cnt, ← h.nac]; exact hb
theorem Rel.value {c : CC} {r : RC} (h : Rel c r) : c.value = r.value := by
  have key : ∀ (l : List Int) (b : Bool), valueFrom c.ch (if b then 1 else 0) l = r.valueFrom b l := by
    intro l
    induction l with
    | nil => intro b; rfl
    | cons p l ih =>
      intro b
      unfold valueFrom RC.valueFrom
      by_cases h2 : Maj c.A c.nac p 2
      · rw [if_pos ((h.ch1 p).2 h2), if_pos ((h.chosen p 2).2 h2)]
      · rw [if_neg (fun e => h2 ((h.ch1 p).1 e)), if_neg (fun e => h2 ((h.chosen p 2).1 e)), ← ih]
        by_cases h1 : Maj c.A c.nac p 1
        · rw [(h.chosen p 1).2 h1, if_neg (fun e => ((h.ch2 p).1 e).1 h1), Bool.and_true]
        · rw [show r.chosen p 1 = false from Bool.eq_false_iff.2 fun e => h1 ((h.chosen p 1).1 e), if_pos ((h.ch2 p).2 ⟨h1, h2⟩)]
          simp
  have := key c.parts true
  unfold CC.value RC.value
  rw [← h.parts, ← this]; rfl
theorem Rel.start {c : CC} {r : RC} (h : Rel c r) (b : Int) : Rel (c.started b) (r.started b) ∧ c.startM b = r.startM b r.parts := by
  refine ⟨⟨⟨h.ok.nac, h.ok.A, fun p => ⟨List.nodup_nil, fun x hx => by cases hx⟩, h.ok.parts⟩, h.me, h.txn, h.nac, h.parts, rfl, h.top, rfl, h.A, h.ch1, h.ch2, h.ch3, fun _ p => rfl, fun _ p => ?_⟩, ?_⟩
  · show (0 : Int) < 0 ↔ p ∈ []
    simp
  · unfold CC.startM RC.startM
    rw [← h.parts]
    congr 1
    funext p
    have e : (c.started b).all (asks p) = (r.started b).all (asks p) := by
      show allM c.me c.txn b c.nac _ = allM r.me r.txn b r.nac _
      rw [h.me, h.txn, h.nac]
    rw [e]
    by_cases h0 : c.ch p = 0
    · obtain ⟨h1, h2⟩ := (h.ch2 p).1 h0
      rw [if_pos h0, if_pos ⟨Bool.eq_false_iff.2 fun e => h1 ((h.chosen p 1).1 e), Bool.eq_false_iff.2 fun e => h2 ((h.chosen p 2).1 e)⟩]
    · rw [if_neg h0, if_neg]
      rintro ⟨e1, e2⟩
      exact h0 ((h.ch2 p).2 ⟨(fun e => by rw [(h.chosen p 1).2 e] at e1; cases e1), fun e => by rw [(h.chosen p 2).2 e] at e2; cases e2⟩)
theorem Maj_upd {A : KeyN 3 → List Int} {nac P N V f p v : Int} : Maj (updK A (k3 P N V) (addF (A (k3 P N V)) f)) nac p v ↔ Maj A nac p v ∨ (p = P ∧ v = V ∧ nac < 2 * ((addF (A (k3 P N V)) f).length : Int)) := by
  have hge := addF_ge (A (k3 P N V)) f
  constructor
  · rintro ⟨b, hb⟩
    unfold updK at hb
    split at hb
    · rename_i e
      obtain ⟨rfl, rfl, rfl⟩ := k3_inj.1 e
      exact .inr ⟨rfl, rfl, hb⟩
    · exact .inl ⟨b, hb⟩
  · rintro (⟨b, hb⟩ | ⟨rfl, rfl, hb⟩)
    · refine ⟨b, ?_⟩
      unfold updK
      split
      · rename_i e; rw [e] at hb; omega
      · exact hb
    · exact ⟨N, by unfold updK; rw [if_pos rfl]; exact hb⟩
theorem updK_k {A : KeyN 3 → List Int} {k : KeyN 3} {l : List Int} {P : List Int → Prop} (h1 : ∀ q, P (A q)) (h2 : P l) (q : KeyN 3) : P (updK A k l q) := by
  unfold updK; split
  · exact h2
  · exact h1 q
theorem CC.ok.accept {c : CC} {m : Msg} (h : c.ok) (hf : 1 ≤ m.From ∧ m.From ≤ c.nac) : (c.accept m).ok := by
  unfold CC.accept
  split
  · exact h
  · refine ⟨h.nac, fun q => ?_, h.pr, h.parts⟩
    exact updK_k (P := fun l => l.Nodup ∧ ∀ f ∈ l, 1 ≤ f ∧ f ≤ c.nac) h.A ⟨nodup_addF (h.A _).1, fun f hm => (mem_addF.1 hm).elim (fun e => (h.A _).2 f e) (fun e => e ▸ hf)⟩ q
theorem ch_upd {ch : Int → Int} {A : KeyN 3 → List Int} {nac P N V f : Int} (hV : V = 1 ∨ V = 2) (h1 : ∀ p, ch p = 2 ↔ Maj A nac p 2) (h2 : ∀ p, ch p = 0 ↔ ¬ Maj A nac p 1 ∧ ¬ Maj A nac p 2) (h3 : ∀ p, ch p = 0 ∨ ch p = 1 ∨ ch p = 2) (A' : KeyN 3 → List Int) (hA : A' = updK A (k3 P N V) (addF (A (k3 P N V)) f)) (ch' : Int → Int)
    (hc : ch' = if nac < 2 * ((addF (A (k3 P N V)) f).length : Int) then updI ch P (max (ch P) V) else ch) :
    (∀ p, ch' p = 2 ↔ Maj A' nac p 2) ∧ (∀ p, ch' p = 0 ↔ ¬ Maj A' nac p 1 ∧ ¬ Maj A' nac p 2) ∧ ∀ p, ch' p = 0 ∨ ch' p = 1 ∨ ch' p = 2 := by
  have key : ∀ p, (ch' p = 2 ↔ Maj A' nac p 2) ∧ (ch' p = 0 ↔ ¬ Maj A' nac p 1 ∧ ¬ Maj A' nac p 2) ∧ (ch' p = 0 ∨ ch' p = 1 ∨ ch' p = 2) := by
    intro p
    subst hA
    rw [Maj_upd, Maj_upd]
    have a := h1 p
    have b := h2 p
    have d := h3 p
    by_cases big : nac < 2 * ((addF (A (k3 P N V)) f).length : Int)
    · rw [if_pos big] at hc
      by_cases hp : p = P
      · subst hp
        have e : ch' p = max (ch p) V := by rw [hc]; exact updI_at
        rw [e]
        rcases hV with rfl | rfl <;> by_cases m1 : Maj A nac p 1 <;> by_cases m2 : Maj A nac p 2 <;> simp [m1, m2, big] at a b ⊢ <;> omega
      · have e : ch' p = ch p := by rw [hc]; exact updI_ne hp
        rw [e]
        simp only [hp, false_and, or_false]
        exact ⟨a, b, d⟩
    · rw [if_neg big] at hc
      subst hc
      simp only [big, and_false, or_false]
      exact ⟨a, b, d⟩
  exact ⟨fun p => (key p).1, fun p => (key p).2.1, fun p => (key p).2.2⟩
theorem Rel.accept {c : CC} {r : RC} {m : Msg} (h : Rel c r) (hf : 1 ≤ m.From ∧ m.From ≤ c.nac) (hk : m.Kind = 11) : Rel (c.accept m) (r.accept m) := by
  have hok := h.ok.accept hf
  by_cases hv : m.Value ≠ 1 ∧ m.Value ≠ 2
  · have e1 : c.accept m = c := if_pos hv
    have e2 : r.accept m = r := if_neg (by rintro ⟨_, e | e⟩; exact hv.1 e; exact hv.2 e)
    rw [e1, e2]; exact h
  · have hV : m.Value = 1 ∨ m.Value = 2 := by omega
    have e1 : c.accept m = { c with A := updK c.A (k3 m.Part m.Ballot m.Value) (addF (c.A (k3 m.Part m.Ballot m.Value)) m.From), ch := if (c.nac : Int) < 2 * ((addF (c.A (k3 m.Part m.Ballot m.Value)) m.From).length : Int) then updI c.ch m.Part (max (c.ch m.Part) m.Value) else c.ch } := if_neg hv
    have e2 : r.accept m = { r with acc := r.acc ++ [hdA m] } := if_pos ⟨hk, hV⟩
    rw [e1] at hok ⊢
    rw [e2]
    obtain ⟨c1, c2, c3⟩ := ch_upd (N := m.Ballot) (f := m.From) (P := m.Part) hV h.ch1 h.ch2 h.ch3 _ rfl _ rfl
    refine ⟨hok, h.me, h.txn, h.nac, h.parts, h.st, h.top, h.num, fun p n v f => ?_, c1, c2, c3, h.pr, h.po⟩
    show f ∈ updK c.A _ _ (k3 p n v) ↔ _ ∈ r.acc ++ [hdA m]
    rw [List.mem_append, List.mem_singleton]
    unfold updK
    split
    · rename_i e
      obtain ⟨rfl, rfl, rfl⟩ := k3_inj.1 e
      rw [mem_addF, h.A]
      constructor
      · rintro (h | rfl); exact .inl h; exact .inr rfl
      · rintro (h | h); exact .inl h; exact .inr (by have := congrArg Hd.From h; exact this)
    · rename_i e
      rw [h.A]
      constructor
      · exact .inl
      · rintro (h | h)
        · exact h
        · exact absurd (k3_inj.2 ⟨congrArg Hd.Part h, congrArg Hd.Ballot h, congrArg Hd.Value h⟩) e
abbrev toP (h : Hd) : P3 := (h.From, h.Index, h.Value)
theorem pick_best (l : List Hd) : pickV (l.map toP) = bestV l := by
  have key : ∀ (l : List Hd) (s : Int × Int) (b : Hd × Bool), (b.2 = true → s = (b.1.Value, b.1.Index) ∧ (b.1.Value = 1 ∨ b.1.Value = 2)) → (b.2 = false → s = (0, 0) ∧ b.1.Value = 2) →
      (let v := ((l.map toP).foldl pick1 s).1; if v = 0 then 2 else v) = (l.foldl best1 b).1.Value := by
    intro l
    induction l with
    | nil =>
      intro s b h1 h2
      simp only [List.map_nil, List.foldl_nil]
      cases hb : b.2 with
      | true => obtain ⟨e, q⟩ := h1 hb; rw [e]; rcases q with q | q <;> simp [q]
      | false => obtain ⟨e, q⟩ := h2 hb; rw [e, q]; simp
    | cons x l ih =>
      intro s b h1 h2
      simp only [List.map_cons, List.foldl_cons]
      have step : (((best1 b x).2 = true → pick1 s (toP x) = ((best1 b x).1.Value, (best1 b x).1.Index) ∧ ((best1 b x).1.Value = 1 ∨ (best1 b x).1.Value = 2))) ∧ ((best1 b x).2 = false → pick1 s (toP x) = (0, 0) ∧ (best1 b x).1.Value = 2) := by
        cases hb : b.2 with
        | true =>
          obtain ⟨e, q⟩ := h1 hb
          have hs1 : ¬ s.1 = 0 := by rw [e]; simp only; omega
          have hs2 : s.2 = b.1.Index := by rw [e]
          by_cases hx : (x.Value = 1 ∨ x.Value = 2) ∧ b.1.Index < x.Index
          · have e1 : pick1 s (toP x) = (x.Value, x.Index) := if_pos ⟨hx.1, .inr (by rw [hs2]; exact hx.2)⟩
            have e2 : best1 b x = (x, true) := if_pos ⟨hx.1, .inr hx.2⟩
            rw [e1, e2]
            exact ⟨fun _ => ⟨rfl, hx.1⟩, fun e => by cases e⟩
          · have e1 : pick1 s (toP x) = s := if_neg (by rintro ⟨a, d | d⟩; exact hs1 d; exact hx ⟨a, by rw [← hs2]; exact d⟩)
            have e2 : best1 b x = b := if_neg (by rintro ⟨a, d | d⟩; rw [hb] at d; cases d; exact hx ⟨a, d⟩)
            rw [e1, e2]
            exact ⟨fun _ => ⟨e, q⟩, fun e => by rw [hb] at e; cases e⟩
        | false =>
          obtain ⟨e, q⟩ := h2 hb
          have hs1 : s.1 = 0 := by rw [e]
          by_cases hx : x.Value = 1 ∨ x.Value = 2
          · have e1 : pick1 s (toP x) = (x.Value, x.Index) := if_pos ⟨hx, .inl hs1⟩
            have e2 : best1 b x = (x, true) := if_pos ⟨hx, .inl hb⟩
            rw [e1, e2]
            exact ⟨fun _ => ⟨rfl, hx⟩, fun e => by cases e⟩
          · have e1 : pick1 s (toP x) = s := if_neg (fun a => hx a.1)
            have e2 : best1 b x = b := if_neg (fun a => hx a.1)
            rw [e1, e2]
            exact ⟨(fun e => by rw [hb] at e; cases e), fun _ => ⟨e, q⟩⟩
      exact ih _ _ step.1 step.2
  exact key l (0, 0) (⟨0, 0, 0, 0, 2⟩, false) (fun e => by cases e) (fun _ => ⟨rfl, rfl⟩)
theorem CC.ok.promise {c : CC} {m : Msg} (h : c.ok) (hf : 1 ≤ m.From ∧ m.From ≤ c.nac) : (c.promise m).1.ok := by
  by_cases h1 : c.st = false ∨ m.Ballot ≠ c.num ∨ 0 < c.po m.Part
  · rw [CC.promise_a h1]; exact h
  · by_cases h2 : (c.pr m.Part).any (fun p => p.1 == m.From) = true
    · rw [CC.promise_b h1 h2]; exact h
    · have key : ∀ p, ((updI c.pr m.Part (c.pr m.Part ++ [(m.From, m.Index, m.Value)]) p).map Prod.fst).Nodup ∧ ∀ x ∈ updI c.pr m.Part (c.pr m.Part ++ [(m.From, m.Index, m.Value)]) p, 1 ≤ x.1 ∧ x.1 ≤ c.nac := by
        intro p
        unfold updI
        split
        · rw [List.map_append, List.nodup_append]
          refine ⟨⟨(h.pr _).1, by simp, fun a ha b hb e => ?_⟩, fun x hx => ?_⟩
          · simp only [List.map_cons, List.map_nil, List.mem_singleton] at hb
            subst hb; subst e
            obtain ⟨x, hx, e⟩ := List.mem_map.1 ha
            exact h2 (List.any_eq_true.2 ⟨x, hx, beq_iff_eq.2 e⟩)
          · rcases List.mem_append.1 hx with hx | hx
            · exact (h.pr _).2 x hx
            · rw [List.mem_singleton] at hx; subst hx; exact hf
        · exact h.pr p
      by_cases h3 : 2 * ((c.pr m.Part ++ [(m.From, m.Index, m.Value)]).length : Int) ≤ c.nac
      · rw [CC.promise_c h1 h2 h3]; exact ⟨h.nac, h.A, key, h.parts⟩
      · rw [CC.promise_d h1 h2 h3]; exact ⟨h.nac, h.A, key, h.parts⟩
theorem CC.ok.step {c : CC} {m : Msg} (h : c.ok) : (c.step m).1.ok := by
  by_cases h1 : m.Txn ≠ c.txn ∨ m.From < 1 ∨ c.nac < m.From ∨ m.Part ∉ c.parts
  · rw [CC.step_a h1]; exact h
  · have hf : 1 ≤ m.From ∧ m.From ≤ c.nac := ⟨Int.not_lt.1 fun e => h1 (.inr (.inl e)), Int.not_lt.1 fun e => h1 (.inr (.inr (.inl e)))⟩
    by_cases h2 : m.Kind ≠ 11 ∧ m.Kind ≠ 9
    · rw [CC.step_b h1 h2]; exact h
    · by_cases h3 : m.Ok = false
      · rw [CC.step_c h1 h2 h3]; exact ⟨h.nac, h.A, h.pr, h.parts⟩
      · by_cases h4 : m.Kind = 11
        · rw [CC.step_d h1 h2 h3 h4]; exact h.accept hf
        · rw [CC.step_e h1 h2 h3 h4]; exact h.promise hf
theorem CC.ok.started {c : CC} (h : c.ok) (b : Int) : (c.started b).ok := ⟨h.nac, h.A, fun p => ⟨List.nodup_nil, fun x hx => by cases hx⟩, h.parts⟩
theorem ofP_app {r : RC} {p : Int} {h : Hd} {l : List Hd} : (RC.ofP { r with prom := r.prom ++ [h] } p) = r.ofP p ++ (if h.Part = p then [h] else []) := by
  unfold RC.ofP
  rw [List.filter_append]
  by_cases e : h.Part = p <;> simp [e]
theorem Rel.promise {c : CC} {r : RC} {m : Msg} (h : Rel c r) (hf : 1 ≤ m.From ∧ m.From ≤ c.nac) : Rel (c.promise m).1 (r.promise m).1 ∧ (c.promise m).2 = (r.promise m).2 := by
  have hok := h.ok.promise hf
  by_cases h1 : c.st = false ∨ m.Ballot ≠ c.num ∨ 0 < c.po m.Part
  · have h1' : r.st = false ∨ m.Ballot ≠ r.bal ∨ m.Part ∈ r.prop := by
      cases hs : c.st with
      | false => exact .inl (h.st ▸ hs)
      | true =>
        rcases h1 with e | e | e
        · rw [hs] at e; cases e
        · exact .inr (.inl (h.num ▸ e))
        · exact .inr (.inr ((h.po hs _).1 e))
    rw [CC.promise_a h1, RC.promise_a h1']; exact ⟨h, rfl⟩
  · have hs : c.st = true := by cases e : c.st with | true => rfl | false => exact absurd (.inl e) h1
    have h1' : ¬ (r.st = false ∨ m.Ballot ≠ r.bal ∨ m.Part ∈ r.prop) := by
      rintro (e | e | e)
      · rw [← h.st, hs] at e; cases e
      · exact h1 (.inr (.inl (h.num.symm ▸ e)))
      · exact h1 (.inr (.inr ((h.po hs _).2 e)))
    have hpr := h.pr hs
    have han : (c.pr m.Part).any (fun p => p.1 == m.From) = (r.ofP m.Part).any (fun h => h.From == m.From) := by
      rw [hpr, List.any_map]; rfl
    by_cases h2 : (c.pr m.Part).any (fun p => p.1 == m.From) = true
    · rw [CC.promise_b h1 h2, RC.promise_b h1' (han ▸ h2)]; exact ⟨h, rfl⟩
    · have h2' : ¬ (r.ofP m.Part).any (fun h => h.From == m.From) = true := han ▸ h2
      have hl : c.pr m.Part ++ [(m.From, m.Index, m.Value)] = (r.ofP m.Part ++ [hdP m]).map toP := by rw [hpr, List.map_append]; rfl
      have hlen : ((c.pr m.Part ++ [(m.From, m.Index, m.Value)]).length : Int) = (r.ofP m.Part ++ [hdP m]).length := by rw [hl, List.length_map]
      have hprn : ∀ p, updI c.pr m.Part (c.pr m.Part ++ [(m.From, m.Index, m.Value)]) p = ((r.ofP p ++ (if m.Part = p then [hdP m] else [])).map toP) := by
        intro p
        unfold updI
        by_cases e : p = m.Part
        · subst e; rw [if_pos rfl, if_pos rfl, hl]
        · rw [if_neg e, if_neg (fun q => e q.symm), List.append_nil, hpr]
      by_cases h3 : 2 * ((c.pr m.Part ++ [(m.From, m.Index, m.Value)]).length : Int) ≤ c.nac
      · have h3' : 2 * ((r.ofP m.Part ++ [hdP m]).length : Int) ≤ r.nac := by rw [← h.nac, ← hlen]; exact h3
        rw [CC.promise_c h1 h2 h3] at hok ⊢
        rw [RC.promise_c h1' h2' h3']
        exact ⟨⟨hok, h.me, h.txn, h.nac, h.parts, h.st, h.top, h.num, h.A, h.ch1, h.ch2, h.ch3, fun _ p => by
          refine (hprn p).trans ?_
          show _ = (RC.ofP { r with prom := r.prom ++ [hdP m] } p).map _
          rw [ofP_app (l := [])]; rfl, h.po⟩, rfl⟩
      · have h3' : ¬ 2 * ((r.ofP m.Part ++ [hdP m]).length : Int) ≤ r.nac := by rw [← h.nac, ← hlen]; exact h3
        rw [CC.promise_d h1 h2 h3] at hok ⊢
        rw [RC.promise_d h1' h2' h3']
        refine ⟨⟨hok, h.me, h.txn, h.nac, h.parts, h.st, h.top, h.num, h.A, h.ch1, h.ch2, h.ch3, fun _ p => ?_, fun _ p => ?_⟩, ?_⟩
        · refine (hprn p).trans ?_
          show _ = (RC.ofP { r with prom := r.prom ++ [hdP m] } p).map _
          rw [ofP_app (l := [])]; rfl
        · show 0 < updI c.po m.Part 1 p ↔ p ∈ r.prop ++ [m.Part]
          rw [List.mem_append, List.mem_singleton]
          unfold updI
          split
          · exact ⟨fun _ => .inr ‹_›, fun _ => by decide⟩
          · rw [h.po hs]; exact ⟨.inl, fun e => e.resolve_right ‹_›⟩
        · show allM c.me c.txn c.num c.nac _ = allM r.me r.txn r.bal r.nac _
          rw [h.me, h.txn, h.nac, h.num, hl, pick_best]
theorem Rel.step {c : CC} {r : RC} (m : Msg) (h : Rel c r) : Rel (c.step m).1 (r.step m).1 ∧ (c.step m).2 = (r.step m).2 := by
  by_cases h1 : m.Txn ≠ c.txn ∨ m.From < 1 ∨ c.nac < m.From ∨ m.Part ∉ c.parts
  · rw [CC.step_a h1, RC.step_a (by rw [← h.txn, ← h.parts, ← h.nac]; rcases h1 with e | e | e | e; exact .inl e; exact .inr (.inr (.inl e)); exact .inr (.inr (.inr (.inl e))); exact .inr (.inl e))]
    exact ⟨h, rfl⟩
  · have hf : 1 ≤ m.From ∧ m.From ≤ c.nac := ⟨Int.not_lt.1 fun e => h1 (.inr (.inl e)), Int.not_lt.1 fun e => h1 (.inr (.inr (.inl e)))⟩
    by_cases h2 : m.Kind ≠ 11 ∧ m.Kind ≠ 9
    · rw [CC.step_b h1 h2, RC.step_a (.inr (.inr (.inr (.inr ⟨h2.2, h2.1⟩))))]; exact ⟨h, rfl⟩
    · have h1' : ¬ (m.Txn ≠ r.txn ∨ m.Part ∉ r.parts ∨ m.From < 1 ∨ r.nac < m.From ∨ (m.Kind ≠ 9 ∧ m.Kind ≠ 11)) := by
        rw [← h.txn, ← h.parts, ← h.nac]
        rintro (e | e | e | e | e)
        · exact h1 (.inl e)
        · exact h1 (.inr (.inr (.inr e)))
        · exact h1 (.inr (.inl e))
        · exact h1 (.inr (.inr (.inl e)))
        · exact h2 ⟨e.2, e.1⟩
      by_cases h3 : m.Ok = false
      · rw [CC.step_c h1 h2 h3, RC.step_b h1' h3]
        refine ⟨⟨⟨h.ok.nac, h.ok.A, h.ok.pr, h.ok.parts⟩, h.me, h.txn, h.nac, h.parts, h.st, ?_, h.num, h.A, h.ch1, h.ch2, h.ch3, h.pr, h.po⟩, rfl⟩
        show max c.top m.Index = max r.top m.Index
        rw [h.top]
      · by_cases h4 : m.Kind = 11
        · rw [CC.step_d h1 h2 h3 h4, RC.step_d h1' h3 (by omega)]; exact ⟨h.accept hf h4, rfl⟩
        · rw [CC.step_e h1 h2 h3 h4, RC.step_c h1' h3 (by omega)]; exact h.promise hf
/-- at most so much was heard -/
structure RC.sz (r : RC) (n : Nat) : Prop where
  acc : r.acc.length ≤ n
  prom : r.prom.length ≤ n
  prop : r.prop.length ≤ n
theorem RC.sz.start {r : RC} {n : Nat} (h : r.sz n) (b : Int) : (r.started b).sz (n + 1) := ⟨by have := h.acc; show r.acc.length ≤ _; omega, Nat.zero_le _, Nat.zero_le _⟩
theorem RC.sz.step {r : RC} {n : Nat} (h : r.sz n) (m : Msg) : (r.step m).1.sz (n + 1) := by
  have h0 : r.sz (n + 1) := ⟨Nat.le_succ_of_le h.acc, Nat.le_succ_of_le h.prom, Nat.le_succ_of_le h.prop⟩
  have h1 : (r.prom ++ [hdP m]).length ≤ n + 1 := by have := h.prom; simp; omega
  have h2 : (r.prop ++ [m.Part]).length ≤ n + 1 := by have := h.prop; simp; omega
  have h3 : (r.acc ++ [hdA m]).length ≤ n + 1 := by have := h.acc; simp; omega
  unfold RC.step
  split
  · exact h0
  · split
    · exact ⟨h0.acc, h0.prom, h0.prop⟩
    · split
      · unfold RC.promise
        split
        · exact h0
        · split
          · exact h0
          · simp only
            split
            · exact ⟨h0.acc, h1, h0.prop⟩
            · exact ⟨h0.acc, h1, h2⟩
      · unfold RC.accept
        split
        · exact ⟨h3, h0.prom, h0.prop⟩
        · exact h0
theorem Rel.okR {c : CC} {r : RC} (h : Rel c r) {n : Nat} (hs : r.sz n) (hn : n ≤ 1000) : r.ok := ⟨h.nac ▸ h.ok.nac, h.parts ▸ h.ok.parts, Nat.le_trans hs.acc hn, Nat.le_trans hs.prom hn, Nat.le_trans hs.prop hn⟩
/-! ### One that is new -/
def prev (l : List Int) (k : Nat) : Int := if k = 0 then 0 else l.getD (k - 1) 0
theorem parts_all {l : List Int} : ∀ {k : Nat}, k ≤ l.length → partsOk 0 l = (allR l k && partsOk (prev l k) (l.drop k))
  | 0, _ => rfl
  | k + 1, hk => by
    rw [parts_all (k := k) (by omega), parts_drop (by omega), allR_succ]
    have hp : prev l (k + 1) = l.getD k 0 := rfl
    rw [hp]
    cases ha : allR l k with
    | false => rfl
    | true =>
      simp only [Bool.true_and]
      have hc : (decide (prev l k < l.getD k 0) && decide (l.getD k 0 ≤ 4)) = chkR l k := by
        unfold chkR prev
        cases k with
        | zero =>
          simp only [if_true, decide_true, Bool.true_or, Bool.and_true]
          congr 1
        | succ j =>
          have hj : chkR l j = true := by rw [allR_succ, Bool.and_eq_true] at ha; exact ha.2
          unfold chkR at hj
          rw [Bool.and_eq_true, decide_eq_true_iff] at hj
          have h1 := hj.1
          simp only [Nat.add_sub_cancel, Nat.succ_ne_zero, if_false, decide_false, Bool.false_or]
          rw [Bool.eq_iff_iff]
          simp only [Bool.and_eq_true, decide_eq_true_iff]
          omega
      rw [← hc, Bool.and_assoc]
theorem new_eq (me txn nac : Int) (l : List Int) : newOk me txn nac l = newOkR me txn nac l := by
  unfold newOk newOkR
  congr 1
  rw [parts_all (Nat.le_refl _), List.drop_length]; simp [partsOk]
theorem Rel.new {me txn nac : Int} {l : List Int} (h : newOk me txn nac l = true) : Rel (CC.new me txn nac l) (RC.new me txn nac l) := by
  have h2 : headOk me txn nac l = true ∧ partsOk 0 l = true := by simpa [newOk] using h
  have h3 := of_decide_eq_true h2.1
  have h4 := parts_len h2.2
  have nomaj : ∀ p v, ¬ Maj (fun _ => []) nac p v := by rintro p v ⟨b, hb⟩; simp at hb; omega
  refine ⟨⟨⟨h3.2.2.2.2.2.1, h3.2.2.2.2.2.2.1⟩, fun k => ⟨List.nodup_nil, fun f hf => by cases hf⟩, fun p => ⟨List.nodup_nil, fun f hf => by cases hf⟩, ?_⟩, rfl, rfl, rfl, rfl, rfl, rfl, rfl, fun p n v f => by simp [CC.new, RC.new], fun p => ?_, fun p => ?_, fun p => .inl rfl, (fun e => by cases e), fun e => by cases e⟩
  · show l.length ≤ 4; omega
  · exact ⟨(fun e => by cases e), fun e => absurd e (nomaj p 2)⟩
  · exact ⟨fun _ => ⟨nomaj p 1, nomaj p 2⟩, fun _ => rfl⟩
end Go.Proofs.Ytjmddkaokmdkbaa
