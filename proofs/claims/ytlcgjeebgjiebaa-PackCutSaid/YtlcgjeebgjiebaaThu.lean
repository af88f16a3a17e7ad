/- Things of the same kinds: unlike ones are unlike bytes; what is cut off is not read. -/
import Derived.Test.YtlcgjeebgjiebaaPackM
namespace Go.Proofs.Ytlcgjeebgjiebaa
open Go Go.RowKit Kf

/-- a thing's kind, as it is put -/
def cls (t : Thing) : Nat := if t.kind = 1 then 1 else if t.kind = 2 then 2 else 0
/-- what is put of a thing -/
def pay (t : Thing) : Nat × List UInt8 × List Int × Int := if t.kind = 1 then (1, t.p, [], 0) else if t.kind = 2 then (2, [], t.l, 0) else (0, [], [], t.v)
theorem encT_pay {a b : Thing} (h : pay a = pay b) : Pk.encT a = Pk.encT b := by
  unfold pay at h; unfold Pk.encT
  by_cases h1 : a.kind = 1 <;> by_cases h2 : b.kind = 1 <;> by_cases h3 : a.kind = 2 <;> by_cases h4 : b.kind = 2 <;> simp_all
theorem encAll_pay : ∀ {a b : List Thing}, a.map pay = b.map pay → Pk.encAll a = Pk.encAll b
  | [], [], _ => rfl
  | x :: a, y :: b, h => by
    simp only [List.map_cons, List.cons.injEq] at h
    have := encAll_pay h.2
    simp only [Pk.encAll, List.flatMap_cons] at *
    rw [encT_pay h.1, this]
  | [], _ :: _, h => by simp at h
  | _ :: _, [], h => by simp at h
theorem cls_iff {a b : Thing} : cls a = cls b ↔ (decide (a.kind = 1) = decide (b.kind = 1) ∧ decide (a.kind = 2) = decide (b.kind = 2)) := by
  unfold cls
  by_cases h1 : a.kind = 1 <;> by_cases h2 : b.kind = 1 <;> by_cases h3 : a.kind = 2 <;> by_cases h4 : b.kind = 2 <;> simp_all <;> omega
/-- one of the same kind is read in the other's place -/
theorem stepT_like {a b : Thing} (h : Good a) (hc : cls a = cls b) (rest : List UInt8) : stepT ⟨Pk.encT a ++ rest, false⟩ b = (decide (pay a = pay b), ⟨rest, false⟩) := by
  obtain ⟨⟨hp, hl⟩, hv, hi⟩ := h
  obtain ⟨c1, c2⟩ := cls_iff.1 hc
  simp only [decide_eq_decide] at c1 c2
  by_cases h1 : a.kind = 1
  · rw [encT1 h1, stepT1 (c1.1 h1), Pk.read_blob hp]; simp [pay, h1, c1.1 h1]
  · have h1' : ¬ b.kind = 1 := fun e => h1 (c1.2 e)
    by_cases h2 : a.kind = 2
    · rw [encT2 h1 h2, stepT2 h1' (c2.1 h2), Pk.read_ints hi hl]; simp [pay, h2, c2.1 h2]
    · have h2' : ¬ b.kind = 2 := fun e => h2 (c2.2 e)
      rw [encT3 h1 h2, stepT3 h1' h2', Pk.read_enc hv]; simp [pay, h1, h2, h1', h2']
theorem readAll_like : ∀ (a b : List Thing), (∀ t ∈ a, Good t) → a.map cls = b.map cls → ∀ (rest : List UInt8), (readAll ⟨Pk.encAll a ++ rest, false⟩ b).1 = decide (a.map pay = b.map pay)
  | [], [], _, _, rest => by simp [readAll]
  | x :: a, y :: b, hg, h, rest => by
    simp only [List.map_cons, List.cons.injEq] at h
    have e : Pk.encAll (x :: a) ++ rest = Pk.encT x ++ (Pk.encAll a ++ rest) := by simp [Pk.encAll]
    rw [e]
    show (if (stepT _ y).1 = true then readAll (stepT _ y).2 b else (false, (stepT _ y).2)).1 = _
    rw [stepT_like (hg x (by simp)) h.1]
    by_cases hp : pay x = pay y
    · have := readAll_like a b (fun t ht => hg t (by simp [ht])) h.2 rest
      simp [hp, this]
    · simp [hp]
  | [], _ :: _, _, h, _ => by simp at h
  | _ :: _, [], _, h, _ => by simp at h
/-- the beginnings are alike only where all is -/
theorem begins_iff {a b : List Thing} (ha : ∀ t ∈ a, Good t) (hb : ∀ t ∈ b, Good t) (hc : a.map cls = b.map cls) {n : Nat} (hn : n = min (Pk.encAll a).length (Pk.encAll b).length) :
    ((Pk.encAll a).take n = (Pk.encAll b).take n) ↔ a.map pay = b.map pay := by
  constructor
  · intro h
    rcases Nat.le_total (Pk.encAll a).length (Pk.encAll b).length with hl | hl
    · rw [Nat.min_eq_left hl] at hn
      subst hn
      rw [List.take_of_length_le (Nat.le_refl _)] at h
      have e : Pk.encAll b = Pk.encAll a ++ (Pk.encAll b).drop (Pk.encAll a).length := by conv => rhs; rw [h, List.length_take, Nat.min_eq_left hl, List.take_append_drop]
      have h1 := readAll_enc a ha ((Pk.encAll b).drop (Pk.encAll a).length)
      rw [← e] at h1
      have h2 := readAll_like b a hb hc.symm []
      rw [List.append_nil, h1] at h2
      exact (of_decide_eq_true h2.symm).symm
    · rw [Nat.min_eq_right hl] at hn
      subst hn
      rw [List.take_of_length_le (Nat.le_refl (Pk.encAll b).length)] at h
      have e : Pk.encAll a = Pk.encAll b ++ (Pk.encAll a).drop (Pk.encAll b).length := by conv => rhs; rw [← h, List.length_take, Nat.min_eq_left hl, List.take_append_drop]
      have h1 := readAll_enc b hb ((Pk.encAll a).drop (Pk.encAll b).length)
      rw [← e] at h1
      have h2 := readAll_like a b ha hc []
      rw [List.append_nil, h1] at h2
      exact of_decide_eq_true h2.symm
  · intro h
    rw [encAll_pay h]

/-! ### Cut off -/
theorem int_dead : Pk.RS.dead.int = (0, .dead) := rfl
theorem take_dead (n : Int) : Pk.RS.dead.take n = ([], .dead) := if_pos (.inl rfl)
theorem blob_dead : Pk.RS.dead.blob = ([], .dead) := by unfold Pk.RS.blob; rw [int_dead]; exact take_dead _
theorem ints_dead : Pk.RS.dead.ints = ([], .dead) := by unfold Pk.RS.ints; rw [int_dead]; exact if_pos (.inl rfl)
theorem stepT_dead (t : Thing) : (stepT .dead t).2 = .dead := by
  unfold stepT
  split
  · rw [blob_dead]
  · split
    · rw [ints_dead]
    · rw [int_dead]
theorem readAll_dead : ∀ l, (readAll .dead l).2 = .dead
  | [] => rfl
  | t :: l => by
    show (if (stepT _ t).1 = true then readAll (stepT _ t).2 l else (false, (stepT _ t).2)).2 = _
    rw [stepT_dead]
    split
    · exact readAll_dead l
    · rfl
theorem int_short {l : List UInt8} (h : l.length < 8) : (⟨l, false⟩ : Pk.RS).int = (0, .dead) := if_pos (.inr h)
theorem int_cut {v : Int} (hv : -9223372036854775808 ≤ v ∧ v ≤ 9223372036854775807) {r : List UInt8} {q : Nat} (h : 8 ≤ q) : (⟨(Pk.enc v ++ r).take q, false⟩ : Pk.RS).int = (v, ⟨r.take (q - 8), false⟩) := by
  have : (Pk.enc v ++ r).take q = Pk.enc v ++ r.take (q - 8) := by
    rw [List.take_append, Pk.enc_len, List.take_of_length_le (by rw [Pk.enc_len]; omega)]
  rw [this, Pk.read_enc hv]
theorem stepT_cut {t : Thing} (h : Good t) {q : Nat} (hq : q < (Pk.encT t).length) : (stepT ⟨(Pk.encT t).take q, false⟩ t).2 = .dead := by
  obtain ⟨⟨hp, hl⟩, hv, hi⟩ := h
  have hlen : ∀ l : List UInt8, (l.take q).length ≤ q := fun l => by simp; omega
  by_cases h1 : t.kind = 1
  · rw [encT1 h1] at hq ⊢
    rw [stepT1 h1]
    show (Pk.RS.blob _).2 = _
    unfold Pk.RS.blob
    by_cases h8 : q < 8
    · rw [int_short (by have := hlen (Pk.blob t.p); omega)]; exact congrArg Prod.snd (take_dead 0)
    · unfold Pk.blob at hq ⊢
      rw [int_cut (by omega) (by omega)]
      simp only [List.length_append, Pk.enc_len] at hq
      unfold Pk.RS.take
      rw [if_pos (by right; right; show (((t.p.take (q - 8)).length : Nat) : Int) < _; rw [List.length_take]; omega)]
  · by_cases h2 : t.kind = 2
    · rw [encT2 h1 h2] at hq ⊢
      rw [stepT2 h1 h2]
      show (Pk.RS.ints _).2 = _
      unfold Pk.RS.ints
      by_cases h8 : q < 8
      · rw [int_short (by have := hlen (Pk.ints t.l); omega)]; rfl
      · unfold Pk.ints at hq ⊢
        rw [int_cut (by omega) (by omega)]
        simp only [List.length_append, Pk.enc_len, Pk.flat_len] at hq
        rw [if_pos (by right; right; show (((((t.l.flatMap Pk.enc).take (q - 8)).length / 8 : Nat)) : Int) < _; rw [List.length_take, Pk.flat_len]; omega)]
    · rw [encT3 h1 h2] at hq ⊢
      rw [stepT3 h1 h2]
      rw [Pk.enc_len] at hq
      rw [int_short (by have := hlen (Pk.enc t.v); omega)]
theorem readAll_cut : ∀ (l : List Thing), (∀ t ∈ l, Good t) → ∀ q, q < (Pk.encAll l).length → (readAll ⟨(Pk.encAll l).take q, false⟩ l).2 = .dead
  | [], _, q, h => by simp [Pk.encAll] at h
  | t :: l, hg, q, h => by
    have e : Pk.encAll (t :: l) = Pk.encT t ++ Pk.encAll l := by simp [Pk.encAll]
    rw [e] at h ⊢
    show (if (stepT _ t).1 = true then readAll (stepT _ t).2 l else (false, (stepT _ t).2)).2 = _
    by_cases hq : q < (Pk.encT t).length
    · rw [List.take_append_of_le_length (by omega), stepT_cut (hg t (by simp)) hq]
      split
      · exact readAll_dead l
      · rfl
    · rw [List.take_append, List.take_of_length_le (by omega), stepT_enc (hg t (by simp))]
      rw [if_pos rfl]
      rw [List.length_append] at h
      exact readAll_cut l (fun x hx => hg x (by simp [hx])) _ (by omega)
end Go.Proofs.Ytlcgjeebgjiebaa
