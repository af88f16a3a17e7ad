/- What is put is read again, and what is read has just these bytes: maps and directories, as plain mathematics. -/
import Derived.Test.YtpimnlgfhpnjnaaRnYb
namespace Go.Proofs.Ytpimnlgfhpnjnaa
open Go Go.RowKit Kf
set_option maxRecDepth 20000
/-! ### What is put is read again -/
theorem int_enc {x : Int} {rest : List UInt8} (h : In1 x) : (⟨Pk.enc x ++ rest, false⟩ : Pk.RS).int = (x, ⟨rest, false⟩) := by
  have hl := Pk.enc_len x
  unfold Pk.RS.int
  rw [if_neg (by simp [hl])]
  show (Pk.dec ((Pk.enc x ++ rest).take 8), (⟨(Pk.enc x ++ rest).drop 8, false⟩ : Pk.RS)) = _
  rw [List.take_left' hl, List.drop_left' hl, Pk.dec_enc h]
theorem take_app {p rest : List UInt8} : (⟨p ++ rest, false⟩ : Pk.RS).take (p.length : Int) = (p, ⟨rest, false⟩) := by
  unfold Pk.RS.take
  rw [if_neg (by simp; omega)]
  show ((p ++ rest).take _, (⟨(p ++ rest).drop _, false⟩ : Pk.RS)) = _
  rw [Int.toNat_natCast, List.take_left' rfl, List.drop_left' rfl]
theorem blob_enc {p rest : List UInt8} (h : In1 (p.length : Int)) : (⟨Pk.blob p ++ rest, false⟩ : Pk.RS).blob = (p, ⟨rest, false⟩) := by
  unfold Pk.RS.blob Pk.blob
  rw [List.append_assoc, int_enc h]
  exact take_app
def rgB (r : Rg) : List UInt8 := r.ints.flatMap Pk.enc
theorem rgB_eq (r : Rg) : rgB r = Pk.enc r.Lo ++ (Pk.enc r.Hi ++ (Pk.enc r.Group ++ Pk.enc r.Epoch)) := by simp [rgB, Rg.ints]
theorem rd4_enc {r : Rg} {rest : List UInt8} (h : In64 r.ints) : rd4 ⟨rgB r ++ rest, false⟩ = (r, ⟨rest, false⟩) := by
  have h1 : In1 r.Lo := h _ (by simp [Rg.ints])
  have h2 : In1 r.Hi := h _ (by simp [Rg.ints])
  have h3 : In1 r.Group := h _ (by simp [Rg.ints])
  have h4 : In1 r.Epoch := h _ (by simp [Rg.ints])
  rw [rd4_eq, rgB_eq]
  simp only [List.append_assoc]
  rw [int_enc h1]
  simp only
  rw [int_enc h2]
  simp only
  rw [int_enc h3]
  simp only
  rw [int_enc h4]
theorem rdS_enc {x : Se.Ses} {rest : List UInt8} (h : In1 x.Client ∧ In1 x.Seq ∧ In1 x.Code) (hd : In1 (x.Data.length : Int)) : rdS ⟨sesB x ++ rest, false⟩ = (x, ⟨rest, false⟩) := by
  rw [rdS_eq]
  unfold sesB
  simp only [List.append_assoc]
  rw [int_enc h.1]
  simp only
  rw [int_enc h.2.1]
  simp only
  rw [int_enc h.2.2]
  simp only
  rw [blob_enc hd]
section
variable {α : Type} {rd : Pk.RS → α × Pk.RS} {en : α → List UInt8}
theorem rdN_enc {l : List α} {rest : List UInt8} (h : ∀ x ∈ l, ∀ rest, rd ⟨en x ++ rest, false⟩ = (x, ⟨rest, false⟩)) : ∀ k, k ≤ l.length → rdN rd ⟨l.flatMap en ++ rest, false⟩ k = (l.take k, ⟨(l.drop k).flatMap en ++ rest, false⟩) := by
  intro k
  induction k with
  | zero => intro _; simp [rdN]
  | succ k ih =>
    intro hk
    rw [rdN_succ, ih (by omega)]
    have e : l.drop k = l[k] :: l.drop (k + 1) := List.drop_eq_getElem_cons (by omega)
    simp only [e, List.flatMap_cons, List.append_assoc]
    rw [h _ (List.getElem_mem _)]
    rw [List.take_succ_eq_append_getElem (by omega)]
theorem flat_8 (h8 : ∀ x : α, 8 ≤ (en x).length) (l : List α) : 8 * l.length ≤ (l.flatMap en).length := by
  induction l with
  | nil => simp
  | cons a l ih => have := h8 a; simp only [List.flatMap_cons, List.length_append, List.length_cons]; omega
theorem rdL_enc {l : List α} {rest : List UInt8} (h8 : ∀ x : α, 8 ≤ (en x).length) (h : ∀ x ∈ l, ∀ rest, rd ⟨en x ++ rest, false⟩ = (x, ⟨rest, false⟩)) (hl : In1 (l.length : Int)) : rdL rd ⟨Pk.enc (l.length : Int) ++ (l.flatMap en ++ rest), false⟩ = (l, ⟨rest, false⟩) := by
  have hi := int_enc (rest := l.flatMap en ++ rest) hl
  have h9 := flat_8 h8 l
  have hok : OkC ⟨Pk.enc (l.length : Int) ++ (l.flatMap en ++ rest), false⟩ := by
    unfold OkC
    rw [hi]
    refine ⟨by show (0 : Int) ≤ (l.length : Int); omega, ?_⟩
    show (l.length : Int) ≤ (((l.flatMap en ++ rest).length / 8 : Nat) : Int)
    rw [List.length_append]; omega
  rw [rdL_ok hok, hi]
  show rdN rd ⟨l.flatMap en ++ rest, false⟩ (l.length : Int).toNat = _
  rw [Int.toNat_natCast, rdN_enc h l.length (Nat.le_refl _)]
  simp
end
def sixB (m : Mp) : List UInt8 := Pk.enc m.E ++ (Pk.enc m.M.Epoch ++ (Pk.enc m.M.From ++ (Pk.enc m.M.To ++ (Pk.enc m.M.Lo ++ Pk.enc m.M.Hi))))
theorem mpB_eq (m : Mp) : mpB m = Pk.enc (m.R.length : Int) ++ (m.R.flatMap rgB ++ sixB m) := by
  unfold mpB rgsB sixB
  rw [List.take_of_length_le (Nat.le_refl _), List.flatMap_assoc]
  simp only [List.append_assoc]
  congr 2
theorem six_enc {m : Mp} {rest : List UInt8} (h : MpIn m) (l : List Rg) : six ⟨sixB m ++ rest, false⟩ = ⟨rest, false⟩ ∧ mp6 l ⟨sixB m ++ rest, false⟩ = ⟨l, m.E, m.M⟩ := by
  obtain ⟨hE, hM, _⟩ := h
  have h1 : In1 m.M.Epoch := hM _ (by simp [Mv.ints])
  have h2 : In1 m.M.From := hM _ (by simp [Mv.ints])
  have h3 : In1 m.M.To := hM _ (by simp [Mv.ints])
  have h4 : In1 m.M.Lo := hM _ (by simp [Mv.ints])
  have h5 : In1 m.M.Hi := hM _ (by simp [Mv.ints])
  rw [six_eq, mp6_eq]
  unfold sixB
  simp only [List.append_assoc]
  rw [int_enc hE]
  simp only
  rw [int_enc h1]
  simp only
  rw [int_enc h2]
  simp only
  rw [int_enc h3]
  simp only
  rw [int_enc h4]
  simp only
  rw [int_enc h5]
  exact ⟨rfl, rfl⟩
theorem read_mpB {m : Mp} (h : MpIn m) (hl : m.R.length ≤ 1000000) (rest : List UInt8) : tM ⟨mpB m ++ rest, false⟩ = ⟨rest, false⟩ ∧ mM ⟨mpB m ++ rest, false⟩ = m := by
  have e : rdL rd4 ⟨mpB m ++ rest, false⟩ = (m.R, ⟨sixB m ++ rest, false⟩) := by
    rw [mpB_eq]
    simp only [List.append_assoc]
    exact rdL_enc (rd := rd4) (en := rgB) (fun x => by rw [rgB_eq]; simp [Pk.enc_len]) (fun x hx rest => rd4_enc (h.2.2 x hx)) ⟨by omega, by omega⟩
  obtain ⟨s1, s2⟩ := six_enc (rest := rest) h m.R
  unfold tM mM
  rw [e]
  exact ⟨s1, s2⟩
theorem getM_put {m : Mp} (h : MpIn m) (hl : m.R.length ≤ 1000000) : getM ⟨mpB m, false⟩ = if checkB m = true then (m, 0) else (Mp.zero, 4) := by
  have := read_mpB h hl []
  rw [List.append_nil] at this
  unfold getM
  rw [this.1, this.2, if_neg (by decide)]
theorem drB_eq (d : Dr) : drB d = mpB d.m ++ (Pk.enc (d.S.length : Int) ++ (d.S.flatMap sesB ++ [])) := by
  unfold drB dsB
  rw [List.take_of_length_le (Nat.le_refl _)]
  simp
theorem read_drB {d : Dr} (h : DrIn d) (hR : d.m.R.length ≤ 1000000) (hS : d.S.length ≤ 1000000) (hD : ∀ s ∈ d.S, s.Data.length ≤ 1000000) : tD ⟨drB d, false⟩ = ⟨[], false⟩ ∧ sD ⟨drB d, false⟩ = d.S ∧ mM ⟨drB d, false⟩ = d.m := by
  rw [drB_eq]
  obtain ⟨h1, h2⟩ := read_mpB h.m hR (Pk.enc (d.S.length : Int) ++ (d.S.flatMap sesB ++ []))
  have e : rdL rdS ⟨Pk.enc (d.S.length : Int) ++ (d.S.flatMap sesB ++ []), false⟩ = (d.S, ⟨[], false⟩) :=
    rdL_enc (rd := rdS) (en := sesB) (fun x => by rw [sesB_len]; omega) (fun x hx rest => rdS_enc (h.S x hx) (by have := hD x hx; exact ⟨by omega, by omega⟩)) ⟨by omega, by omega⟩
  unfold tD sD
  rw [h1, e]
  exact ⟨rfl, rfl, h2⟩
theorem getD_put {d : Dr} (h : DrIn d) (hR : d.m.R.length ≤ 1000000) (hS : d.S.length ≤ 1000000) (hD : ∀ s ∈ d.S, s.Data.length ≤ 1000000) : getD ⟨drB d, false⟩ = if checkB d.m = true then (if risesB d.S = true then (d, 0) else (Dr.zero, 15)) else (Dr.zero, 4) := by
  obtain ⟨h1, h2, h3⟩ := read_drB h hR hS hD
  unfold getD
  rw [h1, h2, h3, if_neg (by decide)]
/-! ### What is read has just these bytes -/
theorem int_only {s : Pk.RS} (h : s.int.2.bad = false) : s.left = Pk.enc s.int.1 ++ s.int.2.left ∧ s.bad = false := by
  by_cases hc : s.bad = true ∨ s.left.length < 8
  · rw [show s.int = (0, .dead) from if_pos hc] at h; cases h
  · have e : s.int = (Pk.dec (s.left.take 8), ⟨s.left.drop 8, false⟩) := if_neg hc
    rw [e]
    refine ⟨?_, by cases hb : s.bad; rfl; exact absurd (.inl hb) hc⟩
    have hl : (s.left.take 8).length = 8 := by simp; omega
    show s.left = Pk.enc (Pk.dec (s.left.take 8)) ++ s.left.drop 8
    rw [Pk.enc_dec hl, List.take_append_drop]
theorem take_only {s : Pk.RS} {n : Int} (h : (s.take n).2.bad = false) : s.left = (s.take n).1 ++ (s.take n).2.left ∧ ((s.take n).1.length : Int) = n ∧ s.bad = false := by
  by_cases hc : s.bad = true ∨ n < 0 ∨ (s.left.length : Int) < n
  · rw [show s.take n = ([], .dead) from if_pos hc] at h; cases h
  · have e : s.take n = (s.left.take n.toNat, ⟨s.left.drop n.toNat, false⟩) := if_neg hc
    rw [e]
    refine ⟨by show s.left = s.left.take n.toNat ++ s.left.drop n.toNat; rw [List.take_append_drop], ?_, by cases hb : s.bad; rfl; exact absurd (.inl hb) hc⟩
    show ((s.left.take n.toNat).length : Int) = n
    simp; omega
theorem blob_only {s : Pk.RS} (h : s.blob.2.bad = false) : s.left = Pk.blob s.blob.1 ++ s.blob.2.left ∧ s.bad = false := by
  obtain ⟨h1, h2, h3⟩ := take_only (s := s.int.2) (n := s.int.1) h
  obtain ⟨h4, h5⟩ := int_only h3
  refine ⟨?_, h5⟩
  unfold Pk.blob
  rw [show (s.blob.1.length : Int) = s.int.1 from h2, List.append_assoc]
  rw [h4]; congr 1
theorem rd4_only {s : Pk.RS} (h : (rd4 s).2.bad = false) : s.left = rgB (rd4 s).1 ++ (rd4 s).2.left ∧ s.bad = false := by
  rw [rd4_eq] at h ⊢
  simp only at h ⊢
  obtain ⟨a1, a2⟩ := int_only h
  obtain ⟨b1, b2⟩ := int_only a2
  obtain ⟨c1, c2⟩ := int_only b2
  obtain ⟨d1, d2⟩ := int_only c2
  refine ⟨?_, d2⟩
  rw [rgB_eq]
  simp only [List.append_assoc]
  rw [← a1, ← b1, ← c1, ← d1]
theorem rdS_only {s : Pk.RS} (h : (rdS s).2.bad = false) : s.left = sesB (rdS s).1 ++ (rdS s).2.left ∧ s.bad = false := by
  rw [rdS_eq] at h ⊢
  simp only at h ⊢
  obtain ⟨a1, a2⟩ := blob_only h
  obtain ⟨b1, b2⟩ := int_only a2
  obtain ⟨c1, c2⟩ := int_only b2
  obtain ⟨d1, d2⟩ := int_only c2
  refine ⟨?_, d2⟩
  unfold sesB
  simp only [List.append_assoc]
  rw [← a1, ← b1, ← c1, ← d1]
section
variable {α : Type} {rd : Pk.RS → α × Pk.RS} {en : α → List UInt8}
theorem rdN_only (ho : ∀ s, (rd s).2.bad = false → s.left = en (rd s).1 ++ (rd s).2.left ∧ s.bad = false) {s : Pk.RS} : ∀ k, (rdN rd s k).2.bad = false → s.left = (rdN rd s k).1.flatMap en ++ (rdN rd s k).2.left ∧ s.bad = false := by
  intro k
  induction k with
  | zero => intro h; exact ⟨by simp [rdN], h⟩
  | succ k ih =>
    intro h
    rw [rdN_succ] at h ⊢
    simp only at h ⊢
    obtain ⟨a1, a2⟩ := ho _ h
    obtain ⟨b1, b2⟩ := ih a2
    refine ⟨?_, b2⟩
    rw [List.flatMap_append]
    simp only [List.flatMap_cons, List.flatMap_nil, List.append_nil, List.append_assoc]
    rw [← a1, ← b1]
theorem rdL_only (ho : ∀ s, (rd s).2.bad = false → s.left = en (rd s).1 ++ (rd s).2.left ∧ s.bad = false) {s : Pk.RS} (h : (rdL rd s).2.bad = false) : s.left = Pk.enc ((rdL rd s).1.length : Int) ++ ((rdL rd s).1.flatMap en ++ (rdL rd s).2.left) ∧ s.bad = false := by
  by_cases hc : OkC s
  · rw [rdL_ok hc] at h ⊢
    obtain ⟨a1, a2⟩ := rdN_only ho _ h
    obtain ⟨b1, b2⟩ := int_only a2
    refine ⟨?_, b2⟩
    rw [rdN_len, ← a1, show ((s.int.1.toNat : Nat) : Int) = s.int.1 from Int.toNat_of_nonneg hc.1, ← b1]
  · rw [show rdL rd s = ([], .dead) from if_neg hc] at h; cases h
end
theorem six_only {l : List Rg} {s : Pk.RS} (h : (six s).bad = false) : s.left = sixB (mp6 l s) ++ (six s).left ∧ s.bad = false := by
  rw [six_eq] at h ⊢
  rw [mp6_eq]
  obtain ⟨a1, a2⟩ := int_only h
  obtain ⟨b1, b2⟩ := int_only a2
  obtain ⟨c1, c2⟩ := int_only b2
  obtain ⟨d1, d2⟩ := int_only c2
  obtain ⟨e1, e2⟩ := int_only d2
  obtain ⟨f1, f2⟩ := int_only e2
  refine ⟨?_, f2⟩
  unfold sixB
  simp only [List.append_assoc]
  rw [← a1, ← b1, ← c1, ← d1, ← e1, ← f1]
theorem tM_only {s : Pk.RS} (h : (tM s).bad = false) : s.left = mpB (mM s) ++ (tM s).left ∧ s.bad = false := by
  unfold tM at h
  obtain ⟨a1, a2⟩ := six_only (l := (rdL rd4 s).1) h
  obtain ⟨b1, b2⟩ := rdL_only (rd := rd4) (en := rgB) (fun s h => rd4_only h) a2
  refine ⟨?_, b2⟩
  unfold tM mM
  rw [mpB_eq, mp6_R]
  simp only [List.append_assoc]
  rw [← a1, ← b1]
theorem tD_only {s : Pk.RS} (h : (tD s).bad = false) : s.left = drB ⟨mM s, sD s⟩ ++ (tD s).left ∧ s.bad = false := by
  unfold tD at h
  obtain ⟨a1, a2⟩ := rdL_only (rd := rdS) (en := sesB) (fun s h => rdS_only h) h
  obtain ⟨b1, b2⟩ := tM_only a2
  refine ⟨?_, b2⟩
  rw [drB_eq]
  unfold tD sD
  simp only [List.append_assoc, List.append_nil]
  rw [← a1, ← b1]
theorem err_zero {s : Pk.RS} (h : s.err = 0) : s.bad = false ∧ s.left = [] := by
  unfold Pk.RS.err at h
  by_cases hb : s.bad = true
  · rw [if_pos hb] at h; exact absurd h (by decide)
  · rw [if_neg hb] at h
    refine ⟨by simpa using hb, ?_⟩
    by_cases hl : 0 < s.left.length
    · rw [if_pos hl] at h; exact absurd h (by decide)
    · exact List.eq_nil_of_length_eq_zero (by omega)
theorem getM_only {l : List UInt8} (h : (getM ⟨l, false⟩).2 = 0) : mpB (getM ⟨l, false⟩).1 = l ∧ checkB (getM ⟨l, false⟩).1 = true ∧ In1 (getM ⟨l, false⟩).1.E := by
  unfold getM at h ⊢
  by_cases he : (tM ⟨l, false⟩).err ≠ 0
  · rw [if_pos he] at h; exact absurd h he
  · rw [if_neg he] at h ⊢
    obtain ⟨h1, h2⟩ := err_zero (Decidable.not_not.1 he)
    obtain ⟨h3, _⟩ := tM_only h1
    rw [h2, List.append_nil] at h3
    by_cases hc : checkB (mM ⟨l, false⟩) = true
    · rw [if_pos hc]; exact ⟨h3.symm, hc, mM_E _⟩
    · rw [if_neg hc] at h; exact absurd h (by decide)
theorem getD_only {l : List UInt8} (h : (getD ⟨l, false⟩).2 = 0) : drB (getD ⟨l, false⟩).1 = l ∧ checkB (getD ⟨l, false⟩).1.m = true ∧ In1 (getD ⟨l, false⟩).1.m.E := by
  unfold getD at h ⊢
  by_cases he : (tD ⟨l, false⟩).err ≠ 0
  · rw [if_pos he] at h; exact absurd h he
  · rw [if_neg he] at h ⊢
    obtain ⟨h1, h2⟩ := err_zero (Decidable.not_not.1 he)
    obtain ⟨h3, _⟩ := tD_only h1
    rw [h2, List.append_nil] at h3
    by_cases hc : checkB (mM ⟨l, false⟩) = true
    · rw [if_pos hc] at h ⊢
      by_cases hr : risesB (sD ⟨l, false⟩) = true
      · rw [if_pos hr]; exact ⟨h3.symm, hc, mM_E _⟩
      · rw [if_neg hr] at h; exact absurd h (by decide)
    · rw [if_neg hc] at h; exact absurd h (by decide)
theorem flat_ses (l : List Se.Ses) : 32 * l.length ≤ (l.flatMap sesB).length ∧ ∀ s ∈ l, s.Data.length ≤ (l.flatMap sesB).length := by
  induction l with
  | nil => exact ⟨Nat.le_refl _, fun s hs => by cases hs⟩
  | cons a l ih =>
    have ha := sesB_len a
    simp only [List.flatMap_cons, List.length_append, List.length_cons]
    refine ⟨by omega, fun s hs => ?_⟩
    rcases List.mem_cons.1 hs with rfl | hs
    · omega
    · have := ih.2 s hs; omega
theorem drB_small (d : Dr) : 32 * d.S.length ≤ (drB d).length ∧ ∀ s ∈ d.S, s.Data.length ≤ (drB d).length := by
  have h := flat_ses d.S
  rw [drB_eq]
  simp only [List.length_append]
  exact ⟨by omega, fun s hs => by have := h.2 s hs; omega⟩
/-! ### No beginning of it is one -/
def Tr (t s : Pk.RS) : Prop := t.bad = true ∨ (t.bad = false ∧ s.bad = false ∧ ∃ k, k < s.left.length ∧ t.left = s.left.take k)
theorem tr_int {t s : Pk.RS} (h : Tr t s) : Tr t.int.2 s.int.2 ∧ (t.int.2.bad = false → t.int.1 = s.int.1 ∧ t.int.2.left.length ≤ s.int.2.left.length) := by
  rcases h with h | ⟨h1, h2, k, h3, h4⟩
  · have := int_bad1 h
    exact ⟨.inl this, fun e => by rw [this] at e; cases e⟩
  · by_cases hk : k < 8
    · have e : t.int = (0, .dead) := if_pos (.inr (by rw [h4]; simp; omega))
      rw [e]
      exact ⟨.inl rfl, fun e => by cases e⟩
    · have e1 : t.int = (Pk.dec (t.left.take 8), ⟨t.left.drop 8, false⟩) := if_neg (by rw [h1, h4]; simp; omega)
      have e2 : s.int = (Pk.dec (s.left.take 8), ⟨s.left.drop 8, false⟩) := if_neg (by rw [h2]; simp; omega)
      rw [e1, e2, h4]
      refine ⟨.inr ⟨rfl, rfl, k - 8, ?_, ?_⟩, fun _ => ⟨?_, ?_⟩⟩
      · show k - 8 < (s.left.drop 8).length; simp; omega
      · show (s.left.take k).drop 8 = (s.left.drop 8).take (k - 8); rw [List.drop_take]
      · show Pk.dec ((s.left.take k).take 8) = _; rw [List.take_take, Nat.min_eq_left (by omega)]
      · show ((s.left.take k).drop 8).length ≤ (s.left.drop 8).length; simp; omega
theorem tr_take {t s : Pk.RS} (h : Tr t s) (n : Int) : Tr (t.take n).2 (s.take n).2 := by
  rcases h with h | ⟨h1, h2, k, h3, h4⟩
  · rw [take_sticky n h]; exact .inl rfl
  · by_cases hk : n < 0 ∨ (k : Int) < n
    · have e : t.take n = ([], .dead) := if_pos (.inr (by rw [h4]; simp; omega))
      rw [e]; exact .inl rfl
    · have e1 : t.take n = (t.left.take n.toNat, ⟨t.left.drop n.toNat, false⟩) := if_neg (by rw [h1, h4]; simp; omega)
      have e2 : s.take n = (s.left.take n.toNat, ⟨s.left.drop n.toNat, false⟩) := if_neg (by rw [h2]; simp; omega)
      rw [e1, e2, h4]
      refine .inr ⟨rfl, rfl, k - n.toNat, ?_, ?_⟩
      · show k - n.toNat < (s.left.drop n.toNat).length; simp; omega
      · show (s.left.take k).drop n.toNat = (s.left.drop n.toNat).take (k - n.toNat); rw [List.drop_take]
theorem tr_blob {t s : Pk.RS} (h : Tr t s) : Tr t.blob.2 s.blob.2 := by
  obtain ⟨h1, h2⟩ := tr_int h
  by_cases hb : t.int.2.bad = true
  · refine .inl ?_
    unfold Pk.RS.blob
    rw [take_sticky _ hb]; rfl
  · obtain ⟨e, _⟩ := h2 (by simpa using hb)
    unfold Pk.RS.blob
    rw [e]
    exact tr_take h1 _
theorem tr_rd4 {t s : Pk.RS} (h : Tr t s) : Tr (rd4 t).2 (rd4 s).2 := by
  rw [rd4_eq, rd4_eq]
  exact (tr_int (tr_int (tr_int (tr_int h).1).1).1).1
theorem tr_rdS {t s : Pk.RS} (h : Tr t s) : Tr (rdS t).2 (rdS s).2 := by
  rw [rdS_eq, rdS_eq]
  exact tr_blob (tr_int (tr_int (tr_int h).1).1).1
section
variable {α : Type} {rd : Pk.RS → α × Pk.RS}
theorem tr_rdN (hr : ∀ t s, Tr t s → Tr (rd t).2 (rd s).2) {t s : Pk.RS} (h : Tr t s) : ∀ k, Tr (rdN rd t k).2 (rdN rd s k).2 := by
  intro k
  induction k with
  | zero => exact h
  | succ k ih => rw [rdN_succ, rdN_succ]; exact hr _ _ ih
theorem tr_rdL (hr : ∀ t s, Tr t s → Tr (rd t).2 (rd s).2) (hb : ∀ s, s.bad = true → (rd s).2.bad = true) {t s : Pk.RS} (h : Tr t s) : Tr (rdL rd t).2 (rdL rd s).2 := by
  obtain ⟨h1, h2⟩ := tr_int h
  by_cases hc : OkC t
  · by_cases hbad : t.int.2.bad = true
    · refine .inl ?_
      rw [rdL_ok hc]
      exact rdN_bad (j := 0) hb hbad _ (Nat.zero_le _)
    · obtain ⟨e1, e2⟩ := h2 (by simpa using hbad)
      have hs : OkC s := by
        obtain ⟨c1, c2⟩ := hc
        exact ⟨by omega, by omega⟩
      rw [rdL_ok hc, rdL_ok hs, e1]
      exact tr_rdN hr h1 _
  · refine .inl ?_
    rw [show rdL rd t = ([], .dead) from if_neg hc]; rfl
end
theorem tr_six {t s : Pk.RS} (h : Tr t s) : Tr (six t) (six s) := by
  rw [six_eq, six_eq]
  exact (tr_int (tr_int (tr_int (tr_int (tr_int (tr_int h).1).1).1).1).1).1
theorem getD_cut {d : Dr} (h : DrIn d) (hR : d.m.R.length ≤ 1000000) (hS : d.S.length ≤ 1000000) (hD : ∀ s ∈ d.S, s.Data.length ≤ 1000000) {k : Nat} (hk : k < (drB d).length) : (getD ⟨(drB d).take k, false⟩).2 = 4 := by
  have h0 : Tr ⟨(drB d).take k, false⟩ ⟨drB d, false⟩ := .inr ⟨rfl, rfl, k, hk, rfl⟩
  have h1 : Tr (tD ⟨(drB d).take k, false⟩) (tD ⟨drB d, false⟩) := by
    unfold tD tM
    exact tr_rdL (fun _ _ => tr_rdS) rdS_bad (tr_six (tr_rdL (fun _ _ => tr_rd4) rd4_bad h0))
  rw [(read_drB h hR hS hD).1] at h1
  rcases h1 with hb | ⟨_, _, j, hj, _⟩
  · unfold getD
    rw [if_pos (by rw [err_bad hb]; decide)]
    exact err_bad hb
  · exact absurd hj (Nat.not_lt_zero _)
theorem drB_pos (d : Dr) : 1 ≤ (drB d).length := by
  unfold drB dsB
  simp only [List.length_append, mpB_len]; omega
end Go.Proofs.Ytpimnlgfhpnjnaa
