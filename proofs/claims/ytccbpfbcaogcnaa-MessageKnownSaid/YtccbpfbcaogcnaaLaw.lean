/- A message's bytes are read as it was; what is read has just these bytes; cut off, with more behind them, or with a bit turned, they are not it. -/
import Derived.Test.YtccbpfbcaogcnaaFrt
import Derived.Test.YtccbpfbcaogcnaaMgM
namespace Go.Proofs.Ytccbpfbcaogcnaa
open Go Go.RowKit Kf
set_option maxRecDepth 20000
namespace Pk
theorem int_gd {s : RS} (h : s.int.2.bad = false) : s.bad = false ∧ 8 ≤ s.left.length ∧ s.int = (dec (s.left.take 8), ⟨s.left.drop 8, false⟩) := by
  unfold RS.int at h ⊢
  split at h
  · cases h
  · rename_i hc
    rw [if_neg hc]
    exact ⟨by simpa using fun e => hc (.inl e), by omega, rfl⟩
theorem int_parts {s : RS} (h : s.int.2.bad = false) : s.left = enc s.int.1 ++ s.int.2.left := by
  obtain ⟨h1, h2, h3⟩ := int_gd h
  rw [h3]
  show s.left = enc (dec (s.left.take 8)) ++ s.left.drop 8
  rw [enc_dec (by simp; omega), List.take_append_drop]
theorem take_good {s : RS} {n : Int} (h : (s.take n).2.bad = false) : s.bad = false ∧ 0 ≤ n ∧ n.toNat ≤ s.left.length ∧ s.take n = (s.left.take n.toNat, ⟨s.left.drop n.toNat, false⟩) := by
  unfold RS.take at h ⊢
  split at h
  · cases h
  · rename_i hc
    rw [if_neg hc]
    exact ⟨by simpa using fun e => hc (.inl e), by omega, by omega, rfl⟩
theorem blob_good {s : RS} (h : s.blob.2.bad = false) : s.int.2.bad = false := (take_good h).1
theorem blob_parts {s : RS} (h : s.blob.2.bad = false) : s.left = blob s.blob.1 ++ s.blob.2.left := by
  have h1 := blob_good h
  obtain ⟨h2, h3, h4, h5⟩ := take_good h
  rw [int_parts h1]
  unfold RS.blob blob
  rw [h5, List.append_assoc, List.take_append_drop]
  congr 2
  show s.int.1 = (((s.int.2.left.take s.int.1.toNat).length : Nat) : Int)
  simp only [List.length_take]
  omega
theorem read_enc {v : Int} (h : -9223372036854775808 ≤ v ∧ v ≤ 9223372036854775807) (rest : List UInt8) : (⟨enc v ++ rest, false⟩ : RS).int = (v, ⟨rest, false⟩) := by
  have hl : (enc v ++ rest).length = 8 + rest.length := by simp [enc_len]
  have ht : (enc v ++ rest).take 8 = enc v := List.take_left' (enc_len v)
  have hd : (enc v ++ rest).drop 8 = rest := List.drop_left' (enc_len v)
  unfold RS.int
  rw [if_neg (by simp [hl])]
  show (dec ((enc v ++ rest).take 8), (⟨(enc v ++ rest).drop 8, false⟩ : RS)) = _
  rw [ht, hd, dec_enc h]
theorem read_blob {p : List UInt8} (h : p.length ≤ 1000000) (rest : List UInt8) : (⟨blob p ++ rest, false⟩ : RS).blob = (p, ⟨rest, false⟩) := by
  unfold RS.blob blob
  rw [List.append_assoc, read_enc (by omega)]
  unfold RS.take
  rw [if_neg (by simp; omega)]
  show ((p ++ rest).take _, (⟨(p ++ rest).drop _, false⟩ : RS)) = _
  rw [show ((p.length : Int)).toNat = p.length from rfl, List.take_left' rfl, List.drop_left' rfl]
end Pk
open Pk
/-! ### Entries -/
theorem rdE_prev (s : RS) (k : Nat) (h : (rdE s (k + 1)).2.bad = false) : (rdE s k).2.bad = false ∧ (rdE s k).2.int.2.bad = false ∧ (rdE s k).2.int.2.int.2.bad = false ∧ (rdE s k).2.int.2.int.2.blob.2.bad = false := by
  have h0 : (rdE s k).2.int.2.int.2.blob.2.bad = false := h
  have h1 := (int_gd (blob_good h0)).1
  have h2 := (int_gd h1).1
  exact ⟨(int_gd h2).1, h2, h1, h0⟩
theorem rdE_parts {s : RS} : ∀ k, (rdE s k).2.bad = false → s.left = flatE (rdE s k).1 ++ (rdE s k).2.left
  | 0, _ => by simp [rdE, flatE]
  | k + 1, h => by
    obtain ⟨h1, h2, h3, h4⟩ := rdE_prev s k h
    have ih := rdE_parts k h1
    rw [ih]
    show _ = flatE ((rdE s k).1 ++ [⟨(rdE s k).2.int.1, (rdE s k).2.int.2.int.1, (rdE s k).2.int.2.int.2.blob.1⟩]) ++ (rdE s k).2.int.2.int.2.blob.2.left
    unfold flatE
    rw [List.flatMap_append, List.append_assoc]
    congr 1
    rw [int_parts h2, int_parts h3, blob_parts h4]
    simp [encE]
theorem rdE_enc : ∀ (l : List En), (∀ x ∈ l, rng x.Term ∧ rng x.Kind ∧ x.Data.length ≤ 1000000) → ∀ rest, rdE (⟨flatE l ++ rest, false⟩ : RS) l.length = (l, ⟨rest, false⟩) := by
  intro l
  induction l using snoc_ind with
  | h0 => intro _ rest; rfl
  | h1 a x ih =>
    intro hi rest
    have h2 := hi x (by simp)
    have e : flatE (a ++ [x]) ++ rest = flatE a ++ (enc x.Term ++ (enc x.Kind ++ (blob x.Data ++ rest))) := by simp [flatE, encE]
    rw [e, List.length_append, List.length_singleton]
    show ((rdE _ a.length).1 ++ [⟨(rdE _ a.length).2.int.1, (rdE _ a.length).2.int.2.int.1, (rdE _ a.length).2.int.2.int.2.blob.1⟩], (rdE _ a.length).2.int.2.int.2.blob.2) = _
    rw [ih fun y hy => hi y (by simp [hy])]
    show (a ++ [⟨(RS.int _).1, (RS.int _).2.int.1, (RS.int _).2.int.2.blob.1⟩], (RS.int _).2.int.2.blob.2) = _
    rw [read_enc h2.1]
    show (a ++ [(⟨_, (RS.int _).1, (RS.int _).2.blob.1⟩ : En)], (RS.int _).2.blob.2) = _
    rw [read_enc h2.2.1]
    show (a ++ [(⟨_, _, (RS.blob _).1⟩ : En)], (RS.blob _).2) = _
    rw [read_blob h2.2.2]
/-! ### Fields -/
/-- a field of one message laid over another one's -/
def lay1 (m0 m : Mg) (q : Nat) : Mg := if q = 11 then { m0 with ok := m.ok } else if q = 12 then { m0 with E := m.E } else if q = 13 then { m0 with D := m.D } else { m0 with n := m0.n.set (cl q) (m.g (cl q)) }
def layL (m0 m : Mg) (L : List Nat) : Mg := L.foldl (fun a q => lay1 a m q) m0
/-- a message that fits -/
structure Mg.fit (m : Mg) : Prop where
  len : m.n.length = 14
  inn : ∀ k, rng (m.n.getD k 0)
  ein : ∀ e ∈ m.E, rng e.Term ∧ rng e.Kind
  ED : ∀ e ∈ m.E, e.Data.length ≤ 1000000
  D : m.D.length ≤ 1000000
  E : m.E.length ≤ 1000000
theorem rdF_enc {m0 m : Mg} (h : m.fit) (q : Nat) (rest : List UInt8) : rdF m0 (⟨fieldB m q ++ rest, false⟩ : RS) q = some (lay1 m0 m q, ⟨rest, false⟩) := by
  by_cases h11 : q = 11
  · subst h11
    have e : (⟨fieldB m 11 ++ rest, false⟩ : RS).int = ((if m.ok then 1 else 0), ⟨rest, false⟩) := read_enc (by cases m.ok <;> decide) rest
    rw [rdF11 rfl (by rw [e]; cases m.ok <;> simp), e]
    cases hm : m.ok <;> simp [lay1, hm]
  by_cases h12 : q = 12
  · subst h12
    have e : (⟨fieldB m 12 ++ rest, false⟩ : RS).int = (((m.E.length : Nat) : Int), ⟨flatE m.E ++ rest, false⟩) := by
      show (⟨(enc m.E.length ++ flatE m.E) ++ rest, false⟩ : RS).int = _
      rw [List.append_assoc]; exact read_enc (by have := h.E; omega) _
    have e2 := rdE_enc m.E (fun x hx => ⟨(h.ein x hx).1, (h.ein x hx).2, h.ED x hx⟩) rest
    have hl : 24 * m.E.length ≤ (flatE m.E).length := by
      rw [flatE_len]; unfold sumE
      induction m.E with
      | nil => exact Nat.le_refl _
      | cons a l ih => simp only [List.length_cons, List.map_cons, List.sum_cons]; omega
    have e3 : rdE (⟨fieldB m 12 ++ rest, false⟩ : RS).int.2 (⟨fieldB m 12 ++ rest, false⟩ : RS).int.1.toNat = (m.E, ⟨rest, false⟩) := by rw [e]; exact e2
    rw [rdF12 rfl (by rw [e]; simp only [List.length_append]; omega) (by rw [e3]), e3]
    rfl
  by_cases h13 : q = 13
  · subst h13
    have e : (⟨fieldB m 13 ++ rest, false⟩ : RS).blob = (m.D, ⟨rest, false⟩) := read_blob h.D rest
    rw [rdF13 rfl, e]; rfl
  · have e : (⟨fieldB m q ++ rest, false⟩ : RS).int = (m.g (cl q), ⟨rest, false⟩) := by
      unfold fieldB; rw [if_neg h11, if_neg h12, if_neg h13]; exact read_enc (h.inn _) rest
    unfold rdF lay1
    rw [if_neg h11, if_neg h12, if_neg h13, e, if_neg h11, if_neg h12, if_neg h13]
theorem readF_enc {m : Mg} (h : m.fit) (rest : List UInt8) (L : List Nat) : ∀ m0, readF m0 (⟨fieldsB m L ++ rest, false⟩ : RS) L = some (layL m0 m L, ⟨rest, false⟩) := by
  induction L with
  | nil => intro m0; rfl
  | cons q L ih =>
    intro m0
    have e : fieldsB m (q :: L) ++ rest = fieldB m q ++ (fieldsB m L ++ rest) := by simp [fieldsB]
    show (match rdF m0 _ q with | none => none | some r => readF r.1 r.2 L) = _
    rw [e, rdF_enc h]
    exact ih _
theorem lay1_len (m0 m : Mg) (q : Nat) : (lay1 m0 m q).n.length = m0.n.length := by
  unfold lay1; split
  · rfl
  · split
    · rfl
    · split
      · rfl
      · exact List.length_set ..
theorem layL_len (m : Mg) (L : List Nat) : ∀ m0 : Mg, (layL m0 m L).n.length = m0.n.length := by
  induction L with
  | nil => intro m0; rfl
  | cons q L ih => intro m0; exact (ih _).trans (lay1_len m0 m q)
theorem lay1_n {m0 m : Mg} {q p : Nat} (hm0 : m0.n.length = 14) (hp : p < 14) (hq : q < 14) : (lay1 m0 m q).n.getD p 0 = if q < 11 ∧ cl q = p then m.n.getD p 0 else m0.n.getD p 0 := by
  unfold lay1
  split
  · rw [if_neg (by omega)]
  · split
    · rw [if_neg (by omega)]
    · split
      · rw [if_neg (by omega)]
      · have hq11 : q < 11 := by omega
        have := (cl_lt hq11).2
        by_cases e : cl q = p
        · subst e
          rw [if_pos ⟨hq11, rfl⟩]
          simp only [List.getD_eq_getElem?_getD, List.getElem?_set_self (show cl q < m0.n.length by omega)]; rfl
        · rw [if_neg (by rintro ⟨_, h⟩; exact e h)]
          simp only [List.getD_eq_getElem?_getD, List.getElem?_set_ne e]
theorem layL_n {m : Mg} {p : Nat} (hp : p < 14) (L : List Nat) : ∀ m0 : Mg, m0.n.length = 14 → (∀ q ∈ L, q < 14) → (layL m0 m L).n.getD p 0 = if ∃ q ∈ L, q < 11 ∧ cl q = p then m.n.getD p 0 else m0.n.getD p 0 := by
  induction L with
  | nil => intro m0 _ _; rw [if_neg (by rintro ⟨q, hq, _⟩; cases hq)]; rfl
  | cons q L ih =>
    intro m0 hl hL
    have hi := ih (lay1 m0 m q) ((lay1_len _ _ _).trans hl) (fun x hx => hL x (List.mem_cons_of_mem _ hx))
    rw [lay1_n hl hp (hL q (List.mem_cons_self ..))] at hi
    show (layL (lay1 m0 m q) m L).n.getD p 0 = _
    rw [hi]
    by_cases h1 : ∃ x ∈ L, x < 11 ∧ cl x = p
    · rw [if_pos h1, if_pos (by obtain ⟨x, hx, hh⟩ := h1; exact ⟨x, List.mem_cons_of_mem _ hx, hh⟩)]
    · rw [if_neg h1]
      by_cases h2 : q < 11 ∧ cl q = p
      · rw [if_pos h2, if_pos ⟨q, List.mem_cons_self .., h2⟩]
      · rw [if_neg h2, if_neg]
        rintro ⟨x, hx, hh⟩
        rcases List.mem_cons.1 hx with rfl | hx
        · exact h2 hh
        · exact h1 ⟨x, hx, hh⟩
theorem lay1_ok (m0 m : Mg) (q : Nat) : (lay1 m0 m q).ok = if q = 11 then m.ok else m0.ok := by
  unfold lay1
  by_cases h : q = 11
  · rw [if_pos h, if_pos h]
  · rw [if_neg h, if_neg h]; split
    · rfl
    · split <;> rfl
theorem layL_ok (m : Mg) (L : List Nat) : ∀ m0 : Mg, (layL m0 m L).ok = if 11 ∈ L then m.ok else m0.ok := by
  induction L with
  | nil => intro m0; rfl
  | cons q L ih =>
    intro m0
    show (layL (lay1 m0 m q) m L).ok = _
    rw [ih, lay1_ok]
    by_cases h1 : 11 ∈ L
    · rw [if_pos h1, if_pos (List.mem_cons_of_mem _ h1)]
    · rw [if_neg h1]
      by_cases h2 : q = 11
      · rw [if_pos h2, if_pos (by subst h2; exact List.mem_cons_self ..)]
      · rw [if_neg h2, if_neg (fun hm => by rcases List.mem_cons.1 hm with e | e; exact h2 e.symm; exact h1 e)]
theorem lay1_E (m0 m : Mg) (q : Nat) : (lay1 m0 m q).E = if q = 12 then m.E else m0.E := by
  unfold lay1
  by_cases h1 : q = 11
  · subst h1; rfl
  · rw [if_neg h1]
    by_cases h : q = 12
    · rw [if_pos h, if_pos h]
    · rw [if_neg h, if_neg h]; split <;> rfl
theorem layL_E (m : Mg) (L : List Nat) : ∀ m0 : Mg, (layL m0 m L).E = if 12 ∈ L then m.E else m0.E := by
  induction L with
  | nil => intro m0; rfl
  | cons q L ih =>
    intro m0
    show (layL (lay1 m0 m q) m L).E = _
    rw [ih, lay1_E]
    by_cases h1 : 12 ∈ L
    · rw [if_pos h1, if_pos (List.mem_cons_of_mem _ h1)]
    · rw [if_neg h1]
      by_cases h2 : q = 12
      · rw [if_pos h2, if_pos (by subst h2; exact List.mem_cons_self ..)]
      · rw [if_neg h2, if_neg (fun hm => by rcases List.mem_cons.1 hm with e | e; exact h2 e.symm; exact h1 e)]
theorem lay1_D (m0 m : Mg) (q : Nat) : (lay1 m0 m q).D = if q = 13 then m.D else m0.D := by
  unfold lay1
  by_cases h1 : q = 11
  · subst h1; rfl
  · rw [if_neg h1]
    by_cases h : q = 12
    · subst h; rfl
    · rw [if_neg h]; split <;> rfl
theorem layL_D (m : Mg) (L : List Nat) : ∀ m0 : Mg, (layL m0 m L).D = if 13 ∈ L then m.D else m0.D := by
  induction L with
  | nil => intro m0; rfl
  | cons q L ih =>
    intro m0
    show (layL (lay1 m0 m q) m L).D = _
    rw [ih, lay1_D]
    by_cases h1 : 13 ∈ L
    · rw [if_pos h1, if_pos (List.mem_cons_of_mem _ h1)]
    · rw [if_neg h1]
      by_cases h2 : q = 13
      · rw [if_pos h2, if_pos (by subst h2; exact List.mem_cons_self ..)]
      · rw [if_neg h2, if_neg (fun hm => by rcases List.mem_cons.1 hm with e | e; exact h2 e.symm; exact h1 e)]
/-- each number's cell is some place's, but the first three -/
theorem cl_onto {p : Nat} (h3 : 3 ≤ p) (h : p < 14) : ∃ q, q < 11 ∧ cl q = p := by
  have : ∀ p, p < 14 → 3 ≤ p → ∃ q, q < 11 ∧ cl q = p := by decide
  exact this p h h3
theorem lay_all {m : Mg} (h : m.n.length = 14) (hb : m.bareP) : layL ⟨[m.g 0, m.g 1, m.g 2, 0, 0, 0, 0, 0, 0, 0, 0, 0, 0, 0], false, [], []⟩ m (places (m.g 0)) = m := by
  obtain ⟨h1, h2, h3, h4⟩ := hb
  rw [Mg.eq_iff]
  refine ⟨?_, ?_, ?_, ?_⟩
  · have key : ∀ p, p < 14 → (layL ⟨[m.g 0, m.g 1, m.g 2, 0, 0, 0, 0, 0, 0, 0, 0, 0, 0, 0], false, [], []⟩ m (places (m.g 0))).n.getD p 0 = m.n.getD p 0 := fun p hp => by
      rw [layL_n hp _ _ rfl (fun q hq => places_lt hq)]
      by_cases hq : ∃ q ∈ places (m.g 0), q < 11 ∧ cl q = p
      · rw [if_pos hq]
      · rw [if_neg hq]
        by_cases h3p : 3 ≤ p
        · obtain ⟨q, hq1, hq2⟩ := cl_onto h3p hp
          have hz := h1 q hq1 (fun hm => hq ⟨q, hm, hq1, hq2⟩)
          rw [hq2] at hz
          rw [show m.n.getD p 0 = 0 from hz]
          match p, h3p, hp with
          | 3, _, _ | 4, _, _ | 5, _, _ | 6, _, _ | 7, _, _ | 8, _, _ | 9, _, _ | 10, _, _ | 11, _, _ | 12, _, _ | 13, _, _ => rfl
        · match p, h3p with
          | 0, _ | 1, _ | 2, _ => rfl
          | p + 3, h => exact absurd (by omega) h
    have hl := (layL_len m (places (m.g 0)) ⟨[m.g 0, m.g 1, m.g 2, 0, 0, 0, 0, 0, 0, 0, 0, 0, 0, 0], false, [], []⟩).trans rfl
    exact n_eq hl h (key 0 (by decide)) (key 1 (by decide)) (key 2 (by decide)) (key 3 (by decide)) (key 4 (by decide)) (key 5 (by decide)) (key 6 (by decide)) (key 7 (by decide)) (key 8 (by decide)) (key 9 (by decide)) (key 10 (by decide)) (key 11 (by decide)) (key 12 (by decide)) (key 13 (by decide))
  · rw [layL_ok]
    by_cases hq : 11 ∈ places (m.g 0)
    · rw [if_pos hq]
    · rw [if_neg hq]; exact (h2 hq).symm
  · rw [layL_E]
    by_cases hq : 12 ∈ places (m.g 0)
    · rw [if_pos hq]
    · rw [if_neg hq]; exact (List.eq_nil_of_length_eq_zero (h3 hq)).symm
  · rw [layL_D]
    by_cases hq : 13 ∈ places (m.g 0)
    · rw [if_pos hq]
    · rw [if_neg hq]; exact (List.eq_nil_of_length_eq_zero (h4 hq)).symm
/-! ### All of it -/
theorem data_sum {e : En} : ∀ {l : List En}, e ∈ l → e.Data.length ≤ sumE l
  | a :: l, hm => by
    unfold sumE
    simp only [List.map_cons, List.sum_cons]
    rcases List.mem_cons.1 hm with rfl | hm
    · omega
    · have := data_sum hm; unfold sumE at this; omega
theorem fit_of {m : Mg} (hl : m.n.length = 14) (hi : ∀ k, rng (m.n.getD k 0)) (he : ∀ e ∈ m.E, rng e.Term ∧ rng e.Kind) (hc : chk m = 0) : m.fit ∧ m.bareP ∧ (1 ≤ m.g 0 ∧ m.g 0 ≤ 11) ∧ (mbytes m).length ≤ 65536 := by
  have hc0 := hc
  unfold chk at hc
  by_cases h1 : 1 ≤ m.g 0 ∧ m.g 0 ≤ 11
  · rw [if_neg (by simpa using h1)] at hc
    by_cases h2 : m.bareP
    · rw [if_neg (by simpa using h2)] at hc
      by_cases h3 : m.rangeP
      · rw [if_neg (by simpa using h3)] at hc
        by_cases h4 : m.fitsP
        · obtain ⟨f1, f2, f3⟩ := h4
          exact ⟨⟨hl, hi, he, fun e hm => by have := data_sum hm; omega, by omega, by omega⟩, h2, h1, mbytes_len hc0⟩
        · rw [if_pos (by simpa using h4)] at hc; cases hc
      · rw [if_pos (by simpa using h3)] at hc; cases hc
    · rw [if_pos (by simpa using h2)] at hc; cases hc
  · rw [if_pos (by simpa using h1)] at hc; cases hc
/-- a message's bytes are read as it was -/
theorem got_back {m : Mg} (hl : m.n.length = 14) (hi : ∀ k, rng (m.n.getD k 0)) (he : ∀ e ∈ m.E, rng e.Term ∧ rng e.Kind) (hc : chk m = 0) : got (mput m) = (m, 0) := by
  obtain ⟨hf, hb, hk, h6⟩ := fit_of hl hi he hc
  have hg : Frm.get (mput m) = (mbytes m, 8 + (mbytes m).length, 0) := by have := Frm.get_put h6 []; rwa [List.append_nil] at this
  have e0 : mbytes m = enc (m.g 0) ++ (enc (m.g 1) ++ (enc (m.g 2) ++ (fieldsB m (places (m.g 0)) ++ []))) := by simp [mbytes, head3]
  have r1 : (⟨mbytes m, false⟩ : RS).int = (m.g 0, ⟨enc (m.g 1) ++ (enc (m.g 2) ++ (fieldsB m (places (m.g 0)) ++ [])), false⟩) := by rw [e0]; exact read_enc (hi 0) _
  have r2 := read_enc (v := m.g 1) (hi 1) (enc (m.g 2) ++ (fieldsB m (places (m.g 0)) ++ []))
  have r3 := read_enc (v := m.g 2) (hi 2) (fieldsB m (places (m.g 0)) ++ [])
  have hn : n0 (mbytes m) = [m.g 0, m.g 1, m.g 2, 0, 0, 0, 0, 0, 0, 0, 0, 0, 0, 0] := by unfold n0; rw [r1]; simp only; rw [r2]; simp only; rw [r3]
  have hs : s3 (mbytes m) = ⟨fieldsB m (places (m.g 0)) ++ [], false⟩ := by unfold s3; rw [r1]; simp only; rw [r2]; simp only; rw [r3]
  have hp : places ((n0 (mbytes m)).getD 0 0) = places (m.g 0) := by rw [hn]; rfl
  have hlen : (mput m).length = 8 + (mbytes m).length := by unfold mput; rw [List.length_append, Frm.head_len]
  rw [got_r (by rw [hg]) (by rw [hg, hlen]) (by rw [hg]; show (s3 (mbytes m)).bad = false; rw [hs]) (by rw [hg]; show places _ ≠ []; rw [hp]; exact fun q => (places_empty _).1 q hk)]
  rw [hg]
  show fin1 (readF ⟨n0 (mbytes m), false, [], []⟩ (s3 (mbytes m)) (places ((n0 (mbytes m)).getD 0 0))) = _
  rw [hp, hn, hs]
  have := readF_enc hf [] (places (m.g 0)) ⟨[m.g 0, m.g 1, m.g 2, 0, 0, 0, 0, 0, 0, 0, 0, 0, 0, 0], false, [], []⟩
  rw [lay_all hl hb] at this
  exact fin_ok this rfl hc
theorem rdF_good {m0 m1 : Mg} {s s1 : RS} {q : Nat} (h : rdF m0 s q = some (m1, s1)) (hb : s1.bad = false) (hq : q < 14) (hl : m0.n.length = 14) : s.bad = false ∧ s.left = fieldB m1 q ++ s1.left ∧ m1.n.length = 14 ∧ (∀ p, p < 14 → p ≠ q → fieldB m1 p = fieldB m0 p) ∧ (∀ k, k < 3 → m1.n.getD k 0 = m0.n.getD k 0) := by
  by_cases h11 : q = 11
  · subst h11
    by_cases h01 : s.int.1 = 0 ∨ s.int.1 = 1
    · rw [rdF11 rfl h01] at h
      injection h with h; injection h with h1 h2
      subst h1; subst h2
      refine ⟨(int_gd hb).1, ?_, hl, fun p hp hne => ?_, fun _ _ => rfl⟩
      · rw [int_parts hb]
        congr 1
        show enc s.int.1 = enc (if decide (s.int.1 = 1) = true then 1 else 0)
        rcases h01 with e | e <;> rw [e] <;> rfl
      · unfold fieldB; rw [if_neg hne]
        by_cases h12 : p = 12
        · subst h12; rfl
        · by_cases h13 : p = 13
          · subst h13; rfl
          · rw [if_neg h12, if_neg h13]; simp only [if_neg hne]
    · rw [rdF11n rfl h01] at h; cases h
  by_cases h12 : q = 12
  · subst h12
    by_cases hc : s.int.1 < 0 ∨ ((s.int.2.left.length / 24 : Nat) : Int) < s.int.1 ∨ (rdE s.int.2 s.int.1.toNat).2.bad = true
    · rw [rdF12n rfl hc] at h; cases h
    · have hbf : (rdE s.int.2 s.int.1.toNat).2.bad = false := by
        cases hx : (rdE s.int.2 s.int.1.toNat).2.bad with
        | false => rfl
        | true => exact absurd (.inr (.inr hx)) hc
      rw [rdF12 rfl (fun q => hc (q.elim .inl fun q => .inr (.inl q))) hbf] at h
      injection h with h; injection h with h1 h2
      subst h1; subst h2
      have hi : s.int.2.bad = false := by
        cases hx : s.int.2.bad with
        | false => rfl
        | true => have := rdE_bad (s := s.int.2) (j := 0) hx s.int.1.toNat (Nat.zero_le _); rw [hb] at this; cases this
      refine ⟨(int_gd hi).1, ?_, hl, fun p hp hne => ?_, fun _ _ => rfl⟩
      · rw [int_parts hi, rdE_parts _ hb]
        show enc s.int.1 ++ _ = (enc ((rdE s.int.2 s.int.1.toNat).1.length : Int) ++ flatE (rdE s.int.2 s.int.1.toNat).1) ++ _
        rw [rdE_len, List.append_assoc, Int.toNat_of_nonneg (by omega)]
      · unfold fieldB
        by_cases hp11 : p = 11
        · subst hp11; rfl
        · by_cases h13 : p = 13
          · subst h13; rfl
          · simp only [if_neg hp11, if_neg hne, if_neg h13]
  by_cases h13 : q = 13
  · subst h13
    rw [rdF13 rfl] at h
    injection h with h; injection h with h1 h2
    subst h1; subst h2
    refine ⟨(int_gd (blob_good hb)).1, blob_parts hb, hl, fun p hp hne => ?_, fun _ _ => rfl⟩
    unfold fieldB
    by_cases hp11 : p = 11
    · subst hp11; rfl
    · by_cases h12p : p = 12
      · subst h12p; rfl
      · rw [if_neg hp11, if_neg h12p, if_neg hne, if_neg hp11, if_neg h12p, if_neg hne]
  · have hq11 : q < 11 := by omega
    rw [rdFn hq11] at h
    injection h with h; injection h with h1 h2
    subst h1; subst h2
    have hcl := cl_lt hq11
    have hset : (m0.n.set (cl q) s.int.1).getD (cl q) 0 = s.int.1 := by
      simp only [List.getD_eq_getElem?_getD, List.getElem?_set_self (show cl q < m0.n.length by omega)]; rfl
    refine ⟨(int_gd hb).1, ?_, (List.length_set ..).trans hl, fun p hp hne => ?_, fun k hk => ?_⟩
    · rw [int_parts hb]
      congr 1
      unfold fieldB
      rw [if_neg h11, if_neg h12, if_neg h13]
      exact congrArg enc hset.symm
    · unfold fieldB
      by_cases hp11 : p = 11
      · subst hp11; rfl
      · by_cases h12p : p = 12
        · subst h12p; rfl
        · by_cases h13p : p = 13
          · subst h13p; rfl
          · rw [if_neg hp11, if_neg h12p, if_neg h13p, if_neg hp11, if_neg h12p, if_neg h13p]
            show enc ((m0.n.set (cl q) s.int.1).getD (cl p) 0) = enc (m0.n.getD (cl p) 0)
            simp only [List.getD_eq_getElem?_getD, List.getElem?_set_ne (show cl q ≠ cl p from fun e => hne (cl_inj hq11 (by omega) e).symm)]
    · show (m0.n.set (cl q) s.int.1).getD k 0 = _
      simp only [List.getD_eq_getElem?_getD, List.getElem?_set_ne (show cl q ≠ k by omega)]
theorem readF_good (L : List Nat) : ∀ (m0 : Mg) (s : RS) (m : Mg) (s' : RS), readF m0 s L = some (m, s') → s'.bad = false → (∀ q ∈ L, q < 14) → L.Nodup → m0.n.length = 14 →
    s.bad = false ∧ s.left = fieldsB m L ++ s'.left ∧ (∀ p, p < 14 → p ∉ L → fieldB m p = fieldB m0 p) ∧ (∀ k, k < 3 → m.n.getD k 0 = m0.n.getD k 0) := by
  induction L with
  | nil =>
    intro m0 s m s' h hb _ _ _
    injection h with h; injection h with h1 h2
    subst h1; subst h2
    exact ⟨hb, rfl, fun _ _ _ => rfl, fun _ _ => rfl⟩
  | cons q L ih =>
    intro m0 s m s' h hb hL hnd hl
    rw [List.nodup_cons] at hnd
    cases hr : rdF m0 s q with
    | none =>
      have : readF m0 s (q :: L) = none := by show (match rdF m0 s q with | none => none | some r => readF r.1 r.2 L) = _; rw [hr]
      rw [this] at h; cases h
    | some r =>
      obtain ⟨m1, s1⟩ := r
      have e : readF m0 s (q :: L) = readF m1 s1 L := by show (match rdF m0 s q with | none => none | some r => readF r.1 r.2 L) = _; rw [hr]
      rw [e] at h
      have hq := hL q (List.mem_cons_self ..)
      have hq2 : ∀ x ∈ L, x < 14 := fun x hx => hL x (List.mem_cons_of_mem _ hx)
      have hl1 : m1.n.length = 14 := by
        unfold rdF at hr
        split at hr
        · split at hr
          · injection hr with hr; injection hr with h1 _; rw [← h1]; exact hl
          · cases hr
        · split at hr
          · split at hr
            · cases hr
            · injection hr with hr; injection hr with h1 _; rw [← h1]; exact hl
          · split at hr
            · injection hr with hr; injection hr with h1 _; rw [← h1]; exact hl
            · injection hr with hr; injection hr with h1 _; rw [← h1]; exact (List.length_set ..).trans hl
      obtain ⟨b1, p1, k1, n1⟩ := ih m1 s1 m s' h hb hq2 hnd.2 hl1
      obtain ⟨b0, p0, _, k0, n0'⟩ := rdF_good hr b1 hq hl
      refine ⟨b0, ?_, fun p hp hne => ?_, fun k hk => (n1 k hk).trans (n0' k hk)⟩
      · rw [p0, p1]
        show _ = (fieldB m q ++ fieldsB m L) ++ s'.left
        rw [k1 q hq hnd.1, List.append_assoc]
      · rw [k1 p hp fun q => hne (List.mem_cons_of_mem _ q), k0 p hp fun q => hne (q ▸ List.mem_cons_self ..)]
theorem got_cases (b : List UInt8) : (∃ e, e ≠ 0 ∧ got b = (noMg, e)) ∨ ∃ m, got b = (m, 0) ∧ chk m = 0 ∧ b = mput m := by
  by_cases h0 : (Frm.get b).2.2 ≠ 0
  · exact .inl ⟨_, h0, got_e h0⟩
  have h0 : (Frm.get b).2.2 = 0 := by omega
  by_cases h1 : (((Frm.get b).2.1 : Nat) : Int) ≠ ((b.length : Nat) : Int)
  · exact .inl ⟨2, by decide, got_n h0 h1⟩
  have h1 : (((Frm.get b).2.1 : Nat) : Int) = ((b.length : Nat) : Int) := by omega
  cases h2 : (s3 (Frm.get b).1).bad with
  | true => exact .inl ⟨4, by decide, got_b h0 h1 h2⟩
  | false =>
    by_cases h3 : places ((n0 (Frm.get b).1).getD 0 0) = []
    · exact .inl ⟨13, by decide, got_k h0 h1 h2 h3⟩
    rw [got_r h0 h1 h2 h3]
    cases hr : readF ⟨n0 (Frm.get b).1, false, [], []⟩ (s3 (Frm.get b).1) (places ((n0 (Frm.get b).1).getD 0 0)) with
    | none => exact .inl ⟨4, by decide, rfl⟩
    | some r =>
      obtain ⟨m, s⟩ := r
      by_cases he : s.err = 0
      · by_cases hk : chk m = 0
        · refine .inr ⟨m, fin_ok rfl he hk, hk, ?_⟩
          have hb : s.bad = false := by
            cases hx : s.bad with
            | false => rfl
            | true => simp [RS.err, hx] at he
          have hl : s.left = [] := by
            unfold RS.err at he
            rw [if_neg (by simp [hb])] at he
            cases hx : s.left with
            | nil => rfl
            | cons a l => rw [hx, if_pos (by simp)] at he; cases he
          obtain ⟨b0, p0, _, k0⟩ := readF_good _ _ _ _ _ hr hb (fun q hq => places_lt hq) (places_nodup _) rfl
          have hp : (Frm.get b).1 = mbytes m := by
            have b3 : (⟨(Frm.get b).1, false⟩ : RS).int.2.int.2.int.2.bad = false := b0
            have b2 := (int_gd b3).1
            have b1 := (int_gd b2).1
            have q1 : (Frm.get b).1 = enc (m.g 0) ++ (⟨(Frm.get b).1, false⟩ : RS).int.2.left := by rw [show m.g 0 = _ from k0 0 (by decide)]; exact int_parts (s := ⟨(Frm.get b).1, false⟩) b1
            have q2 : (⟨(Frm.get b).1, false⟩ : RS).int.2.left = enc (m.g 1) ++ (⟨(Frm.get b).1, false⟩ : RS).int.2.int.2.left := by rw [show m.g 1 = _ from k0 1 (by decide)]; exact int_parts b2
            have q3 : (⟨(Frm.get b).1, false⟩ : RS).int.2.int.2.left = enc (m.g 2) ++ (s3 (Frm.get b).1).left := by rw [show m.g 2 = _ from k0 2 (by decide)]; exact int_parts b3
            have hg : places ((n0 (Frm.get b).1).getD 0 0) = places (m.g 0) := by rw [show m.g 0 = _ from k0 0 (by decide)]
            conv => lhs; rw [q1, q2, q3, p0]
            rw [hl, List.append_nil, hg]
            unfold mbytes head3
            simp only [List.append_assoc]
          obtain ⟨_, _, _, g4⟩ := Frm.get_good h0
          rw [List.take_of_length_le (by omega)] at g4
          rw [← g4, hp]; rfl
        · exact .inl ⟨_, hk, fin_chk rfl he hk⟩
      · exact .inl ⟨4, by decide, if_pos he⟩
theorem got_bad {b : List UInt8} (h : (got b).2 ≠ 0) : (got b).1 = noMg := by
  rcases got_cases b with ⟨e, _, h1⟩ | ⟨m, h1, _⟩
  · rw [h1]
  · rw [h1] at h; exact absurd rfl h
theorem got_only {b : List UInt8} (h : (got b).2 = 0) : chk (got b).1 = 0 ∧ mput (got b).1 = b := by
  rcases got_cases b with ⟨e, he, h1⟩ | ⟨m, h1, h2, h3⟩
  · rw [h1] at h; exact absurd h he
  · rw [h1]; exact ⟨h2, h3.symm⟩
theorem mput_len (m : Mg) : (mput m).length = 8 + (mbytes m).length := by unfold mput; rw [List.length_append, Frm.head_len]
theorem got_cut {m : Mg} (h6 : (mbytes m).length ≤ 65536) {q : Nat} (hq : q < (mput m).length) : (got ((mput m).take q)).2 ≠ 0 := by
  have := Frm.get_cut h6 (q := q) (by rw [mput_len] at hq; exact hq)
  rw [got_e (b := (mput m).take q) (by unfold mput; rw [this]; decide)]
  unfold mput; rw [this]; decide
theorem got_more {m : Mg} (h6 : (mbytes m).length ≤ 65536) (x : UInt8) : (got (mput m ++ [x])).2 = 2 := by
  have : Frm.get (mput m ++ [x]) = _ := Frm.get_put h6 [x]
  rw [got_n (by rw [this]) (by rw [this, List.length_append, mput_len, List.length_singleton]; show ((8 + (mbytes m).length : Nat) : Int) ≠ _; omega)]
theorem mput_eq {m : Mg} (h6 : (mbytes m).length ≤ 65536) : (Frm.put (mbytes m)).1 = mput m := by rw [Frm.put_ok h6]; rfl
theorem turned_one {b C : List UInt8} {k fr to : Nat} (h : Turned2 b C k 1#32 fr to 1 1) : ∀ j, j ≤ 31 → Turned2 b C k 1#32 fr to (1 + j) 1
  | 0, _ => h
  | j + 1, hj => (turned_one h j (by omega)).skip fun q => by
    have h1 := q.1
    rw [BitVec.getLsbD_one] at h1
    simp at h1
theorem got_turned {m : Mg} (h6 : (mbytes m).length ≤ 65536) {k : Nat} (hk : k < 8 * (mput m).length) : (got ((mput m).set (k / 8) ((mput m).getD (k / 8) 0 ^^^ one8 (k % 8)))).2 ≠ 0 := by
  obtain ⟨C, hC⟩ : ∃ C, C = (mput m).set (k / 8) ((mput m).getD (k / 8) 0 ^^^ one8 (k % 8)) := ⟨_, rfl⟩
  rw [← hC]
  have hCl : C.length = 8 + (mbytes m).length := by rw [hC, List.length_set, mput_len]
  have hml := mput_len m
  rw [← mput_eq h6] at hC
  have hfl := congrArg List.length (mput_eq h6)
  by_cases h4 : k < 32
  · rcases turned_len h6 h4 hC with ⟨h1, _, _⟩ | ⟨h1, h2⟩
    · rw [got_e h1]; exact h1
    · rw [got_n h1 (by omega)]; decide
  · have key : ∀ fr to, ((fr = 4 ∧ to = 8) ∨ (fr = 8 ∧ to = (Frm.put (mbytes m)).1.length ∧ 64 ≤ k)) → fr ≤ k / 8 → k / 8 < to → to ≤ (Frm.put (mbytes m)).1.length → (got C).2 ≠ 0 := fun fr to hft h1 h2 h3 => by
      have ht := (Turned2.start (Frm.put (mbytes m)).1 k 1#32 fr to).turn (by decide) h1 h2 h3
      rw [show k + 0 = k from rfl, ← hC] at ht
      have := (turned_get h6 (turned_one ht 31 (Nat.le_refl _)) hft).2 (by decide)
      rw [got_e (by rw [this]; decide), this]; decide
    by_cases h8 : k < 64
    · exact key 4 8 (.inl ⟨rfl, rfl⟩) (by omega) (by omega) (by omega)
    · exact key 8 _ (.inr ⟨rfl, rfl, by omega⟩) (by omega) (by omega) (Nat.le_refl _)
theorem unlike {a b : Mg} (ha : got (mput a) = (a, 0)) (hb : got (mput b) = (b, 0)) (h6 : (mbytes a).length ≤ 65536) (h7 : (mbytes b).length ≤ 65536) : (mput a).take (min (mput a).length (mput b).length) = (mput b).take (min (mput a).length (mput b).length) ↔ a = b := by
  constructor
  · intro e
    by_cases hl : (mput a).length ≤ (mput b).length
    · rw [Nat.min_eq_left hl, List.take_of_length_le (Nat.le_refl _)] at e
      by_cases hl2 : (mput b).length ≤ (mput a).length
      · rw [List.take_of_length_le hl2] at e
        rw [e, hb] at ha
        injection ha with ha _; exact ha.symm
      · have := got_cut h7 (q := (mput a).length) (by omega)
        rw [← e, ha] at this; exact absurd rfl this
    · rw [Nat.min_eq_right (by omega), List.take_of_length_le (l := mput b) (Nat.le_refl _)] at e
      have := got_cut h6 (q := (mput b).length) (by omega)
      rw [e, hb] at this; exact absurd rfl this
  · rintro rfl; rfl
end Go.Proofs.Ytccbpfbcaogcnaa
