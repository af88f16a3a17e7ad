/- An operation's bytes are read as it was; what is read has just these bytes; cut off or with more behind them they are not it. -/
import Derived.Test.YthaojdpeimlngaaGet2
namespace Go.Proofs.Ythaojdpeimlngaa
open Go Go.RowKit Kf
set_option maxRecDepth 20000
namespace Pk
/-- more bytes behind -/
def RS.more (s : RS) (m : List UInt8) : RS := ⟨s.left ++ m, s.bad⟩
theorem int_good {s : RS} (h : s.int.2.bad = false) : s.bad = false ∧ 8 ≤ s.left.length ∧ s.int = (dec (s.left.take 8), ⟨s.left.drop 8, false⟩) := by
  unfold RS.int at h ⊢
  split at h
  · cases h
  · rename_i hc
    rw [if_neg hc]
    exact ⟨by simpa using fun e => hc (.inl e), by omega, rfl⟩
theorem int_more {s : RS} (m : List UInt8) (h : s.int.2.bad = false) : (s.more m).int = (s.int.1, s.int.2.more m) := by
  obtain ⟨h1, h2, h3⟩ := int_good h
  rw [h3]
  unfold RS.int RS.more
  rw [if_neg (by simp [h1]; omega)]
  simp only [h1]
  rw [List.take_append_of_le_length h2, List.drop_append_of_le_length h2]
theorem int_parts {s : RS} (h : s.int.2.bad = false) : s.left = enc s.int.1 ++ s.int.2.left := by
  obtain ⟨h1, h2, h3⟩ := int_good h
  rw [h3]
  show s.left = enc (dec (s.left.take 8)) ++ s.left.drop 8
  rw [enc_dec (by simp; omega), List.take_append_drop]
theorem take_good {s : RS} {n : Int} (h : (s.take n).2.bad = false) : s.bad = false ∧ 0 ≤ n ∧ n.toNat ≤ s.left.length ∧ s.take n = (s.left.take n.toNat, ⟨s.left.drop n.toNat, false⟩) := by
  unfold RS.take at h ⊢
  split at h
  · cases h
  · rename_i hc
    rw [if_neg hc]
    exact ⟨by simpa using fun e => hc (.inl e), by omega, by omega, rfl⟩
theorem take_more {s : RS} {n : Int} (m : List UInt8) (h : (s.take n).2.bad = false) : (s.more m).take n = ((s.take n).1, (s.take n).2.more m) := by
  obtain ⟨h1, h2, h3, h4⟩ := take_good h
  rw [h4]
  unfold RS.take RS.more
  rw [if_neg (by simp [h1]; omega)]
  simp only
  rw [List.take_append_of_le_length h3, List.drop_append_of_le_length h3]
theorem blob_good {s : RS} (h : s.blob.2.bad = false) : s.int.2.bad = false := (take_good h).1
theorem blob_more {s : RS} (m : List UInt8) (h : s.blob.2.bad = false) : (s.more m).blob = (s.blob.1, s.blob.2.more m) := by
  have h1 := blob_good h
  unfold RS.blob at h ⊢
  rw [int_more m h1]
  exact take_more m h
theorem blob_parts {s : RS} (h : s.blob.2.bad = false) : s.left = blob s.blob.1 ++ s.blob.2.left := by
  have h1 := blob_good h
  obtain ⟨h2, h3, h4, h5⟩ := take_good h
  rw [int_parts h1]
  unfold RS.blob blob
  rw [h5, List.append_assoc, List.take_append_drop]
  congr 2
  show s.int.1 = (((s.int.2.left.take s.int.1.toNat).length : Nat) : Int)
  simp only [List.length_take]
  omega
theorem many_bad (s : RS) (n : Nat) (h : (s.many (n + 1)).2.bad = false) : (s.many n).2.bad = false := by
  have : (s.many n).2.int.2.bad = false := h
  exact (int_good this).1
theorem many_more {s : RS} (m : List UInt8) : ∀ n, (s.many n).2.bad = false → (s.more m).many n = ((s.many n).1, (s.many n).2.more m)
  | 0, _ => rfl
  | n + 1, h => by
    have ih := many_more m n (many_bad s n h)
    show (((s.more m).many n).1 ++ [((s.more m).many n).2.int.1], ((s.more m).many n).2.int.2) = _
    rw [ih]
    show (_ ++ [(((s.many n).2.more m).int).1], (((s.many n).2.more m).int).2) = _
    rw [int_more m h]
    rfl
theorem many_parts {s : RS} : ∀ n, (s.many n).2.bad = false → s.left = (s.many n).1.flatMap enc ++ (s.many n).2.left
  | 0, _ => by simp [RS.many]
  | n + 1, h => by
    have ih := many_parts n (many_bad s n h)
    rw [ih]
    show _ = ((s.many n).1 ++ [(s.many n).2.int.1]).flatMap enc ++ (s.many n).2.int.2.left
    rw [List.flatMap_append, List.append_assoc]
    congr 1
    rw [show [(s.many n).2.int.1].flatMap enc = enc (s.many n).2.int.1 by simp]
    exact int_parts h
theorem ints_good {s : RS} (h : s.ints.2.bad = false) : s.int.2.bad = false ∧ 0 ≤ s.int.1 ∧ s.int.1 ≤ ((s.int.2.left.length / 8 : Nat) : Int) ∧ s.ints = s.int.2.many s.int.1.toNat := by
  unfold RS.ints at h ⊢
  split at h
  · cases h
  · rename_i hc
    rw [if_neg hc]
    exact ⟨by simpa using fun e => hc (.inl e), by omega, by omega, rfl⟩
theorem ints_more {s : RS} (m : List UInt8) (h : s.ints.2.bad = false) : (s.more m).ints = (s.ints.1, s.ints.2.more m) := by
  obtain ⟨h1, h2, h3, h4⟩ := ints_good h
  rw [h4] at h ⊢
  unfold RS.ints
  rw [int_more m h1]
  rw [if_neg (by simp only [RS.more, h1, List.length_append]; simp; omega)]
  exact many_more m _ h
theorem ints_parts {s : RS} (h : s.ints.2.bad = false) : s.left = ints s.ints.1 ++ s.ints.2.left := by
  obtain ⟨h1, h2, h3, h4⟩ := ints_good h
  rw [h4] at h ⊢
  have hl := (many_le s.int.2 s.int.1.toNat).1
  unfold ints
  rw [hl, List.append_assoc, ← many_parts _ h, int_parts h1]
  congr 2
  omega
theorem read_enc {v : Int} (h : -9223372036854775808 ≤ v ∧ v ≤ 9223372036854775807) (rest : List UInt8) : (⟨enc v ++ rest, false⟩ : RS).int = (v, ⟨rest, false⟩) := by
  have hl : (enc v ++ rest).length = 8 + rest.length := by simp [enc_len]
  have ht : (enc v ++ rest).take 8 = enc v := List.take_left' (enc_len v)
  have hd : (enc v ++ rest).drop 8 = rest := List.drop_left' (enc_len v)
  unfold RS.int
  rw [if_neg (by simp [hl])]
  show (dec ((enc v ++ rest).take 8), (⟨(enc v ++ rest).drop 8, false⟩ : RS)) = _
  rw [ht, hd, dec_enc h]
theorem read_blob {p : List UInt8} (h : p.length ≤ 1000000) (rest : List UInt8) : (⟨blob p ++ rest, false⟩ : RS).blob = (p, ⟨rest, false⟩) := by
  unfold RS.blob blob
  rw [List.append_assoc, read_enc (by omega)]
  unfold RS.take
  rw [if_neg (by simp; omega)]
  show ((p ++ rest).take _, (⟨(p ++ rest).drop _, false⟩ : RS)) = _
  rw [show ((p.length : Int)).toNat = p.length from rfl, List.take_left' rfl, List.drop_left' rfl]
theorem many_enc : ∀ (l : List Int), (∀ x ∈ l, -9223372036854775808 ≤ x ∧ x ≤ 9223372036854775807) → ∀ (rest : List UInt8), (⟨l.flatMap enc ++ rest, false⟩ : RS).many l.length = (l, ⟨rest, false⟩) := by
  intro l
  induction l using snoc_ind with
  | h0 => intro _ rest; rfl
  | h1 a x ih =>
    intro hi rest
    have h2 := hi x (by simp)
    rw [List.length_append, List.length_singleton, List.flatMap_append, List.append_assoc]
    show ((RS.many _ a.length).1 ++ [(RS.many _ a.length).2.int.1], (RS.many _ a.length).2.int.2) = _
    rw [ih fun y hy => hi y (by simp [hy])]
    show (a ++ [(RS.int _).1], (RS.int _).2) = _
    rw [show [x].flatMap enc = enc x by simp, read_enc h2]
theorem read_ints {l : List Int} (hi : ∀ x ∈ l, -9223372036854775808 ≤ x ∧ x ≤ 9223372036854775807) (h : l.length ≤ 1000000) (rest : List UInt8) : (⟨ints l ++ rest, false⟩ : RS).ints = (l, ⟨rest, false⟩) := by
  unfold RS.ints ints
  rw [List.append_assoc, read_enc (by omega)]
  rw [if_neg (by simp only [List.length_append, flat_len]; simp; omega)]
  exact many_enc l hi rest
end Pk
open Pk
/-! ### Writes -/
theorem rdW_prev (s : RS) (k : Nat) (h : (rdW s (k + 1)).2.bad = false) : (rdW s k).2.bad = false ∧ (rdW s k).2.int.2.bad = false ∧ (rdW s k).2.int.2.blob.2.bad = false := by
  have h0 : (rdW s k).2.int.2.blob.2.bad = false := h
  have h1 := (int_good (blob_good h0)).1
  exact ⟨(int_good h1).1, h1, h0⟩
theorem rdW_more {s : RS} (m : List UInt8) : ∀ k, (rdW s k).2.bad = false → rdW (s.more m) k = ((rdW s k).1, (rdW s k).2.more m)
  | 0, _ => rfl
  | k + 1, h => by
    obtain ⟨h1, h2, h3⟩ := rdW_prev s k h
    have ih := rdW_more m k h1
    show ((rdW (s.more m) k).1 ++ [⟨(rdW (s.more m) k).2.int.1, (rdW (s.more m) k).2.int.2.blob.1⟩], (rdW (s.more m) k).2.int.2.blob.2) = _
    rw [ih]
    show (_ ++ [(⟨((rdW s k).2.more m).int.1, ((rdW s k).2.more m).int.2.blob.1⟩ : Wr)], ((rdW s k).2.more m).int.2.blob.2) = _
    rw [int_more m h2]
    show (_ ++ [(⟨_, ((rdW s k).2.int.2.more m).blob.1⟩ : Wr)], ((rdW s k).2.int.2.more m).blob.2) = _
    rw [blob_more m h3]
    rfl
theorem rdW_parts {s : RS} : ∀ k, (rdW s k).2.bad = false → s.left = flatW (rdW s k).1 ++ (rdW s k).2.left
  | 0, _ => by simp [rdW, flatW]
  | k + 1, h => by
    obtain ⟨h1, h2, h3⟩ := rdW_prev s k h
    have ih := rdW_parts k h1
    rw [ih]
    show _ = flatW ((rdW s k).1 ++ [⟨(rdW s k).2.int.1, (rdW s k).2.int.2.blob.1⟩]) ++ (rdW s k).2.int.2.blob.2.left
    unfold flatW
    rw [List.flatMap_append, List.append_assoc]
    congr 1
    rw [int_parts h2, blob_parts h3]
    simp [encW]
theorem rdW_enc : ∀ (l : List Wr), (∀ x ∈ l, (-9223372036854775808 ≤ x.Block ∧ x.Block ≤ 9223372036854775807) ∧ x.Data.length ≤ 1000000) → ∀ rest, rdW (⟨flatW l ++ rest, false⟩ : RS) l.length = (l, ⟨rest, false⟩) := by
  intro l
  induction l using snoc_ind with
  | h0 => intro _ rest; rfl
  | h1 a x ih =>
    intro hi rest
    have h2 := hi x (by simp)
    have e : flatW (a ++ [x]) ++ rest = flatW a ++ (enc x.Block ++ (blob x.Data ++ rest)) := by simp [flatW, encW]
    rw [e, List.length_append, List.length_singleton]
    show ((rdW _ a.length).1 ++ [⟨(rdW _ a.length).2.int.1, (rdW _ a.length).2.int.2.blob.1⟩], (rdW _ a.length).2.int.2.blob.2) = _
    rw [ih fun y hy => hi y (by simp [hy])]
    show (a ++ [⟨(RS.int _).1, (RS.int _).2.blob.1⟩], (RS.int _).2.blob.2) = _
    rw [read_enc h2.1]
    show (a ++ [(⟨_, (RS.blob _).1⟩ : Wr)], (RS.blob _).2) = _
    rw [read_blob h2.2]
/-! ### Numbers -/
theorem getN_bad (L : List Nat) : ∀ n s, (getN n s L).2.bad = false → s.bad = false := by
  induction L with
  | nil => intro n s h; exact h
  | cons a L ih => intro n s h; exact (int_good (ih _ _ h)).1
theorem getN_more (m : List UInt8) (L : List Nat) : ∀ n s, (getN n s L).2.bad = false → getN n (s.more m) L = ((getN n s L).1, (getN n s L).2.more m) := by
  induction L with
  | nil => intro n s _; rfl
  | cons a L ih =>
    intro n s h
    have h1 := getN_bad L _ _ h
    show getN (n.set a (s.more m).int.1) (s.more m).int.2 L = _
    rw [int_more m h1]
    exact ih _ _ h
theorem getN_keep (L : List Nat) {b : Nat} (hb : b ∉ L) : ∀ n s, (getN n s L).1.getD b 0 = n.getD b 0 := by
  induction L with
  | nil => intro n s; rfl
  | cons a L ih =>
    intro n s
    show (getN _ _ L).1.getD b 0 = _
    rw [ih fun h => hb (List.mem_cons_of_mem _ h)]
    simp only [List.getD_eq_getElem?_getD, List.getElem?_set_ne (show a ≠ b from fun e => hb (e ▸ List.mem_cons_self ..))]
theorem getN_parts (L : List Nat) (hd : L.Nodup) : ∀ n s, (∀ a ∈ L, a < n.length) → (getN n s L).2.bad = false → s.left = flatN (getN n s L).1 L ++ (getN n s L).2.left := by
  induction L with
  | nil => intro n s _ _; rfl
  | cons a L ih =>
    intro n s hl h
    have h1 := getN_bad L _ _ h
    rw [List.nodup_cons] at hd
    have h2 := ih hd.2 (n.set a s.int.1) s.int.2 (fun b hb => by rw [List.length_set]; exact hl b (List.mem_cons_of_mem _ hb)) h
    show s.left = flatN (getN _ _ L).1 (a :: L) ++ (getN _ _ L).2.left
    rw [int_parts h1]
    have hk : (getN (n.set a s.int.1) s.int.2 L).1.getD a 0 = s.int.1 := by
      rw [getN_keep L hd.1, List.getD_eq_getElem?_getD, List.getElem?_set_self (hl a (List.mem_cons_self ..))]; rfl
    show enc s.int.1 ++ s.int.2.left = (enc ((getN (n.set a s.int.1) s.int.2 L).1.getD a 0) ++ flatN (getN (n.set a s.int.1) s.int.2 L).1 L) ++ _
    rw [hk, List.append_assoc, ← h2]
/-- numbers laid over others -/
def over (n m : List Int) : List Nat → List Int
  | [] => n
  | a :: L => over (n.set a (m.getD a 0)) m L
theorem over_len (m : List Int) (L : List Nat) : ∀ n, (over n m L).length = n.length := by
  induction L with
  | nil => intro n; rfl
  | cons a L ih => intro n; show (over _ m L).length = _; rw [ih, List.length_set]
theorem over_get (m : List Int) (L : List Nat) : ∀ n b, b < n.length → (over n m L).getD b 0 = if b ∈ L then m.getD b 0 else n.getD b 0 := by
  induction L with
  | nil => intro n b _; simp [over]
  | cons a L ih =>
    intro n b hb
    show (over _ m L).getD b 0 = _
    rw [ih _ _ (by rw [List.length_set]; exact hb)]
    by_cases h : b ∈ L
    · rw [if_pos h, if_pos (List.mem_cons_of_mem _ h)]
    · rw [if_neg h]
      by_cases e : b = a
      · subst e
        rw [if_pos (List.mem_cons_self ..), List.getD_eq_getElem?_getD, List.getElem?_set_self hb]; rfl
      · rw [if_neg (by simp [h, e])]
        simp only [List.getD_eq_getElem?_getD, List.getElem?_set_ne (show a ≠ b from fun q => e q.symm)]
theorem getN_enc {m : List Int} (hm : ∀ k, -9223372036854775808 ≤ m.getD k 0 ∧ m.getD k 0 ≤ 9223372036854775807) (rest : List UInt8) (L : List Nat) : ∀ n, getN n (⟨flatN m L ++ rest, false⟩ : RS) L = (over n m L, ⟨rest, false⟩) := by
  induction L with
  | nil => intro n; rfl
  | cons a L ih =>
    intro n
    have e : flatN m (a :: L) ++ rest = enc (m.getD a 0) ++ (flatN m L ++ rest) := by simp [flatN]
    rw [e]
    show getN (n.set a (RS.int _).1) (RS.int _).2 L = _
    rw [read_enc (hm a)]
    exact ih _
theorem offL_nodup (k : Int) : (offL k).Nodup ∧ ∀ a ∈ offL k, a < 13 := by
  unfold offL
  cases h : offs k with
  | none => exact ⟨List.nodup_nil, fun a ha => by cases ha⟩
  | some L => rcases offs_cases h with h | h | h | h | h | h | h | h | h | h | h <;> (obtain ⟨_, rfl⟩ := h; exact ⟨by decide, by decide⟩)
theorem get_ext {a b : List Int} (ha : a.length = 13) (hb : b.length = 13) (h : ∀ k, k < 13 → a.getD k 0 = b.getD k 0) : a = b := by
  apply List.ext_getElem (by omega)
  intro i h1 h2
  have := h i (by omega)
  simpa [List.getD_eq_getElem?_getD, List.getElem?_eq_getElem h1, List.getElem?_eq_getElem h2] using this
/-! ### All of it -/
/-- what is read of bytes, ahead of the checks -/
def rd (l : List UInt8) : Option (Od × RS) := match offs ((n0 l).getD 0 0) with | none => none | some L => getB (getN (n0 l) (s3 l) L).1 (getN (n0 l) (s3 l) L).2
theorem got_rd (l : List UInt8) : got l = fin1 (rd l) := by
  unfold rd
  cases h : offs ((n0 l).getD 0 0) with
  | none => rw [got_none h]; rfl
  | some L => rw [got_some h]
theorem getL_good {n : List Int} {s : RS} {o : Od} {s' : RS} (h : getL n s = some (o, s')) : s'.bad = false ∧ s.ints.2.bad = false ∧ s.ints.2.ints.2.bad = false ∧ s.ints.2.ints.2.int.2.bad = false ∧
    0 ≤ s.ints.2.ints.2.int.1 ∧ s.ints.2.ints.2.int.1 ≤ ((s.ints.2.ints.2.int.2.left.length / 8 : Nat) : Int) ∧ (rdW s.ints.2.ints.2.int.2 s.ints.2.ints.2.int.1.toNat).2.bad = false ∧
    o = ⟨n, s.ints.1, s.ints.2.ints.1, (rdW s.ints.2.ints.2.int.2 s.ints.2.ints.2.int.1.toNat).1, []⟩ ∧ s' = (rdW s.ints.2.ints.2.int.2 s.ints.2.ints.2.int.1.toNat).2 := by
  unfold getL at h
  simp only at h
  split at h
  · cases h
  · rename_i hc
    injection h with h
    injection h with ho hs
    have hb : (rdW s.ints.2.ints.2.int.2 s.ints.2.ints.2.int.1.toNat).2.bad = false := by simpa using fun e => hc (.inr (.inr e))
    have hi : s.ints.2.ints.2.int.2.bad = false := by
      cases hq : s.ints.2.ints.2.int.2.bad with
      | false => rfl
      | true =>
        have := rdW_bad (s := s.ints.2.ints.2.int.2) (j := 0) hq s.ints.2.ints.2.int.1.toNat (Nat.zero_le _)
        rw [hb] at this; cases this
    have hi2 := (int_good hi).1
    have hi1 := (int_good (ints_good hi2).1).1
    exact ⟨by rw [← hs]; exact hb, hi1, hi2, hi, by omega, by omega, hb, ho.symm, hs.symm⟩
theorem getL_more {n : List Int} {s : RS} {o : Od} {s' : RS} (m : List UInt8) (h : getL n s = some (o, s')) : getL n (s.more m) = some (o, s'.more m) := by
  obtain ⟨h1, h2, h3, h4, h5, h6, h7, rfl, rfl⟩ := getL_good h
  unfold getL
  simp only
  rw [ints_more m h2]
  simp only
  rw [ints_more m h3]
  simp only
  rw [int_more m h4]
  simp only
  rw [rdW_more m _ h7]
  rw [if_neg]
  simp only [RS.more, List.length_append]
  rintro (q | q | q)
  · omega
  · omega
  · rw [h7] at q; cases q
theorem getB_more {n : List Int} {s : RS} {o : Od} {s' : RS} (m : List UInt8) (h : getB n s = some (o, s')) (hb : s'.bad = false) : getB n (s.more m) = some (o, s'.more m) := by
  unfold getB at h ⊢
  split at h
  · rename_i hk; rw [if_pos hk]; exact getL_more m h
  · rename_i hk
    rw [if_neg hk]
    split at h
    · rename_i hk6
      rw [if_pos hk6]
      injection h with h
      injection h with ho hs
      subst hs
      rw [blob_more m hb]
      rw [← ho]
    · rename_i hk6
      rw [if_neg hk6]
      injection h with h
      injection h with ho hs
      subst hs
      rw [← ho]
theorem getB_bad {n : List Int} {s : RS} {o : Od} {s' : RS} (h : getB n s = some (o, s')) (hb : s'.bad = false) : s.bad = false := by
  unfold getB at h
  split at h
  · exact (int_good (ints_good (getL_good h).2.1).1).1
  · split at h
    · injection h with h
      injection h with ho hs
      subst hs
      exact (int_good (blob_good hb)).1
    · injection h with h
      injection h with ho hs
      subst hs
      exact hb
theorem getB_n {n : List Int} {s : RS} {o : Od} {s' : RS} (h : getB n s = some (o, s')) : o.n = n := by
  unfold getB at h
  split at h
  · rw [(getL_good h).2.2.2.2.2.2.2.1]
  · split at h <;> (injection h with h; injection h with ho hs; rw [← ho])
/-- what is read, and is not bad, is read too with more behind it -/
theorem rd_more {l : List UInt8} {o : Od} {s : RS} (m : List UInt8) (h : rd l = some (o, s)) (hb : s.bad = false) : rd (l ++ m) = some (o, s.more m) := by
  unfold rd at h
  cases hL : offs ((n0 l).getD 0 0) with
  | none => rw [hL] at h; cases h
  | some L =>
    rw [hL] at h
    have b1 := getB_bad h hb
    have b2 := getN_bad L _ _ b1
    have b3 : (⟨l, false⟩ : RS).int.2.int.2.int.2.bad = false := b2
    have b4 := (int_good b3).1
    have b5 := (int_good b4).1
    have e1 : (⟨l ++ m, false⟩ : RS).int = ((⟨l, false⟩ : RS).int.1, (⟨l, false⟩ : RS).int.2.more m) := int_more (s := ⟨l, false⟩) m b5
    have e2 := int_more m b4
    have e3 := int_more m b3
    have hn : n0 (l ++ m) = n0 l := by unfold n0; rw [e1]; simp only; rw [e2]; simp only; rw [e3]
    have hs : s3 (l ++ m) = (s3 l).more m := by unfold s3; rw [e1]; simp only; rw [e2]; simp only; rw [e3]
    unfold rd
    rw [hn, hL]
    simp only
    rw [hs, getN_more m L _ _ b1]
    exact getB_more m h hb
/-- what is read, and is not bad, has the bytes that went -/
theorem rd_parts {l : List UInt8} {o : Od} {s : RS} (h : rd l = some (o, s)) (hb : s.bad = false) : l = obytes o ++ s.left := by
  unfold rd at h
  cases hL : offs ((n0 l).getD 0 0) with
  | none => rw [hL] at h; cases h
  | some L =>
    rw [hL] at h
    simp only at h
    have b1 := getB_bad h hb
    have b2 := getN_bad L _ _ b1
    have b3 : (⟨l, false⟩ : RS).int.2.int.2.int.2.bad = false := b2
    have b4 := (int_good b3).1
    have b5 := (int_good b4).1
    have hnd := offL_nodup ((n0 l).getD 0 0)
    rw [offL_eq hL] at hnd
    have hge := offL_ge ((n0 l).getD 0 0)
    rw [offL_eq hL] at hge
    have on := getB_n h
    have hk0 : o.g 0 = (n0 l).getD 0 0 := by show o.n.getD 0 0 = _; rw [on]; exact getN_keep L (fun q => by have := hge 0 q; omega) _ _
    have hk1 : o.g 1 = (n0 l).getD 1 0 := by show o.n.getD 1 0 = _; rw [on]; exact getN_keep L (fun q => by have := hge 1 q; omega) _ _
    have hk2 : o.g 2 = (n0 l).getD 2 0 := by show o.n.getD 2 0 = _; rw [on]; exact getN_keep L (fun q => by have := hge 2 q; omega) _ _
    have p1 : l = enc (o.g 0) ++ (⟨l, false⟩ : RS).int.2.left := by rw [hk0]; exact int_parts (s := ⟨l, false⟩) b5
    have p2 : (⟨l, false⟩ : RS).int.2.left = enc (o.g 1) ++ (⟨l, false⟩ : RS).int.2.int.2.left := by rw [hk1]; exact int_parts b4
    have p3 : (⟨l, false⟩ : RS).int.2.int.2.left = enc (o.g 2) ++ (s3 l).left := by rw [hk2]; exact int_parts b3
    have p4 := getN_parts L hnd.1 (n0 l) (s3 l) (fun a ha => hnd.2 a ha) b1
    have hoff : offL (o.g 0) = L := by rw [hk0]; exact offL_eq hL
    have hd : l = headN o ++ (getN (n0 l) (s3 l) L).2.left := by
      conv => lhs; rw [p1, p2, p3, p4]
      unfold headN head0
      rw [hoff, on]
      simp only [List.append_assoc, Od.g, on]
    have hkk : (getN (n0 l) (s3 l) L).1.getD 0 0 = o.g 0 := by show _ = o.n.getD 0 0; rw [on]
    rw [hd]
    unfold getB at h
    split at h
    · rename_i hk
      obtain ⟨h1, h2, h3, h4, h5, h6, h7, ho, rfl⟩ := getL_good h
      rw [obytes2 (by rw [← hkk]; exact hk), List.append_assoc, List.append_assoc]
      congr 1
      rw [ints_parts h2, ints_parts h3, int_parts h4, rdW_parts _ h7]
      rw [ho]
      unfold lists2
      simp only [List.append_assoc, rdW_len]
      rw [Int.toNat_of_nonneg h5]
    · rename_i hk
      split at h
      · rename_i hk6
        injection h with h
        injection h with ho hs
        subst hs
        rw [obytes6 (by rw [← hkk]; exact hk6), List.append_assoc, ← ho]
        congr 1
        exact blob_parts hb
      · rename_i hk6
        injection h with h
        injection h with ho hs
        subst hs
        rw [obytes0 (by rw [← hkk]; exact hk) (by rw [← hkk]; exact hk6)]
/-- a right operation is read from its bytes, and nothing is left -/
theorem rd_obytes {o : Od} (hlen : o.n.length = 13) (hin : ∀ k, -9223372036854775808 ≤ o.n.getD k 0 ∧ o.n.getD k 0 ≤ 9223372036854775807) (hc : chk o = 0) : rd (obytes o) = some (o, ⟨[], false⟩) := by
  obtain ⟨c0, c1, ⟨cP, cR, cW⟩, cD, ⟨c4, cp, cr, cw⟩, c5, c6⟩ := chk_ok hc
  obtain ⟨T, hT⟩ : ∃ T, obytes o = headN o ++ T := ⟨_, rfl⟩
  have hh : obytes o = enc (o.g 0) ++ (enc (o.g 1) ++ (enc (o.g 2) ++ (flatN o.n (offL (o.g 0)) ++ T))) := by
    rw [hT]; unfold headN head0; simp only [List.append_assoc]
  have e1 : (⟨obytes o, false⟩ : RS).int = (o.g 0, ⟨enc (o.g 1) ++ (enc (o.g 2) ++ (flatN o.n (offL (o.g 0)) ++ T)), false⟩) := by rw [hh]; exact read_enc (hin 0) _
  have e2 := read_enc (hin 1) (enc (o.g 2) ++ (flatN o.n (offL (o.g 0)) ++ T))
  have e3 := read_enc (hin 2) (flatN o.n (offL (o.g 0)) ++ T)
  have hn : n0 (obytes o) = [o.g 0, o.g 1, o.g 2, 0, 0, 0, 0, 0, 0, 0, 0, 0, 0] := by unfold n0; rw [e1]; simp only; rw [e2]; simp only; rw [e3]
  have hs : s3 (obytes o) = ⟨flatN o.n (offL (o.g 0)) ++ T, false⟩ := by unfold s3; rw [e1]; simp only; rw [e2]; simp only; rw [e3]
  have hL := offs_of c0
  unfold rd
  rw [show (n0 (obytes o)).getD 0 0 = o.g 0 by rw [hn]; rfl, hL]
  simp only
  rw [hs, getN_enc hin, hn]
  have hov : over [o.g 0, o.g 1, o.g 2, 0, 0, 0, 0, 0, 0, 0, 0, 0, 0] o.n (offL (o.g 0)) = o.n := by
    refine get_ext (by rw [over_len]; rfl) hlen fun k hk => ?_
    rw [over_get _ _ _ _ hk]
    split
    · rfl
    · rename_i hq
      match k, hk with
      | 0, _ | 1, _ | 2, _ => rfl
      | 3, _ => exact (c1.1 0 (by omega) hq).symm
      | 4, _ => exact (c1.1 1 (by omega) hq).symm
      | 5, _ => exact (c1.1 2 (by omega) hq).symm
      | 6, _ => exact (c1.1 3 (by omega) hq).symm
      | 7, _ => exact (c1.1 4 (by omega) hq).symm
      | 8, _ => exact (c1.1 5 (by omega) hq).symm
      | 9, _ => exact (c1.1 6 (by omega) hq).symm
      | 10, _ => exact (c1.1 7 (by omega) hq).symm
      | 11, _ => exact (c1.1 8 (by omega) hq).symm
      | 12, _ => exact (c1.1 9 (by omega) hq).symm
  rw [hov]
  have hP : o.g 0 ≠ 2 → o.P = [] ∧ o.R = [] ∧ o.W = [] := fun h => by
    rcases c1.2.1 with q | q
    · exact ⟨List.eq_nil_of_length_eq_zero (by omega), List.eq_nil_of_length_eq_zero (by omega), List.eq_nil_of_length_eq_zero (by omega)⟩
    · exact absurd q h
  have hD : o.g 0 ≠ 6 → o.D = [] := fun h => by
    rcases c1.2.2 with q | q
    · exact List.eq_nil_of_length_eq_zero q
    · exact absurd q h
  have hTe : T = (if o.g 0 = 2 then lists2 o ++ flatW o.W else if o.g 0 = 6 then blob o.D else []) := List.append_cancel_left (hT.symm.trans rfl)
  unfold getB
  by_cases h2 : o.g 0 = 2
  · rw [if_pos h2, hTe, if_pos h2]
    have hT2 : lists2 o ++ flatW o.W = ints o.P ++ (ints o.R ++ (enc o.W.length ++ (flatW o.W ++ []))) := by unfold lists2; simp only [List.append_assoc, List.append_nil]
    have hwl : (flatW o.W).length = 20 * o.W.length := flatW_len c5
    rw [hT2]
    unfold getL
    simp only
    rw [read_ints (fun x hx => by have := cp x hx; omega) (by omega)]
    simp only
    rw [read_ints (fun x hx => by have := cr x hx; omega) (by omega)]
    simp only
    rw [read_enc (by omega)]
    simp only
    rw [show ((o.W.length : Nat) : Int).toNat = o.W.length from rfl, rdW_enc o.W (fun x hx => ⟨by have := cw x.Block (List.mem_map.2 ⟨x, hx, rfl⟩); omega, by have := c5 x hx; omega⟩)]
    rw [if_neg (by simp [hwl]; omega)]
    have := hD (by omega)
    cases o
    simp only at this
    subst this
    rfl
  · rw [if_neg h2, hTe, if_neg h2]
    obtain ⟨q1, q2, q3⟩ := hP h2
    by_cases h6 : o.g 0 = 6
    · rw [if_pos h6, if_pos h6]
      have := read_blob (p := o.D) (by omega) []
      rw [List.append_nil] at this
      rw [this]
      cases o
      simp only at q1 q2 q3
      subst q1 q2 q3
      rfl
    · rw [if_neg h6, if_neg h6]
      have := hD h6
      cases o
      simp only at q1 q2 q3 this
      subst q1 q2 q3 this
      rfl
/-- what was put is got -/
theorem got_back {o : Od} (hlen : o.n.length = 13) (hin : ∀ k, -9223372036854775808 ≤ o.n.getD k 0 ∧ o.n.getD k 0 ≤ 9223372036854775807) (hc : chk o = 0) : got (obytes o) = (o, 0) := by
  rw [got_rd, rd_obytes hlen hin hc]
  unfold fin1
  simp only
  rw [if_neg (by simp [RS.err]), if_neg (by simp [hc])]
/-- with a byte more it is too long -/
theorem got_long {o : Od} (hlen : o.n.length = 13) (hin : ∀ k, -9223372036854775808 ≤ o.n.getD k 0 ∧ o.n.getD k 0 ≤ 9223372036854775807) (hc : chk o = 0) (x : UInt8) : got (obytes o ++ [x]) = (noOp, 2) := by
  rw [got_rd, rd_more [x] (rd_obytes hlen hin hc) rfl]
  unfold fin1
  simp only
  rw [if_pos (by simp [RS.err, RS.more])]
  simp [RS.err, RS.more]
/-- a beginning of it is none -/
theorem got_cut {o : Od} (hlen : o.n.length = 13) (hin : ∀ k, -9223372036854775808 ≤ o.n.getD k 0 ∧ o.n.getD k 0 ≤ 9223372036854775807) (hc : chk o = 0) {k : Nat} (hk : k < (obytes o).length) : got ((obytes o).take k) = (noOp, 4) := by
  rw [got_rd]
  cases h : rd ((obytes o).take k) with
  | none => rfl
  | some q =>
    obtain ⟨o', s⟩ := q
    cases hb : s.bad with
    | true => unfold fin1; simp only; rw [if_pos (by simp [RS.err, hb])]; simp [RS.err, hb]
    | false =>
      have := rd_more ((obytes o).drop k) h hb
      rw [List.take_append_drop, rd_obytes hlen hin hc] at this
      injection this with this
      injection this with _ this
      have := congrArg RS.left this
      have hl := congrArg List.length this
      simp only [RS.more, List.length_append, List.length_drop, List.length_nil] at hl
      omega
/-- what is got has just these bytes, and is right -/
theorem got_only {l : List UInt8} (h : (got l).2 = 0) : chk (got l).1 = 0 ∧ obytes (got l).1 = l := by
  rw [got_rd] at h ⊢
  cases hr : rd l with
  | none => rw [hr] at h; cases h
  | some q =>
    obtain ⟨o, s⟩ := q
    rw [hr] at h
    unfold fin1 at h ⊢
    simp only at h ⊢
    split at h
    · rename_i he; exact absurd h he
    · rename_i he
      rw [if_neg he]
      split at h
      · rename_i hc; exact absurd h hc
      · rename_i hc
        rw [if_neg hc]
        have hc0 : chk o = 0 := Decidable.of_not_not hc
        refine ⟨hc0, ?_⟩
        have hb : s.bad = false := by
          cases hq : s.bad with
          | false => rfl
          | true => exact absurd (by simp [RS.err, hq]) he
        have hl : s.left = [] := by
          have : ¬ 0 < s.left.length := fun q => he (by simp [RS.err, hb, q])
          exact List.eq_nil_of_length_eq_zero (by omega)
        have := rd_parts hr hb
        rw [hl, List.append_nil] at this
        exact this.symm
theorem got_bad {l : List UInt8} (h : (got l).2 ≠ 0) : (got l).1 = noOp := by
  rw [got_rd] at h ⊢
  cases hr : rd l with
  | none => rfl
  | some q =>
    obtain ⟨o, s⟩ := q
    rw [hr] at h
    unfold fin1 at h ⊢
    simp only at h ⊢
    split at h
    · rename_i he; rw [if_pos he]
    · rename_i he
      rw [if_neg he]
      split at h
      · rename_i hc; rw [if_pos hc]
      · exact absurd rfl h
end Go.Proofs.Ythaojdpeimlngaa
