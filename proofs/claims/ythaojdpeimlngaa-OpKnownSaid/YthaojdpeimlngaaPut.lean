/- An operation's bytes, as plain mathematics. -/
import Derived.Test.YthaojdpeimlngaaRef
namespace Go.Proofs.Ythaojdpeimlngaa
open Go Go.RowKit Kf
set_option maxRecDepth 20000
def head0 (n : List Int) : List UInt8 := Pk.enc (n.getD 0 0) ++ Pk.enc (n.getD 1 0) ++ Pk.enc (n.getD 2 0)
theorem head0_len (n : List Int) : (head0 n).length = 24 := rfl
def flatN (n : List Int) (L : List Nat) : List UInt8 := L.flatMap fun a => Pk.enc (n.getD a 0)
theorem flatN_len (n : List Int) (L : List Nat) : (flatN n L).length = 8 * L.length := by
  unfold flatN
  induction L with
  | nil => rfl
  | cons a L ih => simp only [List.flatMap_cons, List.length_append, ih, Pk.enc_len, List.length_cons]; omega
theorem flatN_snoc {n : List Int} {L : List Nat} {j : Nat} (h : j < L.length) : flatN n (L.take (j + 1)) = flatN n (L.take j) ++ Pk.enc (n.getD L[j] 0) := by
  unfold flatN
  rw [List.take_add_one, List.getElem?_eq_getElem h, Option.toList_some, List.flatMap_append]
  simp
def encW (x : Wr) : List UInt8 := Pk.enc x.Block ++ Pk.blob x.Data
def flatW (l : List Wr) : List UInt8 := l.flatMap encW
theorem flatW_snoc {E : List WV} {k : Nat} (h : k < E.length) : flatW ((E.map Prod.fst).take (k + 1)) = flatW ((E.map Prod.fst).take k) ++ Pk.enc E[k].1.Block ++ Pk.blob E[k].1.Data := by
  unfold flatW
  rw [take_map h, List.flatMap_append, List.append_assoc]
  simp [encW]
theorem flatW_len {l : List Wr} (h : ∀ x ∈ l, x.Data.length = 4) : (flatW l).length = 20 * l.length := by
  unfold flatW
  induction l with
  | nil => rfl
  | cons a l ih =>
    have h1 := h a (List.mem_cons_self ..)
    simp only [List.flatMap_cons, List.length_append, ih (fun x hx => h x (List.mem_cons_of_mem _ hx)), encW, Pk.blob, Pk.enc_len, List.length_cons, h1]; omega
theorem flatW_le {l : List Wr} (k : Nat) (h : ∀ x ∈ l, x.Data.length = 4) (hl : l.length ≤ 8) : (flatW (l.take k)).length ≤ 160 := by
  rw [flatW_len fun x hx => h x (List.mem_of_mem_take hx)]
  have : (l.take k).length ≤ l.length := by simp; omega
  omega
def headN (o : Od) : List UInt8 := head0 o.n ++ flatN o.n (offL (o.g 0))
theorem offL_len (k : Int) : (offL k).length ≤ 6 := by
  unfold offL
  cases h : offs k with
  | none => simp
  | some L => exact offs_len h
theorem headN_len (o : Od) : (headN o).length ≤ 72 := by
  unfold headN; rw [List.length_append, head0_len, flatN_len]; have := offL_len (o.g 0); omega
def lists2 (o : Od) : List UInt8 := Pk.ints o.P ++ Pk.ints o.R ++ Pk.enc o.W.length
def obytes (o : Od) : List UInt8 := headN o ++ (if o.g 0 = 2 then lists2 o ++ flatW o.W else if o.g 0 = 6 then Pk.blob o.D else [])
theorem obytes2 {o : Od} (h : o.g 0 = 2) : obytes o = headN o ++ (lists2 o ++ flatW o.W) := by unfold obytes; rw [if_pos h]
theorem obytes6 {o : Od} (h : o.g 0 = 6) : obytes o = headN o ++ Pk.blob o.D := by unfold obytes; rw [if_neg (by omega), if_pos h]
theorem obytes0 {o : Od} (h2 : o.g 0 ≠ 2) (h : o.g 0 ≠ 6) : obytes o = headN o := by unfold obytes; rw [if_neg h2, if_neg h, List.append_nil]
theorem pints_len (l : List Int) : (Pk.ints l).length = 8 + 8 * l.length := by
  have := Pk.ints_len [] l.length l
  rw [← Pk.intsOf_self]
  simpa using this
theorem lists2_len (o : Od) : (lists2 o).length = 24 + 8 * o.P.length + 8 * o.R.length := by
  simp only [lists2, List.length_append, pints_len, Pk.enc_len]; omega
/-- what a right operation is -/
theorem chk_ok {o : Od} (h : chk o = 0) : (1 ≤ o.g 0 ∧ o.g 0 ≤ 11) ∧ o.bareP ∧ (o.P.length ≤ 4 ∧ o.R.length ≤ 16 ∧ o.W.length ≤ 8) ∧ o.D.length ≤ 32768 ∧ (o.placedP ∧ allP o.P 1 4 ∧ allP o.R 0 63 ∧ allP o.bl 0 63) ∧ sizeP o.W ∧ (riseP o.P ∧ riseP o.R ∧ riseP o.bl) := by
  unfold chk at h
  split at h
  · cases h
  · rename_i h0
    split at h
    · cases h
    · rename_i h1
      split at h
      · cases h
      · rename_i h2
        split at h
        · cases h
        · rename_i h3
          split at h
          · cases h
          · rename_i h4
            split at h
            · cases h
            · rename_i h5
              split at h
              · cases h
              · rename_i h6
                exact ⟨Decidable.of_not_not h0, Decidable.of_not_not h1, by omega, by omega, Decidable.of_not_not h4, Decidable.of_not_not h5, Decidable.of_not_not h6⟩
theorem offs_of {k : Int} (h : 1 ≤ k ∧ k ≤ 11) : offs k = some (offL k) := by
  have := offs_isSome k
  rw [decide_eq_true h] at this
  unfold offL
  cases hq : offs k with
  | none => rw [hq] at this; cases this
  | some L => rfl
end Go.Proofs.Ythaojdpeimlngaa
