/- Messages, as plain mathematics. -/
import Derived.Test.YtccbpfbcaogcnaaRecs
import Derived.Test.YtccbpfbcaogcnaaPk
namespace Go.Proofs.Ytccbpfbcaogcnaa
open Go Go.RowKit Kf
set_option maxRecDepth 20000

/-- a message: its 14 numbers in the order of its cells (Kind, From, To, Group, Term, Index, Prev, Commit, Round, Txn, Part, Ballot, Value, Seq), Ok, its entries, its bytes -/
structure Mg where
  n : List Int
  ok : Bool
  E : List En
  D : List UInt8
abbrev mc (n : List Int) (ok : Bool) (vE vD : Value) : List Value :=
  [i64 (n.getD 0 0), i64 (n.getD 1 0), i64 (n.getD 2 0), i64 (n.getD 3 0), i64 (n.getD 4 0), i64 (n.getD 5 0), i64 (n.getD 6 0), i64 (n.getD 7 0), i64 (n.getD 8 0), i64 (n.getD 9 0), i64 (n.getD 10 0), i64 (n.getD 11 0), i64 (n.getD 12 0), i64 (n.getD 13 0), .bool ok, vE, vD]
abbrev rng (x : Int) : Prop := -9223372036854775808 ≤ x ∧ x ≤ 9223372036854775807
/-- a message's lists may be read -/
structure MgAt (w : World) (vE vD : Value) (m : Mg) : Prop where
  len : m.n.length = 14
  inn : ∀ k, rng (m.n.getD k 0)
  ein : ∀ e ∈ m.E, rng e.Term ∧ rng e.Kind
  E : Ens w vE m.E
  D : Bytes w vD m.D
theorem MgAt.ext {w w' : World} {vE vD : Value} {m : Mg} (h : MgAt w vE vD m) (g : Ext w w') : MgAt w' vE vD m := ⟨h.len, h.inn, h.ein, h.E.ext g, Row.ext h.D g⟩
theorem Ens.one {w : World} {v : Value} {l : List En} (h : Ens w v l) : v.oneCell' = true := by obtain ⟨E, _, h, _⟩ := h; exact Row.one h
theorem mc_ones (n : List Int) (ok : Bool) {vE vD : Value} (hE : vE.oneCell' = true) (hD : vD.oneCell' = true) : ∀ u ∈ mc n ok vE vD, u.oneCell' = true := by
  intro u hu
  simp only [mc, List.mem_cons, List.not_mem_nil, or_false] at hu
  rcases hu with rfl | rfl | rfl | rfl | rfl | rfl | rfl | rfl | rfl | rfl | rfl | rfl | rfl | rfl | rfl | rfl | rfl
  all_goals first | rfl | assumption
theorem MgAt.ones {w : World} {vE vD : Value} {m : Mg} (h : MgAt w vE vD m) : ∀ u ∈ mc m.n m.ok vE vD, u.oneCell' = true := mc_ones _ _ h.E.one (Row.one h.D)
theorem mc_set {n : List Int} {ok : Bool} {vE vD : Value} {a : Nat} (x : Int) (hn : n.length = 14) (ha : a < 14) : (mc n ok vE vD).set a (i64 x) = mc (n.set a x) ok vE vD := by
  match n, hn with
  | [n0, n1, n2, n3, n4, n5, n6, n7, n8, n9, n10, n11, n12, n13], _ =>
    match a, ha with
    | 0, _ | 1, _ | 2, _ | 3, _ | 4, _ | 5, _ | 6, _ | 7, _ | 8, _ | 9, _ | 10, _ | 11, _ | 12, _ | 13, _ => rfl
theorem mc_get {n : List Int} {ok : Bool} {vE vD : Value} {a : Nat} (hn : n.length = 14) (ha : a < 14) : (mc n ok vE vD)[a]? = some (i64 (n.getD a 0)) := by
  match n, hn with
  | [n0, n1, n2, n3, n4, n5, n6, n7, n8, n9, n10, n11, n12, n13], _ =>
    match a, ha with
    | 0, _ | 1, _ | 2, _ | 3, _ | 4, _ | 5, _ | 6, _ | 7, _ | 8, _ | 9, _ | 10, _ | 11, _ | 12, _ | 13, _ => rfl

/-! ### The fields of a kind: letters, and places (Group 0, Term 1, Index 2, Prev 3, Commit 4, Round 5, Seq 6, Txn 7, Part 8, Ballot 9, Value 10, Ok 11, Entries 12, Data 13) -/
def letters : List UInt8 := [103, 116, 105, 112, 99, 114, 115, 120, 97, 98, 118, 111, 101, 100]
def places (k : Int) : List Nat :=
  if k = 1 then [0, 1, 2, 3] else if k = 2 then [0, 1, 11] else if k = 3 then [0, 1, 2, 3, 4, 5, 12] else if k = 4 then [0, 1, 11, 2, 5] else if k = 5 then [0, 1, 2, 3, 5, 13]
  else if k = 6 then [0, 6, 13] else if k = 7 then [0, 6, 11, 2, 13] else if k = 8 then [7, 8, 9] else if k = 9 then [7, 8, 9, 11, 2, 10] else if k = 10 then [7, 8, 9, 10] else if k = 11 then [7, 8, 9, 11, 2, 10] else []
/-- the letter of a place -/
def lt (p : Nat) : UInt8 := letters.getD p 0
/-- the cell of a place that holds a number -/
def cl (p : Nat) : Nat := [3, 4, 5, 6, 7, 8, 13, 9, 10, 11, 12].getD p 0
theorem places_cases (k : Int) : (k = 1 ∧ places k = [0, 1, 2, 3]) ∨ (k = 2 ∧ places k = [0, 1, 11]) ∨ (k = 3 ∧ places k = [0, 1, 2, 3, 4, 5, 12]) ∨ (k = 4 ∧ places k = [0, 1, 11, 2, 5]) ∨ (k = 5 ∧ places k = [0, 1, 2, 3, 5, 13]) ∨ (k = 6 ∧ places k = [0, 6, 13]) ∨ (k = 7 ∧ places k = [0, 6, 11, 2, 13]) ∨ (k = 8 ∧ places k = [7, 8, 9]) ∨ (k = 9 ∧ places k = [7, 8, 9, 11, 2, 10]) ∨ (k = 10 ∧ places k = [7, 8, 9, 10]) ∨ (k = 11 ∧ places k = [7, 8, 9, 11, 2, 10]) ∨ ((k < 1 ∨ 11 < k) ∧ places k = []) := by
  by_cases h : 1 ≤ k ∧ k ≤ 11
  · have : k = 1 ∨ k = 2 ∨ k = 3 ∨ k = 4 ∨ k = 5 ∨ k = 6 ∨ k = 7 ∨ k = 8 ∨ k = 9 ∨ k = 10 ∨ k = 11 := by omega
    rcases this with rfl | rfl | rfl | rfl | rfl | rfl | rfl | rfl | rfl | rfl | rfl <;> simp [places]
  · have : places k = [] := by
      unfold places
      rw [if_neg (by omega), if_neg (by omega), if_neg (by omega), if_neg (by omega), if_neg (by omega), if_neg (by omega), if_neg (by omega), if_neg (by omega), if_neg (by omega), if_neg (by omega), if_neg (by omega)]
    right; right; right; right; right; right; right; right; right; right; right
    exact ⟨by omega, this⟩
theorem places_all {P : List Nat → Prop} (h : P [0, 1, 2, 3] ∧ P [0, 1, 11] ∧ P [0, 1, 2, 3, 4, 5, 12] ∧ P [0, 1, 11, 2, 5] ∧ P [0, 1, 2, 3, 5, 13] ∧ P [0, 6, 13] ∧ P [0, 6, 11, 2, 13] ∧ P [7, 8, 9] ∧ P [7, 8, 9, 11, 2, 10] ∧ P [7, 8, 9, 10] ∧ P []) (k : Int) : P (places k) := by
  obtain ⟨h1, h2, h3, h4, h5, h6, h7, h8, h9, h10, h0⟩ := h
  rcases places_cases k with ⟨_, e⟩ | ⟨_, e⟩ | ⟨_, e⟩ | ⟨_, e⟩ | ⟨_, e⟩ | ⟨_, e⟩ | ⟨_, e⟩ | ⟨_, e⟩ | ⟨_, e⟩ | ⟨_, e⟩ | ⟨_, e⟩ | ⟨_, e⟩ <;> (rw [e]; assumption)
theorem places_lt {k : Int} {p : Nat} (h : p ∈ places k) : p < 14 := by
  have : ∀ p ∈ places k, p < 14 := places_all (P := fun l => ∀ p ∈ l, p < 14) (by decide) k
  exact this p h
theorem places_nodup (k : Int) : (places k).Nodup := places_all (P := List.Nodup) (by decide) k
theorem places_len (k : Int) : (places k).length ≤ 7 := places_all (P := fun l => l.length ≤ 7) (by decide) k
theorem places_empty (k : Int) : places k = [] ↔ ¬ (1 ≤ k ∧ k ≤ 11) := by
  rcases places_cases k with ⟨e0, e⟩ | ⟨e0, e⟩ | ⟨e0, e⟩ | ⟨e0, e⟩ | ⟨e0, e⟩ | ⟨e0, e⟩ | ⟨e0, e⟩ | ⟨e0, e⟩ | ⟨e0, e⟩ | ⟨e0, e⟩ | ⟨e0, e⟩ | ⟨e0, e⟩ <;> rw [e] <;> simp <;> omega
theorem lt_inj {p q : Nat} (hp : p < 14) (hq : q < 14) (h : lt p = lt q) : p = q := by
  have : ∀ a, a < 14 → ∀ b, b < 14 → lt a = lt b → a = b := by decide
  exact this p hp q hq h
theorem cl_inj {p q : Nat} (hp : p < 11) (hq : q < 11) (h : cl p = cl q) : p = q := by
  have : ∀ a, a < 11 → ∀ b, b < 11 → cl a = cl b → a = b := by decide
  exact this p hp q hq h
theorem cl_lt {p : Nat} (hp : p < 11) : 3 ≤ cl p ∧ cl p < 14 := by
  have : ∀ a, a < 11 → 3 ≤ cl a ∧ cl a < 14 := by decide
  exact this p hp

/-! ### What is wrong with a message -/
abbrev Mg.g (m : Mg) (a : Nat) : Int := m.n.getD a 0
/-- nothing is set but what its kind has -/
def Mg.bareP (m : Mg) : Prop := (∀ p, p < 11 → p ∉ places (m.g 0) → m.g (cl p) = 0) ∧ (11 ∉ places (m.g 0) → m.ok = false) ∧ (12 ∉ places (m.g 0) → m.E.length = 0) ∧ (13 ∉ places (m.g 0) → m.D.length = 0)
def lowP (p : Nat) : Int := if p = 7 ∨ p = 8 then 1 else 0
def highP (p : Nat) : Int := if p = 0 ∨ p = 8 then 4 else if p = 10 then 2 else 1099511627776
def enP (e : En) : Prop := (0 ≤ e.Term ∧ e.Term ≤ 1099511627776) ∧ (0 ≤ e.Kind ∧ e.Kind ≤ 2)
def Mg.rangeP (m : Mg) : Prop := (1 ≤ m.g 1 ∧ m.g 1 ≤ 199) ∧ (1 ≤ m.g 2 ∧ m.g 2 ≤ 199) ∧ (∀ p ∈ places (m.g 0), p < 11 → lowP p ≤ m.g (cl p) ∧ m.g (cl p) ≤ highP p) ∧ ∀ e ∈ m.E, enP e
/-- the bytes of entries -/
def encE (e : En) : List UInt8 := Pk.enc e.Term ++ Pk.enc e.Kind ++ Pk.blob e.Data
def flatE (l : List En) : List UInt8 := l.flatMap encE
theorem encE_len (e : En) : (encE e).length = 24 + e.Data.length := by simp [encE, Pk.blob, Pk.enc_len]; omega
/-- how many bytes entries have -/
def sumE (l : List En) : Nat := (l.map fun e => 24 + e.Data.length).sum
theorem flatE_len (l : List En) : (flatE l).length = sumE l := by
  unfold flatE sumE
  induction l with
  | nil => rfl
  | cons a l ih => simp only [List.flatMap_cons, List.length_append, encE_len, ih, List.map_cons, List.sum_cons]
theorem sumE_take {l : List En} {k : Nat} (h : k < l.length) : sumE (l.take (k + 1)) = sumE (l.take k) + (24 + l[k].Data.length) := by
  unfold sumE
  rw [List.take_succ_eq_append_getElem h, List.map_append, List.sum_append]
  simp only [List.map_cons, List.map_nil, List.sum_cons, List.sum_nil, Nat.add_zero]
theorem sumE_le {l : List En} (k : Nat) : sumE (l.take k) ≤ sumE l := by
  unfold sumE
  conv => rhs; rw [← List.take_append_drop k l, List.map_append, List.sum_append]
  exact Nat.le_add_right _ _
def Mg.fitsP (m : Mg) : Prop := m.E.length ≤ 1024 ∧ m.D.length ≤ 65536 ∧ 8 * (3 + (places (m.g 0)).length) + m.D.length + sumE m.E ≤ 65536
instance (m : Mg) : Decidable m.bareP := by unfold Mg.bareP; exact inferInstance
instance (e : En) : Decidable (enP e) := by unfold enP; exact inferInstance
instance (m : Mg) : Decidable m.rangeP := by unfold Mg.rangeP; exact inferInstance
instance (m : Mg) : Decidable m.fitsP := by unfold Mg.fitsP; exact inferInstance
def chk (m : Mg) : Int := if ¬ (1 ≤ m.g 0 ∧ m.g 0 ≤ 11) then 13 else if ¬ m.bareP then 14 else if ¬ m.rangeP then 3 else if ¬ m.fitsP then 2 else 0

/-! ### Its bytes -/
def fieldB (m : Mg) (p : Nat) : List UInt8 := if p = 11 then Pk.enc (if m.ok then 1 else 0) else if p = 12 then Pk.enc m.E.length ++ flatE m.E else if p = 13 then Pk.blob m.D else Pk.enc (m.g (cl p))
def fieldsB (m : Mg) (L : List Nat) : List UInt8 := L.flatMap (fieldB m)
def head3 (m : Mg) : List UInt8 := Pk.enc (m.g 0) ++ Pk.enc (m.g 1) ++ Pk.enc (m.g 2)
def mbytes (m : Mg) : List UInt8 := head3 m ++ fieldsB m (places (m.g 0))
theorem fieldsB_snoc {m : Mg} {L : List Nat} {j : Nat} (h : j < L.length) : fieldsB m (L.take (j + 1)) = fieldsB m (L.take j) ++ fieldB m L[j] := by
  unfold fieldsB
  rw [List.take_succ_eq_append_getElem h, List.flatMap_append]
  simp
end Go.Proofs.Ytccbpfbcaogcnaa
