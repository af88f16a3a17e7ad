/- Votes and messages, as plain data. -/
import Derived.Test.YtjmddkaokmdkbaaFlat
namespace Go.Proofs.Ytjmddkaokmdkbaa
open Go Go.RowKit Kf

structure Acc where
  Txn : Int
  Part : Int
  Promised : Int
  Ballot : Int
  Value : Int
abbrev Acc.ints (a : Acc) : List Int := [a.Txn, a.Part, a.Promised, a.Ballot, a.Value]
abbrev Acc.c (a : Acc) : List Go.Value := [i64 a.Txn, i64 a.Part, i64 a.Promised, i64 a.Ballot, i64 a.Value]
theorem Acc.c_len (a : Acc) : a.c.length = 5 := rfl
theorem Acc.c_one (a : Acc) : ∀ u ∈ a.c, u.oneCell' = true := by simp [Acc.c, Go.Value.oneCell']
theorem Acc.eq_iff {a b : Acc} : a = b ↔ a.ints = b.ints := by cases a; cases b; simp [Acc.ints]
instance : DecidableEq Acc := fun _ _ => decidable_of_iff _ Acc.eq_iff.symm
instance : Inhabited Acc := ⟨⟨0, 0, 0, 0, 0⟩⟩
theorem Acc.eqB (a b : Acc) : ([0, 1, 2, 3, 4].all fun i => a.ints.getD i 0 == b.ints.getD i 0) = decide (a = b) := by
  rw [show [0, 1, 2, 3, 4] = List.range 5 from rfl, all_eq (n := 5) (na := a.ints) (nb := b.ints) rfl rfl]
  exact decide_eq_decide.2 Acc.eq_iff.symm
abbrev Votes (w : World) (v : Value) (l : List Acc) : Prop := Row w v l.length 5 (l.flatMap Acc.c)
abbrev OwnV (w : World) (B : Nat) (e : TypeId) (v : Value) (l : List Acc) : Prop := w.ownsRow B e 5 v l.length (l.flatMap Acc.c)
theorem Votes.el {l : List Acc} {k : Nat} (hk : k < l.length) : ((l.flatMap Acc.c).drop (k * 5)).take 5 = l[k].c := flat_el Acc.c_len hk
theorem Votes.get {l : List Acc} {k : Nat} (hk : k < l.length) {off : Nat} (ho : off < 5) : (l.flatMap Acc.c)[k * 5 + off]? = l[k].c[off]? := flat_get Acc.c_len hk ho
theorem votes_one {l : List Acc} : ∀ u ∈ l.flatMap Acc.c, u.oneCell' = true := flat_one Acc.c_one
theorem Votes.le {w : World} {v : Value} {l : List Acc} (h : Votes w v l) : l.length ≤ maxLen := by
  obtain ⟨a, c, _, h1, h2, _⟩ := h.shape; omega
theorem Votes.le64 {w : World} {v : Value} {l : List Acc} (h : Votes w v l) : (l.length : Int) ≤ 9223372036854775807 := by
  have := h.le; unfold maxLen at this; omega
abbrev filler : Acc := ⟨-77, 0, 0, 0, 0⟩
theorem OwnV.nil (w : World) (B : Nat) (e : TypeId) : OwnV w B e (.slice none 0 0) [] := World.ownsRow_nil w B e 5
theorem OwnV.app {w : World} {B : Nat} {e : TypeId} {v : Value} {l m : List Acc} (h : w.ownsRow B e 5 v (l.length + m.length) (l.flatMap Acc.c ++ m.flatMap Acc.c)) : OwnV w B e v (l ++ m) := by
  unfold OwnV; rw [List.length_append, List.flatMap_append]; exact h
theorem OwnV.one {w : World} {B : Nat} {e : TypeId} {v : Value} {a : Acc} (h : w.ownsRow B e 5 v 1 [i64 a.Txn, i64 a.Part, i64 a.Promised, i64 a.Ballot, i64 a.Value]) : OwnV w B e v [a] := by
  simpa [OwnV] using h
theorem OwnV.set {w : World} {B : Nat} {e : TypeId} {v : Value} {l : List Acc} {k : Nat} {a : Acc} (hk : k < l.length) (h : w.ownsRow B e 5 v l.length ((l.flatMap Acc.c).take (k * 5) ++ a.c ++ (l.flatMap Acc.c).drop (k * 5 + 5))) : OwnV w B e v (l.set k a) := by
  unfold OwnV; rw [List.length_set, ← flat_set Acc.c_len hk]; exact h
theorem OwnV.ins {w : World} {B : Nat} {e : TypeId} {v : Value} {l : List Acc} {i : Nat} {a : Acc} (hi : i ≤ l.length) (h : w.ownsRow B e 5 v (l.length + 1) ((l.flatMap Acc.c).take (i * 5) ++ a.c ++ (l.flatMap Acc.c).drop (i * 5))) : OwnV w B e v (l.take i ++ [a] ++ l.drop i) := by
  rw [flat_take Acc.c_len, flat_drop Acc.c_len] at h
  unfold OwnV
  have hl : (l.take i ++ [a] ++ l.drop i).length = l.length + 1 := by simp; omega
  rw [hl]
  simpa [List.flatMap_append] using h
theorem OwnV.made {w : World} {B : Nat} {e : TypeId} {v : Value} {n : Nat} (h : w.ownsRow B e 5 v n (madeCells #[i64 0, i64 0, i64 0, i64 0, i64 0] (n * 5)).toList) : OwnV w B e v (List.replicate n ⟨0, 0, 0, 0, 0⟩) := by
  have e1 := made_flat #[i64 0, i64 0, i64 0, i64 0, i64 0] (by decide) n
  rw [show (#[i64 0, i64 0, i64 0, i64 0, i64 0] : Array Value).size = 5 from rfl] at e1
  rw [e1] at h
  unfold OwnV
  rw [List.length_replicate]
  have e2 : ((List.replicate n ()).flatMap fun _ => [i64 0, i64 0, i64 0, i64 0, i64 0]) = (List.replicate n (⟨0, 0, 0, 0, 0⟩ : Acc)).flatMap Acc.c := by
    clear h e1
    induction n with
    | zero => rfl
    | succ n ih => rw [List.replicate_succ, List.replicate_succ, List.flatMap_cons, List.flatMap_cons, ih]
  rw [← e2]; exact h
theorem takeV {α : Type} [Inhabited α] (l : List α) (k : Nat) (h : k < l.length) : l.take (k + 1) = l.take k ++ [l[k]] := List.take_succ_eq_append_getElem h
end Go.Proofs.Ytjmddkaokmdkbaa
