/- Rgs and messages, as plain data. -/
import Derived.Test.YtpimnlgfhpnjnaaFlat
namespace Go.Proofs.Ytpimnlgfhpnjnaa
open Go Go.RowKit Kf

structure Rg where
  Lo : Int
  Hi : Int
  Group : Int
  Epoch : Int
abbrev Rg.ints (a : Rg) : List Int := [a.Lo, a.Hi, a.Group, a.Epoch]
abbrev Rg.c (a : Rg) : List Go.Value := [i64 a.Lo, i64 a.Hi, i64 a.Group, i64 a.Epoch]
theorem Rg.c_len (a : Rg) : a.c.length = 4 := rfl
theorem Rg.c_one (a : Rg) : ∀ u ∈ a.c, u.oneCell' = true := by simp [Rg.c, Go.Value.oneCell']
theorem Rg.eq_iff {a b : Rg} : a = b ↔ a.ints = b.ints := by cases a; cases b; simp [Rg.ints]
instance : DecidableEq Rg := fun _ _ => decidable_of_iff _ Rg.eq_iff.symm
instance : Inhabited Rg := ⟨⟨0, 0, 0, 0⟩⟩
theorem Rg.eqB (a b : Rg) : ([0, 1, 2, 3].all fun i => a.ints.getD i 0 == b.ints.getD i 0) = decide (a = b) := by
  rw [show [0, 1, 2, 3] = List.range 4 from rfl, all_eq (n := 4) (na := a.ints) (nb := b.ints) rfl rfl]
  exact decide_eq_decide.2 Rg.eq_iff.symm
abbrev Rgs (w : World) (v : Value) (l : List Rg) : Prop := Row w v l.length 4 (l.flatMap Rg.c)
abbrev OwnR (w : World) (B : Nat) (e : TypeId) (v : Value) (l : List Rg) : Prop := w.ownsRow B e 4 v l.length (l.flatMap Rg.c)
theorem Rgs.el {l : List Rg} {k : Nat} (hk : k < l.length) : ((l.flatMap Rg.c).drop (k * 4)).take 4 = l[k].c := flat_el Rg.c_len hk
theorem Rgs.get {l : List Rg} {k : Nat} (hk : k < l.length) {off : Nat} (ho : off < 4) : (l.flatMap Rg.c)[k * 4 + off]? = l[k].c[off]? := flat_get Rg.c_len hk ho
theorem rgs_one {l : List Rg} : ∀ u ∈ l.flatMap Rg.c, u.oneCell' = true := flat_one Rg.c_one
theorem Rgs.le {w : World} {v : Value} {l : List Rg} (h : Rgs w v l) : l.length ≤ maxLen := by
  obtain ⟨a, c, _, h1, h2, _⟩ := h.shape; omega
theorem Rgs.le64 {w : World} {v : Value} {l : List Rg} (h : Rgs w v l) : (l.length : Int) ≤ 9223372036854775807 := by
  have := h.le; unfold maxLen at this; omega
abbrev filler : Rg := ⟨-77, 0, 0, 0⟩
theorem OwnR.nil (w : World) (B : Nat) (e : TypeId) : OwnR w B e (.slice none 0 0) [] := World.ownsRow_nil w B e 4
theorem OwnR.app {w : World} {B : Nat} {e : TypeId} {v : Value} {l m : List Rg} (h : w.ownsRow B e 4 v (l.length + m.length) (l.flatMap Rg.c ++ m.flatMap Rg.c)) : OwnR w B e v (l ++ m) := by
  unfold OwnR; rw [List.length_append, List.flatMap_append]; exact h
theorem OwnR.one {w : World} {B : Nat} {e : TypeId} {v : Value} {a : Rg} (h : w.ownsRow B e 4 v 1 [i64 a.Lo, i64 a.Hi, i64 a.Group, i64 a.Epoch]) : OwnR w B e v [a] := by
  simpa [OwnR] using h
theorem OwnR.set {w : World} {B : Nat} {e : TypeId} {v : Value} {l : List Rg} {k : Nat} {a : Rg} (hk : k < l.length) (h : w.ownsRow B e 4 v l.length ((l.flatMap Rg.c).take (k * 4) ++ a.c ++ (l.flatMap Rg.c).drop (k * 4 + 4))) : OwnR w B e v (l.set k a) := by
  unfold OwnR; rw [List.length_set, ← flat_set Rg.c_len hk]; exact h
theorem OwnR.ins {w : World} {B : Nat} {e : TypeId} {v : Value} {l : List Rg} {i : Nat} {a : Rg} (hi : i ≤ l.length) (h : w.ownsRow B e 4 v (l.length + 1) ((l.flatMap Rg.c).take (i * 4) ++ a.c ++ (l.flatMap Rg.c).drop (i * 4))) : OwnR w B e v (l.take i ++ [a] ++ l.drop i) := by
  rw [flat_take Rg.c_len, flat_drop Rg.c_len] at h
  unfold OwnR
  have hl : (l.take i ++ [a] ++ l.drop i).length = l.length + 1 := by simp; omega
  rw [hl]
  simpa [List.flatMap_append] using h
theorem OwnR.made {w : World} {B : Nat} {e : TypeId} {v : Value} {n : Nat} (h : w.ownsRow B e 4 v n (madeCells #[i64 0, i64 0, i64 0, i64 0] (n * 4)).toList) : OwnR w B e v (List.replicate n ⟨0, 0, 0, 0⟩) := by
  have e1 := made_flat #[i64 0, i64 0, i64 0, i64 0] (by decide) n
  rw [show (#[i64 0, i64 0, i64 0, i64 0] : Array Value).size = 4 from rfl] at e1
  rw [e1] at h
  unfold OwnR
  rw [List.length_replicate]
  have e2 : ((List.replicate n ()).flatMap fun _ => [i64 0, i64 0, i64 0, i64 0]) = (List.replicate n (⟨0, 0, 0, 0⟩ : Rg)).flatMap Rg.c := by
    clear h e1
    induction n with
    | zero => rfl
    | succ n ih => rw [List.replicate_succ, List.replicate_succ, List.flatMap_cons, List.flatMap_cons, ih]
  rw [← e2]; exact h
theorem takeV {α : Type} [Inhabited α] (l : List α) (k : Nat) (h : k < l.length) : l.take (k + 1) = l.take k ++ [l[k]] := List.take_succ_eq_append_getElem h
end Go.Proofs.Ytpimnlgfhpnjnaa
