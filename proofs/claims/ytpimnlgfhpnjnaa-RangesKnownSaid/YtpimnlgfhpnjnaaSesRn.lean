/- The walk of the reference's Note. -/
import Derived.Test.YtpimnlgfhpnjnaaSesN
namespace Go.Proofs.Ytpimnlgfhpnjnaa.Se
open Go Go.RowKit Kf
set_option maxRecDepth 20000

abbrev OwnS (w : World) (B : Nat) (v : Value) (O : List SV) : Prop := w.ownsRow B 55 4 v O.length (O.flatMap SV.c)
theorem OwnS.nil (w : World) (B : Nat) : OwnS w B (.slice none 0 0) [] := World.ownsRow_nil _ _ _ _
theorem OwnS.app {w : World} {B : Nat} {v : Value} {O : List SV} {e : SV} (h : w.ownsRow B 55 4 v (O.length + 1) (O.flatMap SV.c ++ SV.c e)) : OwnS w B v (O ++ [e]) := by
  unfold OwnS; rw [List.length_append, List.flatMap_append]; simpa using h
theorem SDat.app {w : World} {O : List SV} {e : SV} (h : SDat w O) (he : Bytes w e.2 e.1.Data) : SDat w (O ++ [e]) := fun x hx => by
  rcases List.mem_append.1 hx with hx | hx
  · exact h x hx
  · rw [List.mem_singleton] at hx; subst hx; exact he
theorem noteS_lay {l : List Ses} {s : Ses} (h : ¬ s.Client = 0) : noteS l s = layL (ofC s.Client) (overC s.Client) (hasS l s.Client) s l := if_neg h
theorem noteS_none {l : List Ses} {s : Ses} (h : s.Client = 0) : noteS l s = l := if_pos h
theorem layL_mem {α : Type} {p q : α → Bool} {has : Bool} {a x : α} {l : List α} (h : x ∈ layL p q has a l) : x = a ∨ x ∈ l := by
  induction l with
  | nil => unfold layL at h; cases has <;> simp at h; exact .inl h
  | cons y l ih =>
    unfold layL at h
    have key : ∀ (L : List α), x ∈ L → (L = a :: l ∨ L = a :: y :: l ∨ L = y :: layL p q has a l) → x = a ∨ x ∈ y :: l := fun L hx hL => by
      rcases hL with rfl | rfl | rfl
      · simp at hx ⊢; rcases hx with h | h <;> simp [h]
      · simpa using hx
      · simp at hx ⊢
        rcases hx with h | h
        · simp [h]
        · rcases ih h with h | h <;> simp [h]
    refine key _ h ?_
    cases has <;> simp only [cond_true, cond_false] <;> split <;> simp
theorem layL_len {α : Type} {p q : α → Bool} {has : Bool} {a : α} {l : List α} : (layL p q has a l).length ≤ l.length + 1 ∧ l.length ≤ (layL p q has a l).length := by
  induction l with
  | nil => unfold layL; cases has <;> simp
  | cons y l ih =>
    unfold layL
    cases has <;> simp only [cond_true, cond_false] <;> split <;> simp <;> first | exact ih | omega
theorem noteS_mem {l : List Ses} {s x : Ses} (h : x ∈ noteS l s) : x = s ∨ x ∈ l := by
  unfold noteS at h
  split at h
  · exact .inr h
  · exact layL_mem h
theorem noteS_len {l : List Ses} {s : Ses} : (noteS l s).length ≤ l.length + 1 ∧ l.length ≤ (noteS l s).length := by
  unfold noteS
  split
  · omega
  · exact layL_len
theorem hasS_drop {l : List Ses} {c : Int} {k : Nat} (hk : k < l.length) : hasS (l.drop k) c = (ofC c l[k] || hasS (l.drop (k + 1)) c) := by
  rw [List.drop_eq_getElem_cons hk]; rfl
end Go.Proofs.Ytpimnlgfhpnjnaa.Se
