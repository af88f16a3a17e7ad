/- What the reference asks of an operation, and that it is the same. -/
import Derived.Test.YthaojdpeimlngaaOp
namespace Go.Proofs.Ythaojdpeimlngaa
open Go Go.RowKit Kf
set_option maxRecDepth 20000
/-- the fields of a kind, by their places in rows -/
def fields (k : Int) : Option (List Nat) :=
  if k = 1 then some [0, 1, 2, 6] else if k = 2 then some [0, 1, 2, 3, 4, 5] else if k = 3 then some [0, 7] else if k = 4 then some [3, 2, 6]
  else if k = 5 ∨ k = 6 then some [2, 4, 5] else if k = 7 ∨ k = 10 then some [2] else if k = 8 then some [] else if k = 9 then some [8, 9, 4, 5] else if k = 11 then some [9, 7] else none
def fieldL (k : Int) : List Nat := (fields k).getD []
/-- a field's cell -/
def fo (f : Nat) : Nat := [3, 4, 5, 9, 6, 7, 8, 10, 11, 12].getD f 0
abbrev fints (L : List Nat) : List Int := L.map fun f => ((f : Nat) : Int)
theorem fields_isSome (k : Int) : (fields k).isSome = decide (1 ≤ k ∧ k ≤ 11) := by
  unfold fields
  repeat' split
  all_goals (symm; first | exact decide_eq_true (by omega) | exact decide_eq_false (by omega))
theorem offs_fields (k : Int) : offs k = (fields k).map fun L => L.map fo := by
  unfold offs fields
  repeat' split
  all_goals rfl
theorem offL_fields (k : Int) : offL k = (fieldL k).map fo := by
  unfold offL fieldL; rw [offs_fields]; cases fields k <;> rfl
theorem fieldL_cases (k : Int) (h : 1 ≤ k ∧ k ≤ 11) : (k = 1 ∧ fieldL k = [0, 1, 2, 6]) ∨ (k = 2 ∧ fieldL k = [0, 1, 2, 3, 4, 5]) ∨ (k = 3 ∧ fieldL k = [0, 7]) ∨ (k = 4 ∧ fieldL k = [3, 2, 6]) ∨ (k = 5 ∧ fieldL k = [2, 4, 5]) ∨ (k = 6 ∧ fieldL k = [2, 4, 5]) ∨ (k = 7 ∧ fieldL k = [2]) ∨ (k = 8 ∧ fieldL k = []) ∨ (k = 9 ∧ fieldL k = [8, 9, 4, 5]) ∨ (k = 10 ∧ fieldL k = [2]) ∨ (k = 11 ∧ fieldL k = [9, 7]) := by
  have : k = 1 ∨ k = 2 ∨ k = 3 ∨ k = 4 ∨ k = 5 ∨ k = 6 ∨ k = 7 ∨ k = 8 ∨ k = 9 ∨ k = 10 ∨ k = 11 := by omega
  rcases this with rfl | rfl | rfl | rfl | rfl | rfl | rfl | rfl | rfl | rfl | rfl <;> simp [fieldL, fields]
theorem fieldL_lt {k : Int} {f : Nat} (h : f ∈ fieldL k) : f < 10 := by
  by_cases hk : 1 ≤ k ∧ k ≤ 11
  · rcases fieldL_cases k hk with ⟨_, e⟩ | ⟨_, e⟩ | ⟨_, e⟩ | ⟨_, e⟩ | ⟨_, e⟩ | ⟨_, e⟩ | ⟨_, e⟩ | ⟨_, e⟩ | ⟨_, e⟩ | ⟨_, e⟩ | ⟨_, e⟩ <;> (rw [e] at h; simp at h; try omega)
  · have : fields k = none := by
      have := fields_isSome k
      rw [decide_eq_false hk] at this
      cases hq : fields k with
      | none => rfl
      | some L => rw [hq] at this; cases this
    unfold fieldL at h; rw [this] at h; cases h
/-- the numbers in the fields' places -/
abbrev rowL (n : List Int) : List Int := [n.getD 3 0, n.getD 4 0, n.getD 5 0, n.getD 9 0, n.getD 6 0, n.getD 7 0, n.getD 8 0, n.getD 10 0, n.getD 11 0, n.getD 12 0]
theorem rowL_get (n : List Int) {f : Nat} (h : f < 10) : (rowL n).getD f 0 = n.getD (fo f) 0 := by
  match f, h with
  | 0, _ | 1, _ | 2, _ | 3, _ | 4, _ | 5, _ | 6, _ | 7, _ | 8, _ | 9, _ => rfl
theorem fo_all {p : Nat → Prop} : (∀ a, a < 10 → p (a + 3)) ↔ ∀ f, f < 10 → p (fo f) := by
  constructor
  · intro h f hf
    match f, hf with
    | 0, _ => exact h 0 (by omega)
    | 1, _ => exact h 1 (by omega)
    | 2, _ => exact h 2 (by omega)
    | 3, _ => exact h 6 (by omega)
    | 4, _ => exact h 3 (by omega)
    | 5, _ => exact h 4 (by omega)
    | 6, _ => exact h 5 (by omega)
    | 7, _ => exact h 7 (by omega)
    | 8, _ => exact h 8 (by omega)
    | 9, _ => exact h 9 (by omega)
  · intro h a ha
    match a, ha with
    | 0, _ => exact h 0 (by omega)
    | 1, _ => exact h 1 (by omega)
    | 2, _ => exact h 2 (by omega)
    | 3, _ => exact h 4 (by omega)
    | 4, _ => exact h 5 (by omega)
    | 5, _ => exact h 6 (by omega)
    | 6, _ => exact h 3 (by omega)
    | 7, _ => exact h 7 (by omega)
    | 8, _ => exact h 8 (by omega)
    | 9, _ => exact h 9 (by omega)
theorem fo_inj {f g : Nat} (hf : f < 10) (hg : g < 10) (h : fo f = fo g) : f = g := by
  have : ∀ a, a < 10 → ∀ b, b < 10 → fo a = fo b → a = b := by decide
  exact this f hf g hg h
theorem mem_offL {k : Int} {f : Nat} (hf : f < 10) : fo f ∈ offL k ↔ f ∈ fieldL k := by
  rw [offL_fields, List.mem_map]
  constructor
  · rintro ⟨g, hg, e⟩; rw [← fo_inj (fieldL_lt hg) hf e]; exact hg
  · intro h; exact ⟨f, h, rfl⟩
/-- the reference's words for 'nothing is set but what a kind has' -/
theorem bare_ref (o : Od) : o.bareP ↔ (∀ f, f < 10 → (rowL o.n).getD f 0 = 0 ∨ f ∈ fieldL (o.g 0)) ∧ ¬ ((o.g 0 ≠ 2 ∧ 0 < o.P.length + o.R.length + o.W.length) ∨ (o.g 0 ≠ 6 ∧ 0 < o.D.length)) := by
  have h1 : (∀ a, a < 10 → (a + 3) ∉ offL (o.g 0) → o.g (a + 3) = 0) ↔ ∀ f, f < 10 → (rowL o.n).getD f 0 = 0 ∨ f ∈ fieldL (o.g 0) := by
    rw [fo_all (p := fun c => c ∉ offL (o.g 0) → o.g c = 0)]
    constructor
    · intro h f hf
      by_cases hm : f ∈ fieldL (o.g 0)
      · exact .inr hm
      · exact .inl (by rw [rowL_get _ hf]; exact h f hf fun q => hm ((mem_offL hf).1 q))
    · intro h f hf hm
      rcases h f hf with h | h
      · rw [rowL_get _ hf] at h; exact h
      · exact absurd ((mem_offL hf).2 h) hm
  unfold Od.bareP
  rw [h1]
  constructor
  · rintro ⟨a, b, c⟩; exact ⟨a, by omega⟩
  · rintro ⟨a, b⟩; exact ⟨a, by omega, by omega⟩
/-- is a field in its place, as the reference says -/
def plR (o : Od) (f : Nat) : Prop :=
  (f = 0 → 1 ≤ o.n.getD 3 0 ∧ o.n.getD 3 0 ≤ 1099511627776) ∧ (f = 3 → (1 ≤ o.n.getD 9 0 ∧ o.n.getD 9 0 ≤ 1099511627776) ∨ (o.n.getD 0 0 = 2 ∧ o.n.getD 9 0 = 0)) ∧
  (f = 4 → (o.n.getD 0 0 = 2 ∧ o.n.getD 9 0 = 0 → o.n.getD 6 0 = 0) ∧ (¬ (o.n.getD 0 0 = 2 ∧ o.n.getD 9 0 = 0) → (0 ≤ o.n.getD 6 0 ∧ o.n.getD 6 0 ≤ 63) ∧ o.n.getD 6 0 < o.n.getD 7 0 ∧ o.n.getD 7 0 ≤ 64)) ∧
  (f = 5 → (o.n.getD 0 0 = 2 ∧ o.n.getD 9 0 = 0 → o.n.getD 7 0 = 0) ∧ (¬ (o.n.getD 0 0 = 2 ∧ o.n.getD 9 0 = 0) → (0 ≤ o.n.getD 6 0 ∧ o.n.getD 6 0 ≤ 63) ∧ o.n.getD 6 0 < o.n.getD 7 0 ∧ o.n.getD 7 0 ≤ 64)) ∧
  (f = 6 → 0 ≤ o.n.getD 8 0 ∧ o.n.getD 8 0 ≤ 63) ∧ (f = 7 → 1 ≤ o.n.getD 10 0 ∧ o.n.getD 10 0 ≤ 2) ∧ (f = 8 → 1 ≤ o.n.getD 11 0 ∧ o.n.getD 11 0 ≤ 4) ∧
  (f = 9 → (1 ≤ o.n.getD 12 0 ∧ o.n.getD 12 0 ≤ 4) ∨ (o.n.getD 0 0 = 11 ∧ 1 ≤ o.n.getD 12 0 ∧ o.n.getD 12 0 ≤ 7)) ∧ (f = 1 → 0 ≤ o.n.getD 4 0 ∧ o.n.getD 4 0 ≤ 1099511627776) ∧ (f = 2 → 0 ≤ o.n.getD 5 0 ∧ o.n.getD 5 0 ≤ 1099511627776)
instance (o : Od) (f : Nat) : Decidable (plR o f) := by
  unfold plR
  exact @instDecidableAnd _ _ inferInstance (@instDecidableAnd _ _ inferInstance (@instDecidableAnd _ _ inferInstance (@instDecidableAnd _ _ inferInstance (@instDecidableAnd _ _ inferInstance (@instDecidableAnd _ _ inferInstance (@instDecidableAnd _ _ inferInstance (@instDecidableAnd _ _ inferInstance (@instDecidableAnd _ _ inferInstance inferInstance))))))))
theorem place_ref {o : Od} (hk : 1 ≤ o.g 0 ∧ o.g 0 ≤ 11) (hb : o.bareP) : o.placedP ↔ ((0 ≤ o.g 1 ∧ o.g 1 ≤ 4) ∧ inM (o.g 2) ∧ ¬ (o.g 0 = 2 ∧ o.P.length = 0)) ∧ ∀ f ∈ fieldL (o.g 0), plR o f := by
  have h0 := ((bare_ref o).1 hb).1
  have z0 := h0 0 (by omega); have z1 := h0 1 (by omega); have z2 := h0 2 (by omega); have z3 := h0 3 (by omega); have z4 := h0 4 (by omega)
  have z5 := h0 5 (by omega); have z6 := h0 6 (by omega); have z7 := h0 7 (by omega); have z8 := h0 8 (by omega); have z9 := h0 9 (by omega)
  simp only [rowL_get o.n (show 0 < 10 by omega), rowL_get o.n (show 1 < 10 by omega), rowL_get o.n (show 2 < 10 by omega), rowL_get o.n (show 3 < 10 by omega), rowL_get o.n (show 4 < 10 by omega), rowL_get o.n (show 5 < 10 by omega), rowL_get o.n (show 6 < 10 by omega), rowL_get o.n (show 7 < 10 by omega), rowL_get o.n (show 8 < 10 by omega), rowL_get o.n (show 9 < 10 by omega)] at z0 z1 z2 z3 z4 z5 z6 z7 z8 z9
  clear h0 hb
  simp only [show fo 0 = 3 from rfl, show fo 1 = 4 from rfl, show fo 2 = 5 from rfl, show fo 3 = 9 from rfl, show fo 4 = 6 from rfl, show fo 5 = 7 from rfl, show fo 6 = 8 from rfl, show fo 7 = 10 from rfl, show fo 8 = 11 from rfl, show fo 9 = 12 from rfl] at z0 z1 z2 z3 z4 z5 z6 z7 z8 z9
  simp only [Od.placedP, Od.spanP, plR, inM, Od.g] at *
  generalize o.n.getD 0 0 = k at *
  generalize o.n.getD 1 0 = n1 at *
  generalize o.n.getD 2 0 = n2 at *
  generalize o.n.getD 3 0 = n3 at *
  generalize o.n.getD 4 0 = n4 at *
  generalize o.n.getD 5 0 = n5 at *
  generalize o.n.getD 6 0 = n6 at *
  generalize o.n.getD 7 0 = n7 at *
  generalize o.n.getD 8 0 = n8 at *
  generalize o.n.getD 9 0 = n9 at *
  generalize o.n.getD 10 0 = n10 at *
  generalize o.n.getD 11 0 = n11 at *
  generalize o.n.getD 12 0 = n12 at *
  generalize o.P.length = pl at *
  rcases fieldL_cases k hk with ⟨rfl, e⟩ | ⟨rfl, e⟩ | ⟨rfl, e⟩ | ⟨rfl, e⟩ | ⟨rfl, e⟩ | ⟨rfl, e⟩ | ⟨rfl, e⟩ | ⟨rfl, e⟩ | ⟨rfl, e⟩ | ⟨rfl, e⟩ | ⟨rfl, e⟩ <;>
    (rw [e] at z0 z1 z2 z3 z4 z5 z6 z7 z8 z9 ⊢; (try simp at z0); (try simp at z1); (try simp at z2); (try simp at z3); (try simp at z4); (try simp at z5); (try simp at z6); (try simp at z7); (try simp at z8); (try simp at z9); simp; omega)
end Go.Proofs.Ythaojdpeimlngaa
