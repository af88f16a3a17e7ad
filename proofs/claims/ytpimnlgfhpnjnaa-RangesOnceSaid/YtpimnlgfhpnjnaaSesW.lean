/- What is asked of what was noted, as plain data. -/
import Derived.Test.YtpimnlgfhpnjnaaSesR
namespace Go.Proofs.Ytpimnlgfhpnjnaa.Se
open Go Go.RowKit Kf

theorem findS_nil {c : Int} : findS [] c = none := rfl
theorem findS_cons {x : Ses} {l : List Ses} {c : Int} : findS (x :: l) c = if x.Client = c then some x else findS l c := by
  unfold findS
  rw [List.find?_cons]
  by_cases h : x.Client = c
  · rw [if_pos h, decide_eq_true h]
  · rw [if_neg h, decide_eq_false h]
theorem hasS_cons {x : Ses} {l : List Ses} {c : Int} : hasS (x :: l) c = (decide (x.Client = c) || hasS l c) := rfl
theorem layT_cons {α : Type} {p q : α → Bool} {a x : α} {l : List α} : layL p q true a (x :: l) = if p x then a :: l else x :: layL p q true a l := rfl
theorem layF_cons {α : Type} {p q : α → Bool} {a x : α} {l : List α} : layL p q false a (x :: l) = if q x then a :: x :: l else x :: layL p q false a l := rfl
theorem lay_find_other {l : List Ses} {s : Ses} {o : Int} {has : Bool} (h : o ≠ s.Client) : findS (layL (ofC s.Client) (overC s.Client) has s l) o = findS l o := by
  have hs : ¬ s.Client = o := fun e => h e.symm
  induction l with
  | nil => cases has
           · show findS [s] o = _
             rw [findS_cons, if_neg hs]
           · rfl
  | cons x l ih =>
    cases has
    · rw [layF_cons]
      split
      · rw [findS_cons, if_neg hs]
      · rw [findS_cons, findS_cons, ih]
    · rw [layT_cons]
      split
      · rename_i hp
        have hx : ¬ x.Client = o := fun e => h (by rw [← e]; simpa [ofC] using hp)
        rw [findS_cons, findS_cons, if_neg hs, if_neg hx]
      · rw [findS_cons, findS_cons, ih]
theorem lay_find_own {l : List Ses} {s : Ses} : findS (layL (ofC s.Client) (overC s.Client) (hasS l s.Client) s l) s.Client = some s := by
  have h1 : ∀ l : List Ses, hasS l s.Client = true → findS (layL (ofC s.Client) (overC s.Client) true s l) s.Client = some s := by
    intro l
    induction l with
    | nil => intro h; cases h
    | cons x l ih =>
      intro h
      rw [layT_cons]
      split
      · rw [findS_cons, if_pos rfl]
      · rename_i hp
        have hx : ¬ x.Client = s.Client := by simpa [ofC] using hp
        rw [findS_cons, if_neg hx]
        refine ih ?_
        rw [hasS_cons, decide_eq_false hx] at h
        exact h
  have h2 : ∀ l : List Ses, hasS l s.Client = false → findS (layL (ofC s.Client) (overC s.Client) false s l) s.Client = some s := by
    intro l
    induction l with
    | nil => intro _; show findS [s] _ = _; rw [findS_cons, if_pos rfl]
    | cons x l ih =>
      intro h
      rw [hasS_cons, Bool.or_eq_false_iff] at h
      rw [layF_cons]
      split
      · rw [findS_cons, if_pos rfl]
      · rw [findS_cons, if_neg (of_decide_eq_false h.1)]
        exact ih h.2
  cases h : hasS l s.Client
  · exact h2 l h
  · exact h1 l h
theorem note_find_other {l : List Ses} {s : Ses} {o : Int} (h : o ≠ s.Client) : findS (noteS l s) o = findS l o := by
  unfold noteS
  split
  · rfl
  · exact lay_find_other h
theorem note_find_own {l : List Ses} {s : Ses} (h : ¬ s.Client = 0) : findS (noteS l s) s.Client = some s := by
  rw [noteS_lay h]; exact lay_find_own
theorem ask_note {l : List Ses} {s : Ses} {o q : Int} (h : o ≠ s.Client) : askS (noteS l s) o q = askS l o q := by
  unfold askS
  rw [note_find_other h]
theorem ask_own {l : List Ses} {s : Ses} (h : ¬ s.Client = 0) : askS (noteS l s) s.Client s.Seq = ((s.Code, s.Data), 7) := by
  unfold askS
  rw [if_neg h, note_find_own h]
  simp
theorem res_one {c : Int} {v : Value} (h : v.oneCell' = true) : ∀ u ∈ [i64 c, v], u.oneCell' = true := by
  intro u hu
  simp only [List.mem_cons, List.not_mem_nil, or_false] at hu
  rcases hu with rfl | rfl
  · rfl
  · exact h
theorem Blk.chg {w w' : World} {g B T : Nat} {e : TypeId} {cs : List Value} (h : Blk w g e cs) (k : Chg B T w w') (hne : g < B ∨ T ≤ g) : Blk w' g e cs := ⟨(k.block g h.lt hne).trans h.heap⟩
theorem Sess.nil (w : World) : Sess w (.slice none 0 0) [] := ⟨[], rfl, Row.nil w 4, fun e he => by cases he⟩
theorem note_dat {l : List Ses} {s : Ses} {n : Nat} (h : ∀ x ∈ l, x.Data.length ≤ n) (hs : s.Data.length ≤ n) : ∀ x ∈ noteS l s, x.Data.length ≤ n := fun x hx => by
  rcases noteS_mem hx with rfl | hx
  · exact hs
  · exact h x hx
theorem SOwn.sessE {w : World} {B : Nat} {v : Value} {F : List SV} {l : List Ses} (h : SOwn w B v F) (e : F.map Prod.fst = l) : Sess w v l := ⟨F, e, h.srow, h.sdat⟩
/-- what the statements ask always -/
abbrev wl1 : List Ses := noteS [] ⟨2, 5, 24, []⟩
abbrev wl2 : List Ses := noteS wl1 ⟨1, 7, 0, []⟩
theorem wl2_eq : wl2 = [⟨1, 7, 0, []⟩, ⟨2, 5, 24, []⟩] := by decide
theorem wl2_dat : ∀ s ∈ wl2, s.Data.length ≤ 1000000 := by rw [wl2_eq]; intro s hs; simp at hs; rcases hs with rfl | rfl <;> simp
theorem wl1_eq : wl1 = [⟨2, 5, 24, []⟩] := by decide
theorem wl1_dat : ∀ s ∈ wl1, s.Data.length ≤ 1000000 := by rw [wl1_eq]; intro s hs; simp at hs; rcases hs with rfl; simp
end Go.Proofs.Ytpimnlgfhpnjnaa.Se
