/- Lists that are searched, set and inserted into; writes within some blocks alone. -/
import Derived.Test.YtobjmehppmhkdaaFlat
import Derived.Test.YtobjmehppmhkdaaOpen
namespace Go.Proofs.Ytobjmehppmhkdaa.Kf
open Go Go.RowKit
/-! ### Lists that are searched, set and inserted into -/
section lists
variable {α : Type} {p q : α → Bool} {l L : List α} {a : α} {k : Nat} {has lb : Bool}
def setL (p : α → Bool) (a : α) : List α → List α
  | [] => []
  | x :: l => if p x then a :: l else x :: setL p a l
def insL (q : α → Bool) (a : α) : List α → List α
  | [] => [a]
  | x :: l => if q x then a :: x :: l else x :: insL q a l
theorem setL_at (hk : k < l.length) (h : p l[k] = true) (hn : ∀ j (hj : j < l.length), j < k → p l[j] = false) : setL p a l = l.set k a := by
  induction l generalizing k with
  | nil => simp at hk
  | cons x l ih =>
    unfold setL
    cases k with
    | zero => rw [if_pos (show p x = true from h)]; rfl
    | succ k =>
      have h0 := hn 0 (by simp) (by omega)
      simp only [List.getElem_cons_zero] at h0
      rw [h0]
      simp only [List.length_cons] at hk
      simp only [List.set_cons_succ, Bool.false_eq_true, if_false]
      rw [ih (k := k) (by omega) (by simpa using h) (fun j hj hjk => by have := hn (j + 1) (by simpa using hj) (by omega); simpa using this)]
theorem insL_at (hk : k < l.length) (h : q l[k] = true) (hn : ∀ j (hj : j < l.length), j < k → q l[j] = false) : insL q a l = l.take k ++ [a] ++ l.drop k := by
  induction l generalizing k with
  | nil => simp at hk
  | cons x l ih =>
    unfold insL
    cases k with
    | zero => rw [if_pos (show q x = true from h)]; rfl
    | succ k =>
      have h0 := hn 0 (by simp) (by omega)
      simp only [List.getElem_cons_zero] at h0
      rw [h0]
      simp only [List.length_cons] at hk
      simp only [Bool.false_eq_true, if_false, List.take_succ_cons, List.drop_succ_cons, List.cons_append]
      rw [ih (k := k) (by omega) (by simpa using h) (fun j hj hjk => by have := hn (j + 1) (by simpa using hj) (by omega); simpa using this)]
theorem insL_end (hn : ∀ j (hj : j < l.length), q l[j] = false) : insL q a l = l ++ [a] := by
  induction l with
  | nil => rfl
  | cons x l ih =>
    unfold insL
    have h0 := hn 0 (by simp)
    simp only [List.getElem_cons_zero] at h0
    rw [h0]
    simp only [Bool.false_eq_true, if_false, List.cons_append]
    rw [ih fun j hj => by have := hn (j + 1) (by simpa using hj); simpa using this]
/-- laid in its place: over the one that is p, or ahead of the first that is q -/
def layL (p q : α → Bool) (has : Bool) (a : α) : List α → List α
  | [] => bif has then [] else [a]
  | x :: l => bif has then (if p x then a :: l else x :: layL p q has a l) else (if q x then a :: x :: l else x :: layL p q has a l)
theorem layL_set : layL p q true a l = setL p a l := by
  induction l with
  | nil => rfl
  | cons x l ih => unfold layL setL; rw [ih]; rfl
theorem layL_ins : layL p q false a l = insL q a l := by
  induction l with
  | nil => rfl
  | cons x l ih => unfold layL insL; rw [ih]; rfl
/-- what is still to come, when it was laid or not -/
def tailL (p q : α → Bool) (has lb : Bool) (a : α) (r : List α) : List α := bif lb then r else layL p q has a r
theorem tailL_p (hk : k < l.length) (h1 : has = true) (h2 : lb = false) (h3 : p l[k] = true) (he : layL p q has a l = L ++ tailL p q has lb a (l.drop k)) : layL p q has a l = (L ++ [a]) ++ tailL p q has true a (l.drop (k + 1)) := by
  subst h1 h2
  rw [he, List.drop_eq_getElem_cons hk]
  simp [tailL, layL, h3]
theorem tailL_q (hk : k < l.length) (h1 : has = false) (h2 : lb = false) (h3 : q l[k] = true) (he : layL p q has a l = L ++ tailL p q has lb a (l.drop k)) : layL p q has a l = (L ++ [a] ++ [l[k]]) ++ tailL p q has true a (l.drop (k + 1)) := by
  subst h1 h2
  rw [he, List.drop_eq_getElem_cons hk]
  simp [tailL, layL, h3]
theorem tailL_go (hk : k < l.length) (h : lb = true ∨ has = true ∧ p l[k] = false ∨ has = false ∧ q l[k] = false) (he : layL p q has a l = L ++ tailL p q has lb a (l.drop k)) : layL p q has a l = (L ++ [l[k]]) ++ tailL p q has lb a (l.drop (k + 1)) := by
  rw [he, List.drop_eq_getElem_cons hk]
  rcases h with h | ⟨h1, h2⟩ | ⟨h1, h2⟩
  · subst h; simp [tailL]
  · subst h1; cases lb <;> simp [tailL, layL, h2]
  · subst h1; cases lb <;> simp [tailL, layL, h2]
theorem tailL_end (hk : l.length ≤ k) (hl : lb = false → has = false) (he : layL p q has a l = L ++ tailL p q has lb a (l.drop k)) : layL p q has a l = bif lb then L else L ++ [a] := by
  rw [he, List.drop_of_length_le hk]
  cases lb
  · rw [hl rfl]; rfl
  · simp [tailL]
end lists

theorem own_one {w : World} {B sz n : Nat} {e : TypeId} {v : Value} {xs : List Value} (h : w.ownsRow B e sz v n xs) : v.oneCell' = true := by
  rcases h.2 with ⟨rfl, _⟩ | ⟨g, cap, cur, rfl, _⟩ <;> rfl
theorem pw_lay {α : Type} {R : α → α → Prop} (hs : ∀ {a b}, R a b → R b a) {E : List α} {a : α} {i j : Nat} (hE : E.Pairwise R) (ha : ∀ e ∈ E, R e a) (hij : i ≤ j) : (E.take i ++ [a] ++ E.drop j).Pairwise R := by
  have hsub : (E.drop j).Sublist (E.drop i) := by rw [show j = i + (j - i) by omega, ← List.drop_drop]; exact List.drop_sublist _ _
  have h0 : (E.take i ++ E.drop i).Pairwise R := by rw [List.take_append_drop]; exact hE
  have h1 := h0.sublist ((List.Sublist.refl (E.take i)).append hsub)
  rw [List.pairwise_append] at h1
  rw [List.pairwise_append, List.pairwise_append]
  refine ⟨⟨h1.1, List.pairwise_singleton _ _, fun x hx y hy => ?_⟩, h1.2.1, fun x hx y hy => ?_⟩
  · rw [List.mem_singleton] at hy; subst hy; exact ha x (List.mem_of_mem_take hx)
  · rcases List.mem_append.1 hx with hx | hx
    · exact h1.2.2 x hx y hy
    · rw [List.mem_singleton] at hx; subst hx; exact hs (ha y (List.mem_of_mem_drop hy))
/-! ### Writes within blocks [B, T) alone -/
structure Chg (B T : Nat) (w w' : World) : Prop where
  os : w'.os = w.os
  tape : w'.tape = w.tape
  output : w'.output = w.output
  size : w.heap.size ≤ w'.heap.size
  block : ∀ i, i < w.heap.size → i < B ∨ T ≤ i → w'.heap[i]? = w.heap[i]?
theorem Chg.refl (B T : Nat) (w : World) : Chg B T w w := ⟨rfl, rfl, rfl, Nat.le_refl _, fun _ _ _ => rfl⟩
theorem Chg.trans {a b c : World} {B T : Nat} (h : Chg B T a b) (k : Chg B T b c) : Chg B T a c :=
  ⟨k.os.trans h.os, k.tape.trans h.tape, k.output.trans h.output, Nat.le_trans h.size k.size, fun i hi hn => (k.block i (Nat.lt_of_lt_of_le hi h.size) hn).trans (h.block i hi hn)⟩
theorem Chg.of {a b : World} {B T : Nat} {row : Option Nat} (k : a.grownBy b row) (h : ∀ g, row = some g → B ≤ g ∧ g < T) : Chg B T a b :=
  ⟨k.os, k.tape, k.output, k.size, fun i hi hn => k.block i hi (fun e => by have := h i e.symm; omega)⟩
theorem Chg.ext {a b c : World} {B T : Nat} (h : Ext a b) (k : Chg B T b c) (hB : a.heap.size ≤ B) : Ext a c :=
  ⟨k.os.trans h.os, k.tape.trans h.tape, k.output.trans h.output, Nat.le_trans h.size k.size, fun i hi _ => (k.block i (Nat.lt_of_lt_of_le hi h.size) (.inl (by omega))).trans (h.block i hi (by simp))⟩
section
variable {w w' : World} {v : Value}
theorem own_chg {B1 B T n sz : Nat} {e : TypeId} {xs : List Value} (h : w.ownsRow B1 e sz v n xs) (k : Chg B T w w') (hne : ∀ b, v.ownBlock = some b → b < B ∨ T ≤ b) : w'.ownsRow B1 e sz v n xs := by
  refine ⟨h.1, ?_⟩
  rcases h.2 with hn | ⟨g, cap, cur, rfl, hb, hgg, rest⟩
  · exact .inl hn
  · have hlt := (h.lt g rfl).2
    exact .inr ⟨g, cap, cur, rfl, hb, (k.block g hlt (hne g rfl)).trans hgg, rest⟩
end
theorem pw_set {α : Type} {R : α → α → Prop} {E : List α} {k : Nat} {a : α} (hk : k < E.length) (h : E.Pairwise R) (h1 : ∀ x, R x E[k] → R x a) (h2 : ∀ x, R E[k] x → R a x) : (E.set k a).Pairwise R := by
  rw [List.pairwise_iff_getElem] at h ⊢
  intro i j hi hj hij
  simp only [List.length_set] at hi hj
  rw [List.getElem_set, List.getElem_set]
  have := h i j hi hj hij
  split
  · rename_i e; subst e
    rw [if_neg (by omega)]; exact h2 _ this
  · split
    · rename_i e; subst e; exact h1 _ this
    · exact this
theorem mem_set {α : Type} {E : List α} {k : Nat} {a x : α} (h : x ∈ E.set k a) : x = a ∨ ∃ j, ∃ hj : j < E.length, j ≠ k ∧ x = E[j] := by
  obtain ⟨j, hj, rfl⟩ := List.getElem_of_mem h
  simp only [List.length_set] at hj
  rw [List.getElem_set]
  split
  · exact .inl rfl
  · rename_i e; exact .inr ⟨j, hj, fun h => e h.symm, rfl⟩
theorem Blk.chg {w w' : World} {g B T : Nat} {e : TypeId} {cs : List Value} (h : Blk w g e cs) (k : Chg B T w w') (hne : g < B ∨ T ≤ g) : Blk w' g e cs := ⟨(k.block g h.lt hne).trans h.heap⟩
theorem take_map {α β : Type} {f : α → β} {l : List α} {k : Nat} (h : k < l.length) : (l.map f).take (k + 1) = (l.map f).take k ++ [f l[k]] := by
  rw [List.take_succ_eq_append_getElem (by simpa using h)]; simp
theorem nil_own (w : World) (B : Nat) (e : TypeId) : OwnB w B e (.slice none 0 0) [] := World.ownsRow_nil _ _ _ _
theorem nil_bytes (w : World) : Bytes w (.slice none 0 0) [] := Row.nil w 1
/-- sorted lists of the same things are the same -/
theorem sorted_ext {α : Type} {lt : α → α → Prop} (ha : ∀ {a b}, lt a b → ¬ lt b a) : ∀ {l m : List α}, l.Pairwise lt → m.Pairwise lt → (∀ x, x ∈ l ↔ x ∈ m) → l = m
  | [], [], _, _, _ => rfl
  | [], b :: m, _, _, h => by have := (h b).2 (by simp); cases this
  | a :: l, [], _, _, h => by have := (h a).1 (by simp); cases this
  | a :: l, b :: m, hl, hm, h => by
    rw [List.pairwise_cons] at hl hm
    have irr : ∀ x, ¬ lt x x := fun x hx => ha hx hx
    have e : a = b := by
      rcases List.mem_cons.1 ((h a).1 (by simp)) with e | h1
      · exact e
      · rcases List.mem_cons.1 ((h b).2 (by simp)) with e | h2
        · exact e.symm
        · exact absurd (hm.1 a h1) (ha (hl.1 b h2))
    subst e
    rw [sorted_ext ha hl.2 hm.2 fun x => ⟨fun hx => by
      rcases List.mem_cons.1 ((h x).1 (List.mem_cons_of_mem _ hx)) with e | h2
      · subst e; exact absurd (hl.1 x hx) (irr x)
      · exact h2, fun hx => by
      rcases List.mem_cons.1 ((h x).2 (List.mem_cons_of_mem _ hx)) with e | h2
      · subst e; exact absurd (hm.1 x hx) (irr x)
      · exact h2⟩]
/-- the first place of n where p is so, or -1 -/
def IdxZ (p : Nat → Bool) (n : Nat) (z : Int) : Prop := (∃ k : Nat, k < n ∧ z = (k : Int) ∧ p k = true ∧ ∀ j, j < k → p j = false) ∨ (z = -1 ∧ ∀ j, j < n → p j = false)
def Idx (p : Nat → Bool) (n : Nat) (r : Value) : Prop := ∃ z, r = i64 z ∧ IdxZ p n z
theorem IdxZ.pos {p : Nat → Bool} {n : Nat} {z : Int} (h : IdxZ p n z) (hz : 0 ≤ z) : ∃ k : Nat, z = (k : Int) ∧ k < n ∧ p k = true ∧ ∀ j, j < k → p j = false := by
  rcases h with ⟨k, h1, h2, h3, h4⟩ | ⟨h1, _⟩
  · exact ⟨k, h2, h1, h3, h4⟩
  · omega
theorem IdxZ.neg {p : Nat → Bool} {n : Nat} {z : Int} (h : IdxZ p n z) (hz : ¬ 0 ≤ z) : z = -1 ∧ ∀ j, j < n → p j = false := by
  rcases h with ⟨k, h1, h2, h3, h4⟩ | h
  · omega
  · exact h
theorem res_one {c v : Value} (hc : c.oneCell' = true) (h : v.oneCell' = true) : ∀ u ∈ [c, v], u.oneCell' = true := by
  intro u hu
  simp only [List.mem_cons, List.not_mem_nil, or_false] at hu
  rcases hu with rfl | rfl
  · exact hc
  · exact h
theorem X.fieldP {P : Program} {f : Fr} {w : World} {dst : Option Tmp} {ty s : TypeId} {pos : String} {aft : Array Edge} {gd : Option (Nat × Bool)} {x : Operand} {off sz : Nat} {cs ds : List Value} {fs : Array Field} {fl : Field} {i : Nat} (hx : ev f x = agg cs) (hs : P.underlying s = some (.struct fs)) (hf : fs[i]? = some fl) (ho : fl.offset = off) (ht : ∀ w, (isAgg fl.type).run P w = .ok true w) (hz : ∀ w, (sizeOf fl.type).run P w = .ok sz w) (hv : (cs.drop off).take sz = ds) :
    (execOp (ev f) ⟨dst, .field s x i, ty, pos, aft, gd⟩).run P w = .ok (.value (agg ds)) w := by
  subst ho hv
  simp [execOp, hx, Instr.field, run_underlying hs, hf, asAgg, Go.part, ht, hz, Result.andThen]
end Go.Proofs.Ytobjmehppmhkdaa.Kf
