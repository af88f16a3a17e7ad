/- SessionOnce as plain data: what is done, and what is noted of it. -/
import Derived.Test.YthcjifccfpoekaaSesT
namespace Go.Proofs.Ythcjifccfpoekaa
open Go Go.RowKit Kf

/-- an operation that comes: a client's, with a number -/
abbrev Tr : Type := Int × Int
abbrev Tr.c (a : Tr) : List Value := [i64 a.1, i64 a.2]
theorem Tr.c_len (a : Tr) : (Tr.c a).length = 2 := rfl
theorem Tr.c_one (a : Tr) : ∀ u ∈ Tr.c a, u.oneCell' = true := by
  intro u hu
  simp only [Tr.c, List.mem_cons, List.not_mem_nil, or_false] at hu
  rcases hu with rfl | rfl <;> rfl
abbrev Trs (w : World) (v : Value) (l : List Tr) : Prop := Row w v l.length 2 (l.flatMap Tr.c)
abbrev OwnR (w : World) (B : Nat) (v : Value) (l : List Tr) : Prop := w.ownsRow B 42 2 v l.length (l.flatMap Tr.c)
theorem Trs.get {l : List Tr} {k : Nat} (hk : k < l.length) {off : Nat} (ho : off < 2) : (l.flatMap Tr.c)[k * 2 + off]? = (Tr.c l[k])[off]? := flat_get Tr.c_len hk ho
theorem Trs.el {l : List Tr} {k : Nat} (hk : k < l.length) : ((l.flatMap Tr.c).drop (k * 2)).take 2 = Tr.c l[k] := flat_el Tr.c_len hk
theorem OwnR.app {w : World} {B : Nat} {v : Value} {O : List Tr} {e : Tr} (h : w.ownsRow B 42 2 v (O.length + 1) (O.flatMap Tr.c ++ Tr.c e)) : OwnR w B v (O ++ [e]) := by
  unfold OwnR; rw [List.length_append, List.flatMap_append]; simpa using h
theorem Trs.le {w : World} {v : Value} {l : List Tr} (h : Trs w v l) : (l.length : Int) ≤ 9223372036854775807 := by
  obtain ⟨_, c, _, h1, h2, _⟩ := h.shape; unfold maxLen at h2; omega

/-- z is the last of the first n that is the client's, or -1 -/
def LastP (D : List Tr) (n : Nat) (c z : Int) : Prop :=
  (z = -1 ∧ ∀ j (_ : j < D.length), j < n → D[j].1 ≠ c) ∨ (∃ m : Nat, ∃ h : m < D.length, z = (m : Int) ∧ m < n ∧ D[m].1 = c ∧ ∀ j (_ : j < D.length), m < j → j < n → D[j].1 ≠ c)
theorem LastP.zero (D : List Tr) (c : Int) : LastP D 0 c (-1) := .inl ⟨rfl, fun j _ h => by omega⟩
theorem LastP.hit {D : List Tr} {n : Nat} {c z : Int} (_h : LastP D n c z) (hn : n < D.length) (hc : D[n].1 = c) : LastP D (n + 1) c (n : Int) :=
  .inr ⟨n, hn, rfl, by omega, hc, fun j hj h1 h2 => by omega⟩
theorem LastP.miss {D : List Tr} {n : Nat} {c z : Int} (h : LastP D n c z) (hn : n < D.length) (hc : ¬ D[n].1 = c) : LastP D (n + 1) c z := by
  rcases h with ⟨h1, h2⟩ | ⟨m, hm, h1, h2, h3, h4⟩
  · refine .inl ⟨h1, fun j hj hlt => ?_⟩
    rcases Nat.lt_succ_iff_lt_or_eq.1 hlt with h | rfl
    · exact h2 j hj h
    · exact hc
  · refine .inr ⟨m, hm, h1, by omega, h3, fun j hj hmj hlt => ?_⟩
    rcases Nat.lt_succ_iff_lt_or_eq.1 hlt with h | rfl
    · exact h4 j hj hmj h
    · exact hc
theorem LastP.pos {D : List Tr} {n : Nat} {c z : Int} (h : LastP D n c z) (hz : ¬ z < 0) : ∃ m : Nat, z = (m : Int) ∧ m < D.length := by
  rcases h with ⟨h1, _⟩ | ⟨m, hm, h1, _⟩
  · omega
  · exact ⟨m, h1, hm⟩
def secD (D : List Tr) (z : Int) : Int := (D.getD z.toNat (0, 0)).2
theorem secD_at {D : List Tr} {m : Nat} (h : m < D.length) : secD D (m : Int) = D[m].2 := by simp [secD, h]
def freshB (D : List Tr) (c q z : Int) : Bool := decide (c = 0 ∨ z < 0 ∨ secD D z < q)

theorem freshB_go {D : List Tr} {c q z : Int} (hc : ¬ c = 0) (hz : ¬ z < 0) (hm : z.toNat < D.length) : decide ((D[z.toNat]'hm).2 < q) = freshB D c q z := by
  unfold freshB secD
  rw [decide_eq_decide]
  simp [hc, hz, List.getD_eq_getElem?_getD, List.getElem?_eq_getElem hm]
theorem lay_sort {l : List Ses} {s : Ses} (h : l.Pairwise fun a b => a.Client < b.Client) : (layL (ofC s.Client) (overC s.Client) (hasS l s.Client) s l).Pairwise fun a b => a.Client < b.Client := by
  have h1 : ∀ l : List Ses, l.Pairwise (fun a b => a.Client < b.Client) → hasS l s.Client = true → (layL (ofC s.Client) (overC s.Client) true s l).Pairwise fun a b => a.Client < b.Client := by
    intro l
    induction l with
    | nil => intro _ h; cases h
    | cons x l ih =>
      intro hp h
      rw [List.pairwise_cons] at hp
      rw [layT_cons]
      split
      · rename_i hx
        have hx : x.Client = s.Client := by simpa [ofC] using hx
        exact List.pairwise_cons.2 ⟨fun y hy => hx ▸ hp.1 y hy, hp.2⟩
      · rename_i hx
        have hx : ¬ x.Client = s.Client := by simpa [ofC] using hx
        rw [hasS_cons, decide_eq_false hx] at h
        have h : hasS l s.Client = true := h
        refine List.pairwise_cons.2 ⟨fun y hy => ?_, ih hp.2 h⟩
        rcases layL_mem hy with rfl | hy
        · obtain ⟨z, hz, hzc⟩ := List.any_eq_true.1 h
          have := hp.1 z hz
          have := of_decide_eq_true hzc
          omega
        · exact hp.1 y hy
  have h2 : ∀ l : List Ses, l.Pairwise (fun a b => a.Client < b.Client) → hasS l s.Client = false → (layL (ofC s.Client) (overC s.Client) false s l).Pairwise fun a b => a.Client < b.Client := by
    intro l
    induction l with
    | nil => intro _ _; exact List.pairwise_singleton _ _
    | cons x l ih =>
      intro hp h
      rw [List.pairwise_cons] at hp
      rw [hasS_cons, Bool.or_eq_false_iff] at h
      have hne := of_decide_eq_false h.1
      rw [layF_cons]
      split
      · rename_i hx
        have hx : s.Client < x.Client := by simpa [overC] using hx
        exact List.pairwise_cons.2 ⟨fun y hy => by
          rcases List.mem_cons.1 hy with rfl | hy
          · exact hx
          · have := hp.1 y hy; omega, List.pairwise_cons.2 hp⟩
      · rename_i hx
        have hx : ¬ s.Client < x.Client := by simpa [overC] using hx
        refine List.pairwise_cons.2 ⟨fun y hy => ?_, ih hp.2 h.2⟩
        rcases layL_mem hy with rfl | hy
        · omega
        · exact hp.1 y hy
  cases hh : hasS l s.Client
  · exact h2 l h hh
  · exact h1 l h hh

structure SOK (S : List Ses) (D : List Tr) : Prop where
  find : ∀ c z, c ≠ 0 → LastP D D.length c z → findS S c = if z < 0 then none else some ⟨c, secD D z, z, rowB z.toNat⟩
  sort : S.Pairwise fun a b => a.Client < b.Client
  nz : ∀ s ∈ S, s.Client ≠ 0
  len : S.length ≤ D.length
  dat : ∀ s ∈ S, s.Data.length ≤ D.length
theorem SOK.nil : SOK [] [] := ⟨fun c z _ h => by
  rcases h with ⟨h, _⟩ | ⟨m, hm, _⟩
  · rw [if_pos (by omega)]; rfl
  · simp at hm, List.Pairwise.nil, (fun s hs => by cases hs), Nat.le_refl _, (fun s hs => by cases hs)⟩
theorem SOK.step {S : List Ses} {D : List Tr} (h : SOK S D) (c q : Int) : SOK (noteS S ⟨c, q, (D.length : Int), rowB D.length⟩) (D ++ [(c, q)]) := by
  refine ⟨fun c' z hc' hz => ?_, ?_, fun s hs => ?_, ?_, ?_⟩
  · by_cases hcc : c' = c
    · subst hcc
      have hzl : z = (D.length : Int) := by
        rcases hz with ⟨h1, h2⟩ | ⟨m, hm, h1, h2, h3, h4⟩
        · exact absurd (by simp) (h2 D.length (by simp) (by simp))
        · by_cases hml : m = D.length
          · rw [h1, hml]
          · exact absurd (by simp) (h4 D.length (by simp) (by simp at hm; omega) (by simp))
      subst hzl
      rw [show c' = (⟨c', q, (D.length : Int), rowB D.length⟩ : Ses).Client from rfl, note_find_own hc', if_neg (by omega)]
      simp [secD]
    · rw [note_find_other (fun e => hcc e)]
      have hz' : LastP D D.length c' z := by
        rcases hz with ⟨h1, h2⟩ | ⟨m, hm, h1, h2, h3, h4⟩
        · exact .inl ⟨h1, fun j hj _ => by have := h2 j (by simp; omega) (by simp; omega); rwa [List.getElem_append_left hj] at this⟩
        · have hml : m < D.length := by
            rcases Nat.lt_or_ge m D.length with h | h
            · exact h
            · simp at hm
              obtain rfl : m = D.length := by omega
              simp at h3; exact absurd h3.symm hcc
          rw [List.getElem_append_left hml] at h3
          exact .inr ⟨m, hml, h1, hml, h3, fun j hj h5 _ => by have := h4 j (by simp; omega) h5 (by simp; omega); rwa [List.getElem_append_left hj] at this⟩
      rw [h.find c' z hc' hz']
      by_cases hneg : z < 0
      · rw [if_pos hneg, if_pos hneg]
      · rw [if_neg hneg, if_neg hneg]
        obtain ⟨m, rfl, hm⟩ := hz'.pos hneg
        rw [secD_at hm, secD_at (by simp; omega), List.getElem_append_left hm]
  · unfold noteS
    split
    · exact h.sort
    · exact lay_sort h.sort
  · unfold noteS at hs
    split at hs
    · exact h.nz s hs
    · rename_i hc
      rcases layL_mem hs with rfl | hs
      · exact hc
      · exact h.nz s hs
  · have := (noteS_len (l := S) (s := ⟨c, q, (D.length : Int), rowB D.length⟩)).1
    have := h.len
    simp; omega
  · have hd := note_dat (l := S) (s := ⟨c, q, (D.length : Int), rowB D.length⟩) h.dat (Nat.le_of_eq (rowB_len _))
    intro s hs
    have := hd s hs
    simp; omega
theorem SOK.fresh {S : List Ses} {D : List Tr} (h : SOK S D) {c q z : Int} (hz : LastP D D.length c z) (hf : freshB D c q z = true) : askS S c q = ((0, []), 0) := by
  have hf := of_decide_eq_true hf
  unfold askS
  by_cases hc : c = 0
  · rw [if_pos hc]
  rw [if_neg hc, h.find c z hc hz]
  by_cases hneg : z < 0
  · rw [if_pos hneg]
  · rw [if_neg hneg]
    have : secD D z < q := by rcases hf with h | h | h; exact absurd h hc; exact absurd h hneg; exact h
    simp [this]
theorem SOK.old {S : List Ses} {D : List Tr} (h : SOK S D) {c q z : Int} (hz : LastP D D.length c z) (hf : freshB D c q z = false) : ∃ m : Nat, z = (m : Int) ∧ m < D.length ∧ c ≠ 0 ∧ q ≤ secD D z ∧ askS S c q = if q = secD D z then ((z, rowB z.toNat), 7) else ((0, []), 15) := by
  have hf := of_decide_eq_false hf
  simp only [not_or] at hf
  obtain ⟨hc, hneg, hq⟩ := hf
  obtain ⟨m, hm, hml⟩ := hz.pos hneg
  refine ⟨m, hm, hml, hc, by omega, ?_⟩
  unfold askS
  rw [if_neg hc, h.find c z hc hz, if_neg hneg]
  by_cases he : q = secD D z
  · rw [if_pos he]; simp [he]
  · rw [if_neg he]
    have h1 : ¬ secD D z < q := hq
    have h2 : q < secD D z := by omega
    simp [h1, h2]
theorem SOK.zero {S : List Ses} {D : List Tr} (h : SOK S D) {c q z : Int} (hz : LastP D D.length c z) : decide ((askS S c q).2 = 0) = freshB D c q z := by
  cases hf : freshB D c q z
  · obtain ⟨m, _, _, _, _, ha⟩ := h.old hz hf
    rw [ha]
    split <;> rfl
  · rw [h.fresh hz hf]; rfl
/-- a row that shares no block with sessions in memory of their own -/
def SOff (v : Value) (E : List SV) (x : Value) : Prop := Apart x v ∧ ∀ e ∈ E, Apart x e.2
theorem SOwn.keptA {w w' : World} {B : Nat} {v x : Value} {E : List SV} (h : SOwn w B v E) (k : w.grownBy w' x.ownBlock) (ha : SOff v E x) : SOwn w' B v E :=
  ⟨h.row.kept k ha.1.symm.ne, fun e he => (h.data e he).kept k (ha.2 e he).symm.ne, h.off, h.pair⟩
theorem SOff.of {w w2 : World} {B B2 n sz : Nat} {e : TypeId} {v x : Value} {E : List SV} {xs : List Value} (h : w.ownsRow B e sz x n xs) (k : SOwn w2 B2 v E) (hle : w.heap.size ≤ B2) : SOff v E x :=
  ⟨own_apart h k.row hle, fun e he => own_apart h (k.data e he) hle⟩
theorem SOff.moved {w : World} {B : Nat} {v x x' : Value} {E : List SV} (h : SOff v E x) (k : SOwn w B v E) (hm : Moved w x x') : SOff v E x' :=
  ⟨(Apart.moved h.1.symm k.row hm).symm, fun e he => (Apart.moved (h.2 e he).symm (k.data e he) hm).symm⟩
theorem SOff.nil (x : Value) : SOff (.slice none 0 0) [] x := ⟨(fun _ _ h => by cases h), (fun e he => by cases he)⟩
end Go.Proofs.Ythcjifccfpoekaa
