/- Seven acceptors' votes: a row of rows. -/
import Derived.Test.YtgbkgkicgaikdaaAccL
import Derived.Test.YtgbkgkicgaikdaaPax
namespace Go.Proofs.Ytgbkgkicgaikdaa
open Go Go.RowKit Kf

/-- a row of values of one cell -/
theorem X.load1 {P : Program} {f : Fr} {w w0 : World} {dst : Option Tmp} {ty t : TypeId} {pos : String} {aft : Array Edge} {g : Option (Nat × Bool)} {x : Operand} {v : Value} {k n : Nat} {cs : List Value}
    (h : Row w0 v n 1 cs) (hE : Ext w0 w) (hx : ev f x = .pointer (some ((base v).add (k * 1)))) (hk : k < n) (ht : ∀ w, (isAgg t).run P w = .ok false w) :
    (execOp (ev f) ⟨dst, .load t x, ty, pos, aft, g⟩).run P w = .ok (.value (cs.getD k undef)) w := by
  have hl := h.len
  exact X.load hx (by rw [Nat.mul_one]; exact (Row.ext h hE).cell k _ (by rw [List.getD_eq_getElem?_getD, List.getElem?_eq_getElem (by omega)]; rfl)) ht

theorem own_one {w : World} {B sz n : Nat} {e : TypeId} {v : Value} {xs : List Value} (h : w.ownsRow B e sz v n xs) : v.oneCell' = true := by
  rcases h.2 with ⟨rfl, _⟩ | ⟨g, cap, cur, rfl, _⟩ <;> rfl
structure VV (w : World) (B T : Nat) (v : Value) (p : Option Nat) (cs : List Value) (L : List (List Acc)) : Prop where
  own : OwnT w B T 22 1 v 7 cs
  len : L.length = 7
  each : ∀ j, j < 7 → OwnV w T 37 (cs.getD j undef) (L.getD j []) ∧ ((cs.getD j undef).ownBlock = none ∨ (cs.getD j undef).ownBlock ≠ p) ∧ OneOf 1048579 2 (L.getD j [])
def stA (L : List (List Acc)) (j : Nat) : Acc := (findA (L.getD j []) 1048579 2).1
section vv
variable {w w' w1 w2 w3 : World} {B T : Nat} {v v2 : Value} {p : Option Nat} {cs : List Value} {L : List (List Acc)}
theorem VV.ext (h : VV w B T v p cs L) (k : Ext w w') : VV w' B T v p cs L :=
  ⟨h.own.ext k, h.len, fun j hj => by obtain ⟨h1, h2, h3⟩ := h.each j hj; exact ⟨own_ext h1 k, h2, h3⟩⟩
theorem VV.keptP (h : VV w B T v p cs L) (k : w.grownBy w' p) (hp : ∀ q, p = some q → T ≤ q) : VV w' B T v p cs L :=
  ⟨h.own.kept k (fun g hg => .inr (hp g hg)), h.len, fun j hj => by obtain ⟨h1, h2, h3⟩ := h.each j hj; exact ⟨h1.kept k h2, h2, h3⟩⟩
theorem VV.switch {p' : Option Nat} (h : VV w B T v p cs L) (hp : ∀ q, p' = some q → w.heap.size ≤ q) : VV w B T v p' cs L :=
  ⟨h.own, h.len, fun j hj => by
    obtain ⟨h1, h2, h3⟩ := h.each j hj
    refine ⟨h1, ?_, h3⟩
    cases hb : (cs.getD j undef).ownBlock with
    | none => exact .inl rfl
    | some b => exact .inr fun e => by have := hp b e.symm; have := (h1.lt b hb).2; omega⟩
theorem VV.votes (h : VV w B T v p cs L) {j : Nat} (hj : j < 7) : Votes w (cs.getD j undef) (L.getD j []) := Row.of_own (h.each j hj).1
theorem VV.one (h : VV w B T v p cs L) {j : Nat} (hj : j < 7) : OneOf 1048579 2 (L.getD j []) := (h.each j hj).2.2
theorem VV.store {k B2 : Nat} {l : List Acc} (h : VV w2 B T v p cs L) (hk : k < 7) (ho : OwnV w2 B2 37 v2 l) (hT : T ≤ B2) (hp : ∀ q, p = some q → q < B2) (hl : OneOf 1048579 2 l)
    (hs : w3.ownsRow B 22 1 v 7 (cs.set k v2)) (hg : w2.grownBy w3 v.ownBlock) : VV w3 B T v p (cs.set k v2) (L.set k l) := by
  have hcl := h.own.own.1
  have hne : ∀ {u : Value} {l : List Acc} {B' : Nat}, OwnV w2 B' 37 u l → T ≤ B' → u.ownBlock = none ∨ u.ownBlock ≠ v.ownBlock := fun {u l B'} hu hB => by
    cases hb : u.ownBlock with
    | none => exact .inl rfl
    | some b =>
      right
      intro e
      have := (hu.lt b hb).1
      have := h.own.top b e.symm
      omega
  refine ⟨⟨hs, h.own.top⟩, by simp [h.len], fun j hj => ?_⟩
  by_cases hjk : j = k
  · subst hjk
    have hcl' : j < cs.length := by omega
    have e1 : (cs.set j v2).getD j undef = v2 := by simp [hcl']
    have hLl' : j < L.length := by rw [h.len]; exact hk
    have e2 : (L.set j l).getD j [] = l := by simp [hLl']
    rw [e1, e2]
    refine ⟨own_mono (ho.kept hg (hne ho hT)) hT, ?_, hl⟩
    cases hb : v2.ownBlock with
    | none => exact .inl rfl
    | some b => exact .inr fun e => by have := hp b e.symm; have := (ho.lt b hb).1; omega
  · have e1 : (cs.set k v2).getD j undef = cs.getD j undef := by simp [Ne.symm hjk]
    have e2 : (L.set k l).getD j [] = L.getD j [] := by simp [Ne.symm hjk]
    rw [e1, e2]
    obtain ⟨h1, h2, h3⟩ := h.each j hj
    exact ⟨h1.kept hg (hne h1 (Nat.le_refl _)), h2, h3⟩
theorem VV.others {B2 n sz : Nat} {e : TypeId} {u : Value} {xs : List Value} (h : VV w2 B T v p cs L) (hu : w2.ownsRow B2 e sz u n xs) (hB : T ≤ B2) (hg : w2.grownBy w3 v.ownBlock) : w3.ownsRow B2 e sz u n xs := by
  refine hu.kept hg ?_
  cases hb : u.ownBlock with
  | none => exact .inl rfl
  | some b =>
    right
    intro e
    have := (hu.lt b hb).1
    have := h.own.top b e.symm
    omega
theorem stA_set {k j : Nat} {l : List Acc} (hL : L.length = 7) (hk : k < 7) : stA (L.set k l) j = if j = k then (findA l 1048579 2).1 else stA L j := by
  unfold stA
  by_cases h : j = k
  · subst h; rw [if_pos rfl]; simp [hL, hk]
  · rw [if_neg h]; simp [Ne.symm h]
theorem VV.new (h : OwnT w B T 22 1 v 7 (List.replicate 7 (.slice none 0 0))) (p : Option Nat) : VV w B T v p (List.replicate 7 (.slice none 0 0)) (List.replicate 7 []) :=
  ⟨h, rfl, fun j hj => by
    have e1 : (List.replicate 7 (Value.slice none 0 0)).getD j undef = .slice none 0 0 := by rw [List.getD_eq_getElem?_getD, List.getElem?_replicate, if_pos hj]; rfl
    have e2 : (List.replicate 7 ([] : List Acc)).getD j [] = [] := by rw [List.getD_eq_getElem?_getD, List.getElem?_replicate, if_pos hj]; rfl
    rw [e1, e2]
    exact ⟨OwnV.nil _ _ _, .inl rfl, by simp, fun x hx => by cases hx⟩⟩
end vv

/-- what one acceptor does with a message about the vote -/
theorem vote_take {l : List Acc} {id : Int} {m : Msg} (h : OneOf 1048579 2 l) (hm : may m = true) (ht : m.Txn = 1048579) (hp : m.Part = 2) :
    ∃ X ch, takeA l id m = (X, [(stepA (findA l 1048579 2).1 id m).2], ch) ∧ (findA X 1048579 2).1 = (stepA (findA l 1048579 2).1 id m).1 ∧ OneOf 1048579 2 X := by
  have hl := h.1
  have h' : OneOf m.Txn m.Part l := by rw [ht, hp]; exact h
  have hf := take_find (id := id) (m := m) (show l.length < 1024 by omega)
  have ho := OneOf.take (id := id) h'
  rw [ht, hp] at hf ho
  obtain ⟨was, has, hw⟩ : ∃ a b, findA l 1048579 2 = (a, b) := ⟨_, _, rfl⟩
  refine ⟨_, (takeA l id m).2.2, ?_, ?_, ho⟩
  · have hg : ¬ (may m = false ∨ (has = false ∧ 1024 ≤ l.length)) := fun e => e.elim (fun e => by rw [hm] at e; cases e) (fun e => by omega)
    have hw' : findA l m.Txn m.Part = (was, has) := by rw [ht, hp]; exact hw
    rw [hw]
    by_cases hs : (stepA was id m).1 = was
    · rw [takeA_same hw' hg hs]
    · rw [takeA_new hw' hg hs]
  · rw [hf, hw]
    unfold nextF
    rw [if_neg (by rw [hm]; simp)]
    split
    · rename_i e; exact e.symm
    · rfl
theorem send_take {l : List Acc} {id b v : Int} (h : OneOf 1048579 2 l) (hv : v = 1 ∨ v = 2) :
    ∃ X o ch, takeA l id (voteM 10 9 b v) = (X, [o], ch) ∧ (findA X 1048579 2).1 = propS b v (findA l 1048579 2).1 ∧ o.Ok = decide ((findA l 1048579 2).1.Promised ≤ b) ∧ OneOf 1048579 2 X := by
  obtain ⟨X1, ch, h1, h2, h3⟩ := vote_take (id := id) (m := voteM 10 9 b v) h (by unfold may; rcases hv with rfl | rfl <;> simp) rfl rfl
  refine ⟨X1, _, ch, h1, ?_, ?_, h3⟩
  · rw [h2]; unfold stepA stepO propS; simp only [show ¬ (10 : Int) = 8 by decide, if_false]; split <;> rfl
  · unfold stepA stepO; simp only [show ¬ (10 : Int) = 8 by decide, if_false]
    by_cases hq : (findA l 1048579 2).1.Promised ≤ b
    · rw [if_pos hq]; simp [hq]
    · rw [if_neg hq]; simp [hq]
theorem ask_take {l : List Acc} {id b : Int} (h : OneOf 1048579 2 l) :
    ∃ X o ch, takeA l id (voteM 8 9 b 0) = (X, [o], ch) ∧ (findA X 1048579 2).1 = prepS b (findA l 1048579 2).1 ∧ o.Ok = decide ((findA l 1048579 2).1.Promised < b) ∧ (o.Ok = true → o.Index = (findA l 1048579 2).1.Ballot ∧ o.Value = (findA l 1048579 2).1.Value) ∧ OneOf 1048579 2 X := by
  obtain ⟨X1, ch, h1, h2, h3⟩ := vote_take (id := id) (m := voteM 8 9 b 0) h rfl rfl rfl
  refine ⟨X1, _, ch, h1, ?_, ?_, ?_, h3⟩
  · rw [h2]; unfold stepA stepP prepS; simp only [if_true]; split <;> rfl
  · unfold stepA stepP; simp only [if_true]
    by_cases hq : (findA l 1048579 2).1.Promised < b
    · rw [if_pos hq]; simp [hq]
    · rw [if_neg hq]; simp [hq]
  · unfold stepA stepP; simp only [if_true]
    by_cases hq : (findA l 1048579 2).1.Promised < b
    · rw [if_pos hq]; exact fun _ => ⟨rfl, rfl⟩
    · rw [if_neg hq]; intro e; cases e

/-- the states behind the first k were served -/
def Served (f : Acc → Acc) (bit : Nat → Bool) (k : Nat) (L L' : List (List Acc)) : Prop := ∀ j, j < 7 → stA L' j = if j < k ∧ bit j = true then f (stA L j) else stA L j
section served
variable {f : Acc → Acc} {bit : Nat → Bool} {k : Nat} {L L' : List (List Acc)}
theorem Served.zero : Served f bit 0 L L := fun j _ => by rw [if_neg (by omega)]
theorem Served.skip (h : Served f bit k L L') (hb : bit k = false) : Served f bit (k + 1) L L' := fun j hj => by
  rw [h j hj]
  by_cases hjk : j = k
  · subst hjk; rw [if_neg (by omega), if_neg (by rw [hb]; simp)]
  · congr 1; exact propext ⟨fun e => ⟨by omega, e.2⟩, fun e => ⟨by omega, e.2⟩⟩
theorem Served.cur (h : Served f bit k L L') (hk : k < 7) : stA L' k = stA L k := by rw [h k hk, if_neg (by omega)]
theorem Served.put {l : List Acc} (h : Served f bit k L L') (hL : L'.length = 7) (hk : k < 7) (hb : bit k = true) (hl : (findA l 1048579 2).1 = f (stA L' k)) : Served f bit (k + 1) L (L'.set k l) := fun j hj => by
  rw [stA_set hL hk]
  by_cases hjk : j = k
  · subst hjk; rw [if_pos rfl, if_pos ⟨by omega, hb⟩, hl, h.cur hk]
  · rw [if_neg hjk, h j hj]; congr 1; exact propext ⟨fun e => ⟨by omega, e.2⟩, fun e => ⟨by omega, e.2⟩⟩
end served
theorem cnt_yes {q : Nat → Bool} {k : Nat} (h : q k = true) : cnt q (k + 1) = cnt q k + 1 := by
  show cnt q k + (if q k = true then 1 else 0) = _
  rw [h]; rfl
theorem cnt_no {q : Nat → Bool} {k : Nat} (h : q k = false) : cnt q (k + 1) = cnt q k := by
  show cnt q k + (if q k = true then 1 else 0) = _
  rw [h]; rfl

def bitB (x : Int) (i : Nat) : Bool := decide (IntKind.u8.wrap (BitVec.ofInt IntKind.u8.bits (x.fdiv (2 ^ (min (i : Int).toNat IntKind.u8.bits))) &&& BitVec.ofInt IntKind.u8.bits 1).toNat = 1)
def qSend (x b : Int) (L : List (List Acc)) (j : Nat) : Bool := bitB x j && decide ((stA L j).Promised ≤ b)
def qAsk (x b : Int) (L : List (List Acc)) (j : Nat) : Bool := bitB x j && decide ((stA L j).Promised < b)
def freeV (f : Bool) : Int := if f then 1 else 2
theorem freeV_t {f : Bool} (h : f = true) : (1 : Int) = freeV f := by rw [h]; rfl
theorem freeV_f {f : Bool} (h : ¬ f = true) : (2 : Int) = freeV f := (if_neg h).symm
theorem freeV_12 (f : Bool) : freeV f = 1 ∨ freeV f = 2 := by cases f; exact .inr rfl; exact .inl rfl
theorem qSend_no {x b : Int} {L : List (List Acc)} {j : Nat} (h : bitB x j = false) : qSend x b L j = false := by unfold qSend; rw [h]; rfl
theorem qAsk_no {x b : Int} {L : List (List Acc)} {j : Nat} (h : bitB x j = false) : qAsk x b L j = false := by unfold qAsk; rw [h]; rfl
end Go.Proofs.Ytgbkgkicgaikdaa
