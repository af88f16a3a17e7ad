/- What an acceptor answers, as plain data. -/
import Derived.Test.YtjmddkaokmdkbaaAcc
import Derived.Test.YtjmddkaokmdkbaaMsg
import Derived.Test.YtjmddkaokmdkbaaChg
namespace Go.Proofs.Ytjmddkaokmdkbaa
open Go Go.RowKit Kf

def cmpI (x y : Int) : Int := if x < y then -1 else if y < x then 1 else 0
def orI : List Int → Int
  | [] => 0
  | x :: l => if x ≠ 0 then x else orI l
theorem orI_drop {l : List Int} {k : Nat} (hk : k < l.length) : orI (l.drop k) = if l[k] ≠ 0 then l[k] else orI (l.drop (k + 1)) := by
  rw [List.drop_eq_getElem_cons hk]; rfl

def mine (t p : Int) (a : Acc) : Bool := decide (a.Txn = t) && decide (a.Part = p)
def behind (a b : Acc) : Bool := decide (b.Txn < a.Txn) || (decide (a.Txn = b.Txn) && decide (b.Part < a.Part))
theorem behind_cmp (a b : Acc) : decide (0 < orI [cmpI a.Txn b.Txn, cmpI a.Part b.Part]) = behind a b := by
  unfold orI orI orI behind cmpI
  by_cases h1 : a.Txn < b.Txn
  · simp [h1, show ¬ b.Txn < a.Txn by omega, show ¬ a.Txn = b.Txn by omega]
  · by_cases h2 : b.Txn < a.Txn
    · simp [h1, h2]
    · by_cases h3 : a.Part < b.Part
      · simp [h1, h2, h3, show ¬ b.Part < a.Part by omega]
      · by_cases h4 : b.Part < a.Part
        · simp [h1, h2, h3, h4, show a.Txn = b.Txn by omega]
        · simp [h1, h2, h3, h4]
def findA (l : List Acc) (t p : Int) : Acc × Bool :=
  match l with
  | [] => (⟨t, p, 0, 0, 0⟩, false)
  | a :: l => if mine t p a then (a, true) else findA l t p
def setV : List Acc → Acc → List Acc
  | [], _ => []
  | x :: l, a => if mine a.Txn a.Part x then a :: l else x :: setV l a
def insV : List Acc → Acc → List Acc
  | [], a => [a]
  | x :: l, a => if behind x a then a :: x :: l else x :: insV l a
theorem findA_at {l : List Acc} {t p : Int} {k : Nat} (hk : k < l.length) (h : mine t p l[k] = true) (hn : ∀ j (hj : j < l.length), j < k → mine t p l[j] = false) : findA l t p = (l[k], true) := by
  induction l generalizing k with
  | nil => simp at hk
  | cons x l ih =>
    unfold findA
    cases k with
    | zero => rw [if_pos (show mine t p x = true from h)]; rfl
    | succ k =>
      have h0 := hn 0 (by simp) (by omega)
      simp only [List.getElem_cons_zero] at h0
      rw [h0]
      simp only [List.length_cons] at hk
      exact ih (by omega) (by simpa using h) (fun j hj hjk => by have := hn (j + 1) (by simpa using hj) (by omega); simpa using this)
theorem findA_none {l : List Acc} {t p : Int} (hn : ∀ j (hj : j < l.length), mine t p l[j] = false) : findA l t p = (⟨t, p, 0, 0, 0⟩, false) := by
  induction l with
  | nil => rfl
  | cons x l ih =>
    unfold findA
    have h0 := hn 0 (by simp)
    simp only [List.getElem_cons_zero] at h0
    rw [h0]
    exact ih fun j hj => by have := hn (j + 1) (by simpa using hj); simpa using this
theorem setV_at {l : List Acc} {a : Acc} {k : Nat} (hk : k < l.length) (h : mine a.Txn a.Part l[k] = true) (hn : ∀ j (hj : j < l.length), j < k → mine a.Txn a.Part l[j] = false) : setV l a = l.set k a := by
  induction l generalizing k with
  | nil => simp at hk
  | cons x l ih =>
    unfold setV
    cases k with
    | zero => rw [if_pos (show mine a.Txn a.Part x = true from h)]; rfl
    | succ k =>
      have h0 := hn 0 (by simp) (by omega)
      simp only [List.getElem_cons_zero] at h0
      rw [h0]
      simp only [List.length_cons] at hk
      simp only [List.set_cons_succ, Bool.false_eq_true, if_false]
      rw [ih (k := k) (by omega) (by simpa using h) (fun j hj hjk => by have := hn (j + 1) (by simpa using hj) (by omega); simpa using this)]
theorem insV_at {l : List Acc} {a : Acc} {k : Nat} (hk : k < l.length) (h : behind l[k] a = true) (hn : ∀ j (hj : j < l.length), j < k → behind l[j] a = false) : insV l a = l.take k ++ [a] ++ l.drop k := by
  induction l generalizing k with
  | nil => simp at hk
  | cons x l ih =>
    unfold insV
    cases k with
    | zero => rw [if_pos (show behind x a = true from h)]; rfl
    | succ k =>
      have h0 := hn 0 (by simp) (by omega)
      simp only [List.getElem_cons_zero] at h0
      rw [h0]
      simp only [List.length_cons] at hk
      simp only [Bool.false_eq_true, if_false, List.take_succ_cons, List.drop_succ_cons, List.cons_append]
      rw [ih (k := k) (by omega) (by simpa using h) (fun j hj hjk => by have := hn (j + 1) (by simpa using hj) (by omega); simpa using this)]
theorem insV_end {l : List Acc} {a : Acc} (hn : ∀ j (hj : j < l.length), behind l[j] a = false) : insV l a = l ++ [a] := by
  induction l with
  | nil => rfl
  | cons x l ih =>
    unfold insV
    have h0 := hn 0 (by simp)
    simp only [List.getElem_cons_zero] at h0
    rw [h0]
    simp only [Bool.false_eq_true, if_false, List.cons_append]
    rw [ih fun j hj => by have := hn (j + 1) (by simpa using hj); simpa using this]

/-- the answer's frame -/
abbrev out0 (id : Int) (m : Msg) : Msg := ⟨0, id, m.From, 0, 0, 0, 0, 0, 0, m.Txn, m.Part, m.Ballot, 0, 0, false, [], []⟩
def client (t : Int) : Int := 100 + t.fdiv 1048576
def stepP (a : Acc) (m o : Msg) : Acc × Msg :=
  if a.Promised < m.Ballot then ({ a with Promised := m.Ballot }, { o with Kind := 9, Ok := true, Index := a.Ballot, Value := a.Value })
  else (a, { o with Kind := 9, Ok := false, Index := a.Promised })
def stepO (a : Acc) (m o : Msg) : Acc × Msg :=
  let o := if m.Ballot = 0 then { o with To := client m.Txn } else o
  if a.Promised ≤ m.Ballot then ({ a with Promised := m.Ballot, Ballot := m.Ballot, Value := m.Value }, { o with Kind := 11, Ok := true, Value := m.Value })
  else (a, { o with Kind := 11, Ok := false, Index := a.Promised })
def may (m : Msg) : Bool := decide (m.Kind = 8) || (decide (m.Kind = 10) && (decide (m.Value = 1) || decide (m.Value = 2)))
def stepA (a : Acc) (id : Int) (m : Msg) : Acc × Msg := if m.Kind = 8 then stepP a m (out0 id m) else stepO a m (out0 id m)
def takeA (l : List Acc) (id : Int) (m : Msg) : List Acc × List Msg × Bool :=
  let f := findA l m.Txn m.Part
  if may m = false ∨ (f.2 = false ∧ 1024 ≤ l.length) then (l, [], false)
  else
    let s := stepA f.1 id m
    if s.1 = f.1 then (l, [s.2], false) else (if f.2 then setV l s.1 else insV l s.1, [s.2], true)
theorem find_idx {l : List Acc} {t p : Int} {was : Acc} {z : Int} (hf : findA l t p = (was, true)) (hz : IdxZ (fun k => mine t p (l.getD k default)) l.length z) :
    ∃ k : Nat, z = (k : Int) ∧ k < l.length ∧ (∀ s : Acc, s.Txn = t → s.Part = p → setV l s = l.set k s) := by
  by_cases h : 0 ≤ z
  · obtain ⟨k, h1, h2, h3, h4⟩ := hz.pos h
    refine ⟨k, h1, h2, fun s h5 h6 => setV_at h2 (by rw [h5, h6]; simpa [h2] using h3) (fun j hj hjk => by rw [h5, h6]; have := h4 j hjk; simpa [hj] using this)⟩
  · have := findA_none (l := l) (t := t) (p := p) fun j hj => by have := (hz.neg h).2 j hj; simpa [hj] using this
    rw [this] at hf
    cases hf
theorem ins_idx {l : List Acc} {s : Acc} {z : Int} (hz : IdxZ (fun k => behind (l.getD k default) s) l.length z) (h : 0 ≤ z) : ∃ i : Nat, z = (i : Int) ∧ i ≤ l.length ∧ insV l s = l.take i ++ [s] ++ l.drop i := by
  obtain ⟨k, h1, h2, h3, h4⟩ := hz.pos h
  exact ⟨k, h1, by omega, insV_at h2 (by simpa [h2] using h3) (fun j hj hjk => by have := h4 j hjk; simpa [hj] using this)⟩
theorem ins_none {l : List Acc} {s : Acc} {z : Int} (hz : IdxZ (fun k => behind (l.getD k default) s) l.length z) (h : ¬ 0 ≤ z) : ∃ i : Nat, l.length = i ∧ i ≤ l.length ∧ insV l s = l.take i ++ [s] ++ l.drop i := by
  refine ⟨l.length, rfl, Nat.le_refl _, ?_⟩
  rw [insV_end fun j hj => by have := (hz.neg h).2 j hj; simpa [hj] using this]
  simp
theorem findA_key (l : List Acc) (t p : Int) : (findA l t p).1.Txn = t ∧ (findA l t p).1.Part = p := by
  induction l with
  | nil => exact ⟨rfl, rfl⟩
  | cons x l ih =>
    unfold findA
    split
    · rename_i h; simpa [mine] using h
    · exact ih
theorem stepA_key (a : Acc) (id : Int) (m : Msg) : (stepA a id m).1.Txn = a.Txn ∧ (stepA a id m).1.Part = a.Part := by
  unfold stepA stepP stepO
  split
  · split <;> exact ⟨rfl, rfl⟩
  · dsimp only; split <;> exact ⟨rfl, rfl⟩
theorem stepA_bare (a : Acc) (id : Int) (m : Msg) : Bare (stepA a id m).2 := by
  unfold stepA stepP stepO
  split
  · split <;> exact ⟨rfl, rfl⟩
  · dsimp only; split <;> split <;> exact ⟨rfl, rfl⟩
theorem takeA_bare (l : List Acc) (id : Int) (m : Msg) : ∀ x ∈ (takeA l id m).2.1, Bare x := by
  unfold takeA
  dsimp only
  split
  · intro x hx; cases hx
  · split <;> (intro x hx; simp only [List.mem_singleton] at hx; rw [hx]; exact stepA_bare _ _ _)
theorem takeA_few (l : List Acc) (id : Int) (m : Msg) : (takeA l id m).2.1.length ≤ 1 := by
  unfold takeA
  dsimp only
  split
  · simp
  · split <;> simp
/-- a vote laid in its place -/
def withV (has : Bool) (a : Acc) : List Acc → List Acc
  | [] => [a]
  | x :: l => if (bif has then mine a.Txn a.Part x else behind x a) then (bif has then a :: l else a :: x :: l) else x :: withV has a l
theorem withV_drop {has : Bool} {a : Acc} {l : List Acc} {k : Nat} (hk : k < l.length) : withV has a (l.drop k) = if (bif has then mine a.Txn a.Part l[k] else behind l[k] a) then (bif has then a :: l.drop (k + 1) else a :: l.drop k) else l[k] :: withV has a (l.drop (k + 1)) := by
  rw [List.drop_eq_getElem_cons hk]; rfl
theorem withV_ins (a : Acc) : ∀ l, withV false a l = insV l a
  | [] => rfl
  | x :: l => by unfold withV insV; rw [withV_ins a l]; rfl
theorem withV_set {a : Acc} : ∀ {l : List Acc}, (findA l a.Txn a.Part).2 = true → withV true a l = setV l a
  | [], h => by cases h
  | x :: l, h => by
    unfold withV setV
    unfold findA at h
    by_cases hm : mine a.Txn a.Part x = true
    · simp [hm]
    · simp only [hm, Bool.false_eq_true, if_false, cond_true] at h ⊢
      rw [withV_set h]
section ws
variable {has lb : Bool} {a : Acc} {l L : List Acc} {k : Nat}
def tailV (has lb : Bool) (a : Acc) (r : List Acc) : List Acc := bif lb then r else withV has a r
theorem tail_set (hk : k < l.length) (h1 : has = true) (h2 : lb = false) (h3 : mine a.Txn a.Part l[k] = true) (he : withV has a l = L ++ tailV has lb a (l.drop k)) : withV has a l = (L ++ [a]) ++ tailV has true a (l.drop (k + 1)) := by
  subst h1 h2
  rw [he]; unfold tailV; simp only [cond_false, cond_true]
  rw [withV_drop hk, cond_true, cond_true, if_pos h3, List.append_assoc]; rfl
theorem tail_ins (hk : k < l.length) (h1 : has = false) (h2 : lb = false) (h3 : behind l[k] a = true) (he : withV has a l = L ++ tailV has lb a (l.drop k)) : withV has a l = (L ++ [a]) ++ [l[k]] ++ tailV has true a (l.drop (k + 1)) := by
  subst h1 h2
  rw [he]; unfold tailV; simp only [cond_false, cond_true]
  rw [withV_drop hk, cond_false, cond_false, if_pos h3, List.drop_eq_getElem_cons hk]; simp
theorem tail_go (hk : k < l.length) (h1 : lb = true) (he : withV has a l = L ++ tailV has lb a (l.drop k)) : withV has a l = (L ++ [l[k]]) ++ tailV has lb a (l.drop (k + 1)) := by
  subst h1
  rw [he]; unfold tailV; simp only [cond_true]
  rw [List.drop_eq_getElem_cons hk]; simp
theorem tail_set' (hk : k < l.length) (h1 : has = true) (h3 : mine a.Txn a.Part l[k] = false) (he : withV has a l = L ++ tailV has lb a (l.drop k)) : withV has a l = (L ++ [l[k]]) ++ tailV has lb a (l.drop (k + 1)) := by
  subst h1
  cases lb
  · rw [he]; unfold tailV; simp only [cond_false]
    rw [withV_drop hk, cond_true, cond_true, h3]; simp
  · exact tail_go hk rfl he
theorem tail_ins' (hk : k < l.length) (h1 : has = false) (h3 : behind l[k] a = false) (he : withV has a l = L ++ tailV has lb a (l.drop k)) : withV has a l = (L ++ [l[k]]) ++ tailV has lb a (l.drop (k + 1)) := by
  subst h1
  cases lb
  · rw [he]; unfold tailV; simp only [cond_false]
    rw [withV_drop hk, cond_false, cond_false, h3]; simp
  · exact tail_go hk rfl he
end ws
theorem takeA_none {l : List Acc} {id : Int} {m : Msg} {was : Acc} {has : Bool} (hf : findA l m.Txn m.Part = (was, has)) (h : may m = false ∨ (has = false ∧ 1024 ≤ l.length)) : takeA l id m = (l, [], false) := by
  unfold takeA; rw [hf]; exact if_pos h
theorem takeA_same {l : List Acc} {id : Int} {m : Msg} {was : Acc} {has : Bool} (hf : findA l m.Txn m.Part = (was, has)) (h : ¬ (may m = false ∨ (has = false ∧ 1024 ≤ l.length))) (hs : (stepA was id m).1 = was) : takeA l id m = (l, [(stepA was id m).2], false) := by
  unfold takeA; rw [hf]; simp only [if_neg h, if_pos hs]
theorem takeA_new {l : List Acc} {id : Int} {m : Msg} {was : Acc} {has : Bool} (hf : findA l m.Txn m.Part = (was, has)) (h : ¬ (may m = false ∨ (has = false ∧ 1024 ≤ l.length))) (hs : ¬ (stepA was id m).1 = was) : takeA l id m = (if has then setV l (stepA was id m).1 else insV l (stepA was id m).1, [(stepA was id m).2], true) := by
  unfold takeA; rw [hf]; simp only [if_neg h, if_neg hs]
end Go.Proofs.Ytjmddkaokmdkbaa
