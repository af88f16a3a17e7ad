/- Blocks as plain data: lists in order, what a block is, setting, parts, joining. -/
import Derived.Test.YtobjmehppmhkdaaRecs
namespace Go.Proofs.Ytobjmehppmhkdaa
open Go Go.RowKit Kf

abbrev zero4 : List UInt8 := [0, 0, 0, 0]
def cntB : List Bl → Int → Nat
  | [], _ => 0
  | x :: l, no => if x.No < no then cntB l no + 1 else 0
def hasB (l : List Bl) (no : Int) : Bool := l.any fun x => decide (x.No = no)
def getO (l : List Bl) (no : Int) : Option (List UInt8) := (l.find? fun x => decide (x.No = no)).map (·.Data)
def getB (l : List Bl) (no : Int) : List UInt8 := (getO l no).getD zero4
abbrev SortB (l : List Bl) : Prop := l.Pairwise fun a b => a.No < b.No
structure RightB (l : List Bl) : Prop where
  sort : SortB l
  each : ∀ x ∈ l, 0 ≤ x.No ∧ x.No < 64 ∧ x.Data.length = 4 ∧ x.Data ≠ zero4
theorem RightB.nil : RightB [] := ⟨List.Pairwise.nil, fun x hx => by cases hx⟩

section
variable {l m a b : List Bl} {x : Bl} {no n : Int} {k : Nat}
theorem cnt_le : ∀ {l : List Bl}, cntB l no ≤ l.length
  | [] => Nat.le_refl _
  | x :: l => by
    unfold cntB
    have := cnt_le (l := l)
    split <;> simp <;> omega
theorem cnt_lt : ∀ {l : List Bl}, SortB l → ∀ {k : Nat} (hk : k < l.length), (l[k].No < no ↔ k < cntB l no)
  | [], _, k, hk => by simp at hk
  | x :: l, h, k, hk => by
    have h := List.pairwise_cons.1 h
    unfold cntB
    cases k with
    | zero =>
      simp only [List.getElem_cons_zero]
      split <;> simp [*]
    | succ k =>
      have hk' : k < l.length := by simpa using hk
      have ih := cnt_lt h.2 hk'
      have h1 := h.1 _ (List.getElem_mem hk')
      simp only [List.getElem_cons_succ]
      split
      · rw [ih]; omega
      · constructor
        · intro h2; omega
        · intro h2; omega
theorem cnt_filter : ∀ {l : List Bl}, SortB l → l.take (cntB l no) = l.filter (fun x => decide (x.No < no)) ∧ l.drop (cntB l no) = l.filter (fun x => decide (no ≤ x.No))
  | [], _ => ⟨rfl, rfl⟩
  | x :: l, h => by
    have h := List.pairwise_cons.1 h
    have ih := cnt_filter h.2
    unfold cntB
    by_cases hx : x.No < no
    · rw [if_pos hx, List.take_succ_cons, List.drop_succ_cons, ih.1, ih.2, List.filter_cons, List.filter_cons, decide_eq_true hx, decide_eq_false (by omega : ¬ no ≤ x.No)]
      exact ⟨rfl, rfl⟩
    · rw [if_neg hx, List.filter_cons, List.filter_cons, decide_eq_false hx, decide_eq_true (by omega : no ≤ x.No)]
      have h1 : l.filter (fun x => decide (x.No < no)) = [] := List.filter_eq_nil_iff.2 fun y hy => by have := h.1 y hy; simp; omega
      have h2 : l.filter (fun x => decide (no ≤ x.No)) = l := List.filter_eq_self.2 fun y hy => by have := h.1 y hy; simp; omega
      rw [h1, h2]
      exact ⟨rfl, rfl⟩
theorem has_iff (h : SortB l) : hasB l no = true ↔ ∃ hk : cntB l no < l.length, l[cntB l no].No = no := by
  constructor
  · intro hh
    obtain ⟨y, hy, hyn⟩ := List.any_eq_true.1 hh
    have hyn := of_decide_eq_true hyn
    obtain ⟨j, hj, rfl⟩ := List.getElem_of_mem hy
    have h1 : ¬ j < cntB l no := fun hlt => by have := (cnt_lt h hj).2 hlt; omega
    have h3 : cntB l no < l.length := by omega
    refine ⟨h3, ?_⟩
    have h2 : ¬ l[cntB l no].No < no := fun hlt => absurd ((cnt_lt h h3).1 hlt) (Nat.lt_irrefl _)
    rcases Nat.lt_or_eq_of_le (Nat.le_of_not_lt h1) with hlt | he
    · have := List.pairwise_iff_getElem.1 h _ _ h3 hj hlt
      omega
    · simp only [he]; exact hyn
  · rintro ⟨hk, he⟩
    exact List.any_eq_true.2 ⟨_, List.getElem_mem hk, decide_eq_true he⟩
theorem has_dec (h : SortB l) : hasB l no = decide (∃ hk : cntB l no < l.length, l[cntB l no].No = no) := by
  rw [Bool.eq_iff_iff, decide_eq_true_eq]; exact has_iff h
/-- behind the one of that number -/
theorem drop_gt (h : SortB l) : l.drop (if hasB l no then cntB l no + 1 else cntB l no) = l.filter (fun x => decide (no < x.No)) := by
  have hd := (cnt_filter (no := no) h).2
  have key : l.filter (fun x => decide (no < x.No)) = (l.drop (cntB l no)).filter (fun x => decide (no < x.No)) := by
    rw [hd, List.filter_filter]
    congr 1
    funext x
    rw [Bool.eq_iff_iff]
    simp only [decide_eq_true_eq, Bool.and_eq_true]
    omega
  rw [key]
  by_cases hh : hasB l no = true
  · obtain ⟨hk, he⟩ := (has_iff h).1 hh
    rw [if_pos hh, List.drop_eq_getElem_cons hk, List.filter_cons, decide_eq_false (by omega)]
    have hs : SortB (l.drop (cntB l no)) := List.Pairwise.sublist (List.drop_sublist _ _) h
    rw [List.drop_eq_getElem_cons hk] at hs
    have hs := List.pairwise_cons.1 hs
    rw [if_neg (by simp)]
    exact (List.filter_eq_self.2 fun y hy => by have := hs.1 y hy; simp; omega).symm
  · rw [if_neg hh, hd]
    refine (List.filter_eq_self.2 fun y hy => ?_).symm
    rw [List.mem_filter] at hy
    have h1 := of_decide_eq_true hy.2
    have h2 : y.No ≠ no := fun e => hh (List.any_eq_true.2 ⟨y, hy.1, decide_eq_true e⟩)
    simp; omega

theorem getO_cons : getO (x :: l) n = if x.No = n then some x.Data else getO l n := by
  unfold getO
  rw [List.find?_cons]
  by_cases h : x.No = n
  · rw [if_pos h, decide_eq_true h]; rfl
  · rw [if_neg h, decide_eq_false h]
theorem getO_append : ∀ {a : List Bl}, getO (a ++ b) n = (getO a n).or (getO b n)
  | [] => rfl
  | x :: a => by
    rw [List.cons_append, getO_cons, getO_cons, getO_append]
    split <;> rfl
theorem getO_filter {p : Int → Bool} : ∀ {l : List Bl}, getO (l.filter fun x => p x.No) n = if p n then getO l n else none
  | [] => by show none = _; split <;> rfl
  | x :: l => by
    rw [List.filter_cons]
    have ih := getO_filter (p := p) (l := l)
    by_cases hp : p x.No = true
    · rw [if_pos hp, getO_cons, getO_cons, ih]
      by_cases hx : x.No = n
      · rw [if_pos hx, if_pos hx, ← hx, if_pos hp]
      · rw [if_neg hx, if_neg hx]
    · rw [if_neg hp, ih, getO_cons]
      by_cases hx : x.No = n
      · rw [← hx, if_neg hp, if_neg hp]
      · rw [if_neg hx]
theorem getO_mem {d : List UInt8} : ∀ {l : List Bl}, getO l n = some d → ∃ x ∈ l, x.No = n ∧ x.Data = d
  | [], h => by cases h
  | x :: l, h => by
    rw [getO_cons] at h
    split at h
    · rename_i hx; exact ⟨x, by simp, hx, by injection h⟩
    · obtain ⟨y, hy, h1⟩ := getO_mem h; exact ⟨y, by simp [hy], h1⟩
theorem getO_of : ∀ {l : List Bl}, SortB l → ∀ {x : Bl}, x ∈ l → getO l x.No = some x.Data
  | [], _, x, hx => by cases hx
  | y :: l, h, x, hx => by
    have h := List.pairwise_cons.1 h
    rw [getO_cons]
    rcases List.mem_cons.1 hx with rfl | hx
    · rw [if_pos rfl]
    · rw [if_neg (by have := h.1 x hx; omega), getO_of h.2 hx]
theorem getB_cons : getB (x :: l) n = if x.No = n then x.Data else getB l n := by
  unfold getB; rw [getO_cons]; split <;> rfl
theorem getB_drop (hk : k < l.length) : getB (l.drop k) n = if l[k].No = n then l[k].Data else getB (l.drop (k + 1)) n := by
  rw [List.drop_eq_getElem_cons hk, getB_cons]
theorem getB_of (h : SortB l) (hx : x ∈ l) : getB l x.No = x.Data := by unfold getB; rw [getO_of h hx]; rfl
theorem getB_len (h : RightB l) : (getB l n).length = 4 := by
  unfold getB
  cases hg : getO l n with
  | none => rfl
  | some d => obtain ⟨x, hx, _, rfl⟩ := getO_mem hg; exact (h.each x hx).2.2.1
theorem getB_out (h : RightB l) (hn : n < 0 ∨ 64 ≤ n) : getB l n = zero4 := by
  unfold getB
  cases hg : getO l n with
  | none => rfl
  | some d => obtain ⟨x, hx, hxn, rfl⟩ := getO_mem hg; have := h.each x hx; omega
theorem has_none (h : hasB l n = false) : getB l n = zero4 := by
  unfold getB
  cases hg : getO l n with
  | none => rfl
  | some d =>
    obtain ⟨x, hx, hxn, rfl⟩ := getO_mem hg
    have : hasB l n = true := List.any_eq_true.2 ⟨x, hx, decide_eq_true hxn⟩
    rw [h] at this; cases this
theorem right_mem (h : RightB l) : x ∈ l ↔ (0 ≤ x.No ∧ x.No < 64 ∧ x.Data ≠ zero4 ∧ getB l x.No = x.Data) := by
  constructor
  · intro hx
    have := h.each x hx
    exact ⟨this.1, this.2.1, this.2.2.2, getB_of h.sort hx⟩
  · rintro ⟨_, _, h3, h4⟩
    unfold getB at h4
    cases hg : getO l x.No with
    | none => rw [hg] at h4; exact absurd h4.symm h3
    | some d =>
      rw [hg] at h4
      obtain ⟨y, hy, hyn, hyd⟩ := getO_mem hg
      have : y = x := by rw [Bl.eq_iff]; exact ⟨hyn, hyd.trans h4⟩
      exact this ▸ hy
/-- lists in order that say the same of each block are the same -/
theorem right_ext (hl : RightB l) (hm : RightB m) (h : ∀ n : Nat, n < 64 → getB l (n : Int) = getB m (n : Int)) : l = m := by
  refine sorted_ext (lt := fun a b => a.No < b.No) (fun h h2 => by omega) hl.sort hm.sort fun x => ?_
  rw [right_mem hl, right_mem hm]
  constructor <;> rintro ⟨h1, h2, h3, h4⟩ <;> refine ⟨h1, h2, h3, ?_⟩ <;> have := h x.No.toNat (by omega) <;> rw [show ((x.No.toNat : Nat) : Int) = x.No by omega] at this
  · rw [← this]; exact h4
  · rw [this]; exact h4
theorem right_filter {p : Bl → Bool} (h : RightB l) : RightB (l.filter p) := ⟨h.sort.sublist List.filter_sublist, fun x hx => h.each x (List.mem_filter.1 hx).1⟩
theorem get_filter {p : Int → Bool} : getB (l.filter fun x => p x.No) n = if p n then getB l n else zero4 := by
  unfold getB; rw [getO_filter]; split <;> rfl

/-- is a block set so? -/
def okB (no : Int) (b : List UInt8) : Bool := decide (0 ≤ no ∧ no < 64 ∧ b.length = 4)
def setB (l : List Bl) (no : Int) (b : List UInt8) : List Bl :=
  if okB no b then l.filter (fun x => decide (x.No < no)) ++ (if b = zero4 then [] else [⟨no, b⟩]) ++ l.filter (fun x => decide (no < x.No)) else l
theorem set_right {b : List UInt8} (h : RightB l) : RightB (setB l no b) := by
  unfold setB
  split
  case isFalse => exact h
  case isTrue hok =>
    have hok := of_decide_eq_true hok
    have h1 := right_filter (p := fun x => decide (x.No < no)) h
    have h2 := right_filter (p := fun x => decide (no < x.No)) h
    have hm : ∀ x ∈ (if b = zero4 then [] else [(⟨no, b⟩ : Bl)]), x = ⟨no, b⟩ ∧ b ≠ zero4 := by
      intro x hx
      split at hx
      · cases hx
      · rename_i hb; exact ⟨by simpa using hx, hb⟩
    refine ⟨?_, fun x hx => ?_⟩
    · refine List.pairwise_append.2 ⟨List.pairwise_append.2 ⟨h1.sort, ?_, fun x hx y hy => ?_⟩, h2.sort, fun x hx y hy => ?_⟩
      · split
        · exact List.Pairwise.nil
        · exact List.pairwise_singleton _ _
      · obtain ⟨rfl, _⟩ := hm y hy
        exact of_decide_eq_true (List.mem_filter.1 hx).2
      · have h3 := of_decide_eq_true (List.mem_filter.1 hy).2
        rcases List.mem_append.1 hx with hx | hx
        · have := of_decide_eq_true (List.mem_filter.1 hx).2; omega
        · obtain ⟨rfl, _⟩ := hm x hx; exact h3
    · rcases List.mem_append.1 hx with hx | hx
      · rcases List.mem_append.1 hx with hx | hx
        · exact h1.each x hx
        · obtain ⟨rfl, hb⟩ := hm x hx; exact ⟨hok.1, hok.2.1, hok.2.2, hb⟩
      · exact h2.each x hx
theorem set_get {b : List UInt8} : getB (setB l no b) n = if okB no b = true ∧ n = no then b else getB l n := by
  unfold setB
  by_cases hok : okB no b = true
  · rw [if_pos hok]
    unfold getB
    rw [getO_append, getO_append, getO_filter (p := fun z => decide (z < no)), getO_filter (p := fun z => decide (no < z))]
    have hmid : getO (if b = zero4 then [] else [(⟨no, b⟩ : Bl)]) n = if b = zero4 then none else if no = n then some b else none := by
      split
      · rfl
      · rw [getO_cons]; rfl
    rw [hmid]
    simp only [hok, true_and]
    by_cases hn : n = no
    · subst hn
      by_cases hb : b = zero4
      · simp [hb]
      · simp [hb]
    · have hn' : ¬ no = n := fun e => hn e.symm
      by_cases hlt : n < no
      · have : ¬ no < n := by omega
        simp [hlt, this, hn', hn]
      · have : no < n := by omega
        simp [hlt, this, hn', hn]
  · rw [if_neg hok, if_neg (fun h => hok h.1)]
/-- the steps of Set -/
theorem set_zero {b : List UInt8} (h : SortB l) (hok : okB no b = true) (hb : b = zero4) : setB l no b = l.take (cntB l no) ++ l.drop (if hasB l no then cntB l no + 1 else cntB l no) := by
  unfold setB
  rw [if_pos hok, if_pos hb, (cnt_filter h).1, drop_gt h, List.append_nil]
theorem set_put {b : List UInt8} (h : SortB l) (hok : okB no b = true) (hb : ¬ b = zero4) : setB l no b = l.take (cntB l no) ++ [⟨no, b⟩] ++ l.drop (if hasB l no then cntB l no + 1 else cntB l no) := by
  unfold setB
  rw [if_pos hok, if_neg hb, (cnt_filter h).1, drop_gt h]
theorem set_no {b : List UInt8} (hok : okB no b = false) : setB l no b = l := by unfold setB; rw [hok]; rfl

/-- a span -/
def inSp (lo hi : Int) (n : Int) : Bool := decide (lo ≤ n ∧ n < hi)
def inB (lo hi : Int) (l : List Bl) : List Bl := l.filter fun x => inSp lo hi x.No
def outB (lo hi : Int) (l : List Bl) : List Bl := l.filter fun x => !inSp lo hi x.No
def joinB (a b : List Bl) : List Bl := b.foldl (fun l x => setB l x.No x.Data) a
theorem join_right (ha : RightB a) : ∀ (b : List Bl), RightB (joinB a b) := by
  intro b
  induction b generalizing a with
  | nil => exact ha
  | cons x b ih => exact ih (set_right ha)
theorem join_get : ∀ {b a : List Bl}, RightB b → getB (joinB a b) n = if getB b n = zero4 then getB a n else getB b n
  | [], a, _ => by exact (if_pos (show getB [] n = zero4 from rfl)).symm
  | x :: b, a, h => by
    have hb : RightB b := ⟨(List.pairwise_cons.1 h.sort).2, fun y hy => h.each y (List.mem_cons_of_mem _ hy)⟩
    show getB (joinB (setB a x.No x.Data) b) n = _
    rw [join_get hb, set_get, getB_cons]
    have hx := h.each x (by simp)
    have hok : okB x.No x.Data = true := decide_eq_true ⟨hx.1, hx.2.1, hx.2.2.1⟩
    by_cases hn : x.No = n
    · subst hn
      have hz : getB b x.No = zero4 := by
        unfold getB
        cases hg : getO b x.No with
        | none => rfl
        | some d => obtain ⟨y, hy, hyn, _⟩ := getO_mem hg; have := (List.pairwise_cons.1 h.sort).1 y hy; omega
      simp [hok, hz, hx.2.2.2]
    · have hn' : ¬ n = x.No := fun e => hn e.symm
      simp [hn, hn']
theorem join_snoc {y : Bl} : joinB a (b ++ [y]) = setB (joinB a b) y.No y.Data := by unfold joinB; rw [List.foldl_append]; rfl
end

/-! ### Sixty-four rows -/
def lstK (f : Nat → List UInt8) (k : Nat) : List Bl := ((List.range k).filter fun n => decide (f n ≠ zero4)).map fun (n : Nat) => ⟨(n : Int), f n⟩
abbrev lstF (f : Nat → List UInt8) : List Bl := lstK f 64
theorem lstK_succ (f : Nat → List UInt8) (k : Nat) : lstK f (k + 1) = lstK f k ++ (if f k = zero4 then [] else [⟨(k : Int), f k⟩]) := by
  unfold lstK
  rw [List.range_succ, List.filter_append, List.map_append, List.filter_cons]
  by_cases h : f k = zero4 <;> simp [h]
theorem lstK_mem {f : Nat → List UInt8} {k : Nat} {x : Bl} : x ∈ lstK f k ↔ ∃ n : Nat, n < k ∧ f n ≠ zero4 ∧ x = ⟨(n : Int), f n⟩ := by
  unfold lstK
  rw [List.mem_map]
  constructor
  · rintro ⟨n, hn, rfl⟩
    rw [List.mem_filter, List.mem_range] at hn
    exact ⟨n, hn.1, of_decide_eq_true hn.2, rfl⟩
  · rintro ⟨n, h1, h2, rfl⟩
    exact ⟨n, by rw [List.mem_filter, List.mem_range]; exact ⟨h1, decide_eq_true h2⟩, rfl⟩
theorem lst_right {f : Nat → List UInt8} (h : ∀ n, n < 64 → (f n).length = 4) : RightB (lstF f) := by
  refine ⟨?_, fun x hx => ?_⟩
  · unfold SortB lstF
    suffices ∀ k, SortB (lstK f k) from this 64
    intro k
    induction k with
    | zero => show List.Pairwise _ (lstK f 0); exact List.Pairwise.nil
    | succ k ih =>
      rw [lstK_succ]
      refine List.pairwise_append.2 ⟨ih, ?_, fun x hx y hy => ?_⟩
      · split
        · exact List.Pairwise.nil
        · exact List.pairwise_singleton _ _
      · obtain ⟨n, hn, _, rfl⟩ := lstK_mem.1 hx
        split at hy
        · cases hy
        · obtain rfl : y = _ := by simpa using hy
          show (n : Int) < (k : Int)
          omega
  · obtain ⟨n, hn, hz, rfl⟩ := lstK_mem.1 hx
    exact ⟨by show 0 ≤ (n : Int); omega, by show (n : Int) < 64; omega, h n hn, hz⟩
theorem lst_get {f : Nat → List UInt8} (h : ∀ n, n < 64 → (f n).length = 4) {n : Nat} (hn : n < 64) : getB (lstF f) (n : Int) = f n := by
  have hr := lst_right h
  by_cases hz : f n = zero4
  · rw [hz]
    unfold getB
    cases hg : getO (lstF f) (n : Int) with
    | none => rfl
    | some d =>
      obtain ⟨x, hx, hxn, rfl⟩ := getO_mem hg
      obtain ⟨q, hq, hqz, rfl⟩ := lstK_mem.1 hx
      have : q = n := by have : (q : Int) = (n : Int) := hxn; omega
      exact absurd (this ▸ hz) hqz
  · exact getB_of hr.sort (x := ⟨(n : Int), f n⟩) (lstK_mem.2 ⟨n, hn, hz, rfl⟩)
/-- the rows that a list is -/
abbrev rowsF (l : List Bl) : Nat → List UInt8 := fun n => getB l (n : Int)
def updF (f : Nat → List UInt8) (no : Int) (b : List UInt8) : Nat → List UInt8 := fun n => if okB no b = true ∧ (n : Int) = no then b else f n
theorem refSet_eq {l : List Bl} {no : Int} {b : List UInt8} (h : RightB l) : lstF (updF (rowsF l) no b) = setB l no b := by
  have hlen : ∀ n, n < 64 → (updF (rowsF l) no b n).length = 4 := fun n _ => by
    unfold updF
    split
    · rename_i hb; exact (of_decide_eq_true hb.1).2.2
    · exact getB_len h
  refine right_ext (lst_right hlen) (set_right h) fun n hn => ?_
  rw [lst_get hlen hn, set_get]; rfl
theorem refPart_eq {l : List Bl} {p : Int → Bool} (h : RightB l) : lstF (fun n => if p (n : Int) then rowsF l n else zero4) = l.filter fun x => p x.No := by
  have hlen : ∀ n, n < 64 → ((fun n : Nat => if p (n : Int) then rowsF l n else zero4) n).length = 4 := fun n _ => by
    dsimp only
    split
    · exact getB_len h
    · rfl
  refine right_ext (lst_right hlen) (right_filter h) fun n hn => ?_
  rw [lst_get hlen hn, get_filter]
theorem refJoin_eq {a b : List Bl} (ha : RightB a) (hb : RightB b) : lstF (fun n => if rowsF b n = zero4 then rowsF a n else rowsF b n) = joinB a b := by
  have hlen : ∀ n, n < 64 → ((fun n : Nat => if rowsF b n = zero4 then rowsF a n else rowsF b n) n).length = 4 := fun n _ => by
    dsimp only
    split
    · exact getB_len ha
    · exact getB_len hb
  refine right_ext (lst_right hlen) (join_right ha b) fun n hn => ?_
  rw [lst_get hlen hn, join_get hb]
theorem right_len {l : List Bl} (h : RightB l) : l.length ≤ 64 := by
  have e : l = lstF (rowsF l) := right_ext h (lst_right fun n _ => getB_len h) fun n hn => (lst_get (fun n _ => getB_len h) hn).symm
  rw [e]
  unfold lstF lstK
  rw [List.length_map]
  exact Nat.le_trans (List.length_filter_le _ _) (Nat.le_of_eq List.length_range)
end Go.Proofs.Ytobjmehppmhkdaa
