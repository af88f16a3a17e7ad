/- What is kept, as plain data: lists in order, what is kept of a snapshot's block, keeping. -/
import Derived.Test.YtcaimmbhdfoniaaBlkLaw
namespace Go.Proofs.Ytcaimmbhdfoniaa
open Go Go.RowKit Kf

abbrev KLt (a b : Kp) : Prop := a.Snap < b.Snap ∨ a.Snap = b.Snap ∧ a.No < b.No
abbrev SortK (l : List Kp) : Prop := l.Pairwise KLt
def ltK (s n : Int) (x : Kp) : Bool := decide (x.Snap < s ∨ x.Snap = s ∧ x.No < n)
def gtK (s n : Int) (x : Kp) : Bool := decide (s < x.Snap ∨ x.Snap = s ∧ n < x.No)
def isK (s n : Int) (x : Kp) : Bool := decide (x.Snap = s ∧ x.No = n)
def cntK : List Kp → Int → Int → Nat
  | [], _, _ => 0
  | x :: l, s, n => if ltK s n x then cntK l s n + 1 else 0
def hasK (l : List Kp) (s n : Int) : Bool := l.any (isK s n)
def kepO (l : List Kp) (s n : Int) : Option (List UInt8) := (l.find? (isK s n)).map (·.Data)
structure RightK (l : List Kp) : Prop where
  sort : SortK l
  each : ∀ x ∈ l, 0 ≤ x.No ∧ x.No < 64 ∧ x.Data.length = 4
theorem RightK.nil : RightK [] := ⟨List.Pairwise.nil, fun x hx => by cases hx⟩
section
variable {l m a b : List Kp} {x : Kp} {s n s' n' : Int} {k : Nat}
theorem cntK_le : ∀ {l : List Kp}, cntK l s n ≤ l.length
  | [] => Nat.le_refl _
  | x :: l => by
    unfold cntK
    have := cntK_le (l := l)
    split <;> simp <;> omega
/-- the first that is not below -/
theorem cntK_at : ∀ {l : List Kp} {k : Nat}, k ≤ l.length → (∀ j (_ : j < l.length), j < k → ltK s n l[j] = true) → (∀ h : k < l.length, ltK s n l[k] = false) → cntK l s n = k
  | [], k, hk, _, _ => by simp at hk; subst hk; rfl
  | x :: l, k, hk, h1, h2 => by
    unfold cntK
    cases k with
    | zero =>
      have := h2 (by simp)
      simp only [List.getElem_cons_zero] at this
      rw [if_neg (by rw [this]; simp)]
    | succ k =>
      have := h1 0 (by simp) (by omega)
      simp only [List.getElem_cons_zero] at this
      rw [if_pos this, cntK_at (by simpa using hk) (fun j hj hjk => by have := h1 (j + 1) (by simpa using hj) (by omega); simpa using this) (fun h => by have := h2 (by simpa using h); simpa using this)]
theorem cntK_filter : ∀ {l : List Kp}, SortK l → l.take (cntK l s n) = l.filter (ltK s n) ∧ l.drop (cntK l s n) = l.filter (fun x => !ltK s n x)
  | [], _ => ⟨rfl, rfl⟩
  | x :: l, h => by
    have h := List.pairwise_cons.1 h
    have ih := cntK_filter h.2
    unfold cntK
    by_cases hx : ltK s n x = true
    · rw [if_pos hx, List.take_succ_cons, List.drop_succ_cons, ih.1, ih.2, List.filter_cons, List.filter_cons, if_pos hx, if_neg (by simp [hx])]
      exact ⟨rfl, rfl⟩
    · rw [if_neg hx, List.filter_cons, List.filter_cons, if_neg hx, if_pos (by simpa using hx)]
      have hall : ∀ y ∈ l, ltK s n y = false := fun y hy => by
        have h1 := h.1 y hy
        unfold ltK KLt at *
        simp only [decide_eq_true_eq] at hx
        rw [decide_eq_false_iff_not]
        omega
      rw [List.filter_eq_nil_iff.2 (fun y hy => by rw [hall y hy]; simp), List.filter_eq_self.2 (fun y hy => by rw [hall y hy]; rfl)]
      exact ⟨rfl, rfl⟩
theorem hasK_iff (h : SortK l) : hasK l s n = true ↔ ∃ hk : cntK l s n < l.length, isK s n l[cntK l s n] = true := by
  constructor
  · intro hh
    obtain ⟨y, hy, hyn⟩ := List.any_eq_true.1 hh
    have hy2 : y ∈ l.drop (cntK l s n) := by
      rw [(cntK_filter h).2, List.mem_filter]
      refine ⟨hy, ?_⟩
      unfold isK ltK at *
      simp only [decide_eq_true_eq, Bool.not_eq_true', decide_eq_false_iff_not] at *
      omega
    have hk : cntK l s n < l.length := by
      rcases Nat.lt_or_ge (cntK l s n) l.length with h1 | h1
      · exact h1
      · rw [List.drop_of_length_le h1] at hy2; cases hy2
    refine ⟨hk, ?_⟩
    rw [List.drop_eq_getElem_cons hk] at hy2
    have hm : l[cntK l s n] ∈ l.drop (cntK l s n) := List.mem_iff_getElem.2 ⟨0, by simp; omega, by simp⟩
    rw [(cntK_filter h).2, List.mem_filter] at hm
    rcases List.mem_cons.1 hy2 with e | hy3
    · rw [← e]; exact hyn
    · have hs : SortK (l.drop (cntK l s n)) := List.Pairwise.sublist (List.drop_sublist _ _) h
      rw [List.drop_eq_getElem_cons hk] at hs
      have := (List.pairwise_cons.1 hs).1 y hy3
      have hm2 := hm.2
      unfold isK ltK KLt at *
      simp only [decide_eq_true_eq, Bool.not_eq_true', decide_eq_false_iff_not] at *
      omega
  · rintro ⟨hk, he⟩
    exact List.any_eq_true.2 ⟨_, List.getElem_mem hk, he⟩
theorem hasK_dec (h : SortK l) : hasK l s n = decide (∃ hk : cntK l s n < l.length, isK s n l[cntK l s n] = true) := by
  rw [Bool.eq_iff_iff, decide_eq_true_eq]; exact hasK_iff h
theorem dropK_gt (h : SortK l) : l.drop (if hasK l s n then cntK l s n + 1 else cntK l s n) = l.filter (gtK s n) := by
  have hd := (cntK_filter (s := s) (n := n) h).2
  have key : l.filter (gtK s n) = (l.drop (cntK l s n)).filter (gtK s n) := by
    rw [hd, List.filter_filter]
    congr 1
    funext x
    rw [Bool.eq_iff_iff]
    unfold gtK ltK
    simp only [decide_eq_true_eq, Bool.and_eq_true, Bool.not_eq_true', decide_eq_false_iff_not]
    omega
  rw [key]
  by_cases hh : hasK l s n = true
  · obtain ⟨hk, he⟩ := (hasK_iff h).1 hh
    have hng : gtK s n l[cntK l s n] = false := by unfold isK gtK at *; simp only [decide_eq_true_eq] at he; rw [decide_eq_false_iff_not]; omega
    rw [if_pos hh, List.drop_eq_getElem_cons hk, List.filter_cons, if_neg (by rw [hng]; simp)]
    have hs : SortK (l.drop (cntK l s n)) := List.Pairwise.sublist (List.drop_sublist _ _) h
    rw [List.drop_eq_getElem_cons hk] at hs
    have hs := List.pairwise_cons.1 hs
    refine (List.filter_eq_self.2 fun y hy => ?_).symm
    have := hs.1 y hy
    unfold isK gtK KLt at *
    simp only [decide_eq_true_eq] at *
    omega
  · rw [if_neg hh, hd]
    refine (List.filter_eq_self.2 fun y hy => ?_).symm
    rw [List.mem_filter] at hy
    have h1 := hy.2
    have h2 : ¬ isK s n y = true := fun e => hh (List.any_eq_true.2 ⟨y, hy.1, e⟩)
    unfold isK gtK ltK at *
    simp only [decide_eq_true_eq, Bool.not_eq_true', decide_eq_false_iff_not] at *
    omega
theorem kepO_cons : kepO (x :: l) s n = if isK s n x then some x.Data else kepO l s n := by
  unfold kepO
  rw [List.find?_cons]
  by_cases h : isK s n x = true
  · rw [h]; rfl
  · have h : isK s n x = false := by simpa using h
    rw [h]; rfl
theorem kepO_append : ∀ {a : List Kp}, kepO (a ++ b) s n = (kepO a s n).or (kepO b s n)
  | [] => rfl
  | x :: a => by
    rw [List.cons_append, kepO_cons, kepO_cons, kepO_append]
    split <;> rfl
/-- what is filtered by the place alone -/
theorem kepO_filter {p : Kp → Bool} {q : Bool} (hp : ∀ x, isK s n x = true → p x = q) : ∀ {l : List Kp}, kepO (l.filter p) s n = if q then kepO l s n else none
  | [] => by show none = _; split <;> rfl
  | x :: l => by
    rw [List.filter_cons]
    have ih := kepO_filter hp (l := l)
    by_cases hx : isK s n x = true
    · have hpx := hp x hx
      cases q
      · rw [if_neg (by rw [hpx]; simp), ih]; rfl
      · rw [if_pos hpx, kepO_cons, kepO_cons, if_pos hx, if_pos hx]; rfl
    · by_cases hpx : p x = true
      · rw [if_pos hpx, kepO_cons, if_neg hx, ih, kepO_cons, if_neg hx]
      · rw [if_neg hpx, ih, kepO_cons, if_neg hx]
theorem kepO_mem {d : List UInt8} : ∀ {l : List Kp}, kepO l s n = some d → ∃ x ∈ l, x.Snap = s ∧ x.No = n ∧ x.Data = d
  | [], h => by cases h
  | x :: l, h => by
    rw [kepO_cons] at h
    split at h
    · rename_i hx
      have := of_decide_eq_true hx
      exact ⟨x, by simp, this.1, this.2, by injection h⟩
    · obtain ⟨y, hy, h1⟩ := kepO_mem h; exact ⟨y, by simp [hy], h1⟩
theorem kepO_of : ∀ {l : List Kp}, SortK l → ∀ {x : Kp}, x ∈ l → kepO l x.Snap x.No = some x.Data
  | [], _, x, hx => by cases hx
  | y :: l, h, x, hx => by
    have h := List.pairwise_cons.1 h
    rw [kepO_cons]
    rcases List.mem_cons.1 hx with rfl | hx
    · rw [if_pos (show isK x.Snap x.No x = true from decide_eq_true ⟨rfl, rfl⟩)]
    · have h1 := h.1 x hx
      rw [if_neg (fun e => by have e := of_decide_eq_true e; unfold KLt at h1; omega), kepO_of h.2 hx]
theorem kepO_drop (hk : k < l.length) : kepO (l.drop k) s n = if isK s n l[k] then some l[k].Data else kepO (l.drop (k + 1)) s n := by
  rw [List.drop_eq_getElem_cons hk, kepO_cons]
theorem kepO_none (h : hasK l s n = false) : kepO l s n = none := by
  cases hg : kepO l s n with
  | none => rfl
  | some d =>
    obtain ⟨x, hx, h1, h2, _⟩ := kepO_mem hg
    have : hasK l s n = true := List.any_eq_true.2 ⟨x, hx, decide_eq_true ⟨h1, h2⟩⟩
    rw [h] at this; cases this
theorem kep_ext (hl : SortK l) (hm : SortK m) (h : ∀ s n, kepO l s n = kepO m s n) : l = m := by
  refine sorted_ext (lt := KLt) (fun h h2 => by unfold KLt at *; omega) hl hm fun x => ⟨fun hx => ?_, fun hx => ?_⟩
  · have := kepO_of hl hx
    rw [h] at this
    obtain ⟨y, hy, h1, h2, h3⟩ := kepO_mem this
    have : y = x := by rw [Kp.eq_iff]; exact ⟨⟨h1, h2⟩, h3⟩
    exact this ▸ hy
  · have := kepO_of hm hx
    rw [← h] at this
    obtain ⟨y, hy, h1, h2, h3⟩ := kepO_mem this
    have : y = x := by rw [Kp.eq_iff]; exact ⟨⟨h1, h2⟩, h3⟩
    exact this ▸ hy
def putK (l : List Kp) (s n : Int) (d : List UInt8) : List Kp := l.filter (ltK s n) ++ [⟨s, n, d⟩] ++ l.filter (gtK s n)
theorem putK_sort {d : List UInt8} (h : SortK l) : SortK (putK l s n d) := by
  refine List.pairwise_append.2 ⟨List.pairwise_append.2 ⟨h.sublist List.filter_sublist, List.pairwise_singleton _ _, fun x hx y hy => ?_⟩, h.sublist List.filter_sublist, fun x hx y hy => ?_⟩
  · obtain rfl : y = _ := by simpa using hy
    have := of_decide_eq_true (List.mem_filter.1 hx).2
    unfold KLt; exact this
  · have h3 := of_decide_eq_true (List.mem_filter.1 hy).2
    rcases List.mem_append.1 hx with hx | hx
    · have := of_decide_eq_true (List.mem_filter.1 hx).2; unfold KLt; omega
    · obtain rfl : x = _ := by simpa using hx
      unfold KLt; show s < y.Snap ∨ s = y.Snap ∧ n < y.No; omega
theorem putK_get {d : List UInt8} : kepO (putK l s n d) s' n' = if s' = s ∧ n' = n then some d else kepO l s' n' := by
  unfold putK
  rw [kepO_append, kepO_append, kepO_filter (q := decide (s' < s ∨ s' = s ∧ n' < n)) (fun x hx => by have hx := of_decide_eq_true hx; unfold ltK; rw [hx.1, hx.2]), kepO_filter (q := decide (s < s' ∨ s' = s ∧ n < n')) (fun x hx => by have hx := of_decide_eq_true hx; unfold gtK; rw [hx.1, hx.2])]
  have hmid : kepO [(⟨s, n, d⟩ : Kp)] s' n' = if s = s' ∧ n = n' then some d else none := by
    rw [kepO_cons]; unfold isK; by_cases h : s = s' ∧ n = n' <;> simp [h] <;> rfl
  rw [hmid]
  by_cases h1 : s' = s ∧ n' = n
  · obtain ⟨rfl, rfl⟩ := h1
    simp
  · rw [if_neg h1]
    have h1' : ¬ (s = s' ∧ n = n') := fun e => h1 ⟨e.1.symm, e.2.symm⟩
    by_cases h2 : s' < s ∨ s' = s ∧ n' < n
    · have h3 : ¬ (s < s' ∨ s' = s ∧ n < n') := by omega
      simp [h2, h3, h1']
    · have h3 : s < s' ∨ s' = s ∧ n < n' := by omega
      simp [h2, h3, h1']
theorem putK_each {d : List UInt8} (h : RightK l) (hn : 0 ≤ n ∧ n < 64) (hd : d.length = 4) : RightK (putK l s n d) := by
  refine ⟨putK_sort h.sort, fun x hx => ?_⟩
  rcases List.mem_append.1 hx with hx | hx
  · rcases List.mem_append.1 hx with hx | hx
    · exact h.each x (List.mem_filter.1 hx).1
    · obtain rfl : x = _ := by simpa using hx
      exact ⟨hn.1, hn.2, hd⟩
  · exact h.each x (List.mem_filter.1 hx).1
theorem putK_len {d : List UInt8} : (putK l s n d).length ≤ l.length + 1 := by
  have : (l.filter (ltK s n)).length + (l.filter (gtK s n)).length ≤ l.length := by
    induction l with
    | nil => simp
    | cons x l ih =>
      rw [List.filter_cons, List.filter_cons]
      by_cases h1 : ltK s n x = true
      · have h2 : gtK s n x = false := by unfold ltK gtK at *; simp only [decide_eq_true_eq] at h1; rw [decide_eq_false_iff_not]; omega
        rw [h1, h2]; simp; omega
      · rw [if_neg h1]; split <;> simp <;> omega
  unfold putK
  simp; omega
/-- the steps of Keep -/
theorem putK_set {d : List UInt8} (h : SortK l) (hh : hasK l s n = true) : putK l s n d = l.set (cntK l s n) ⟨s, n, d⟩ := by
  obtain ⟨hk, _⟩ := (hasK_iff h).1 hh
  have h2 := dropK_gt (s := s) (n := n) h
  rw [if_pos hh] at h2
  unfold putK
  rw [← (cntK_filter h).1, ← h2, List.set_eq_take_append_cons_drop, if_pos hk]
  simp
theorem putK_ins {d : List UInt8} (h : SortK l) (hh : hasK l s n = false) : putK l s n d = l.take (cntK l s n) ++ [⟨s, n, d⟩] ++ l.drop (cntK l s n) := by
  have h2 := dropK_gt (s := s) (n := n) h
  rw [if_neg (by rw [hh]; simp)] at h2
  unfold putK
  rw [← (cntK_filter h).1, ← h2]
/-- c blocks from a on are kept -/
def keepC (k : List Kp) (s : Int) (l : List Bl) (a : Nat) : Nat → List Kp
  | 0 => k
  | c + 1 => putK (keepC k s l a c) s ((a + c : Nat) : Int) (getB l ((a + c : Nat) : Int))
theorem keepC_get {kk : List Kp} {bl : List Bl} {a : Nat} : ∀ c, kepO (keepC kk s bl a c) s' n' = if s' = s ∧ (a : Int) ≤ n' ∧ n' < ((a + c : Nat) : Int) then some (getB bl n') else kepO kk s' n'
  | 0 => by rw [if_neg (by omega)]; rfl
  | c + 1 => by
    rw [keepC, putK_get, keepC_get c]
    by_cases h1 : s' = s ∧ n' = ((a + c : Nat) : Int)
    · rw [if_pos h1, if_pos (by omega), h1.2]
    · rw [if_neg h1]
      by_cases h2 : s' = s ∧ (a : Int) ≤ n' ∧ n' < ((a + c : Nat) : Int)
      · rw [if_pos h2, if_pos (by omega)]
      · rw [if_neg h2, if_neg (by omega)]
theorem keepC_right {kk : List Kp} {bl : List Bl} {a : Nat} (h : RightK kk) (hb : RightB bl) : ∀ c, a + c ≤ 64 ∨ c = 0 → RightK (keepC kk s bl a c)
  | 0, _ => h
  | c + 1, hc => putK_each (keepC_right h hb c (by omega)) (by omega) (getB_len hb)
theorem keepC_len {kk : List Kp} {bl : List Bl} {a : Nat} : ∀ c, (keepC kk s bl a c).length ≤ kk.length + c
  | 0 => Nat.le_refl _
  | c + 1 => by
    have := keepC_len (kk := kk) (bl := bl) (a := a) c
    have := putK_len (l := keepC kk s bl a c) (s := s) (n := ((a + c : Nat) : Int)) (d := getB bl ((a + c : Nat) : Int))
    rw [keepC]; omega
/-- what is kept of a snapshot with a span -/
abbrev keepN (lo hi : Int) : Nat × Nat := ((max 0 lo).toNat, (min hi 64 - max 0 lo).toNat)
abbrev keepK (kk : List Kp) (s lo hi : Int) (bl : List Bl) : List Kp := keepC kk s bl (keepN lo hi).1 (keepN lo hi).2
theorem keep_get {kk : List Kp} {lo hi : Int} {bl : List Bl} : kepO (keepK kk s lo hi bl) s' n' = if s' = s ∧ 0 ≤ n' ∧ n' < 64 ∧ inSp lo hi n' = true then some (getB bl n') else kepO kk s' n' := by
  rw [keepC_get]
  have hiff : (s' = s ∧ (((max 0 lo).toNat : Nat) : Int) ≤ n' ∧ n' < (((max 0 lo).toNat + (min hi 64 - max 0 lo).toNat : Nat) : Int)) ↔ (s' = s ∧ 0 ≤ n' ∧ n' < 64 ∧ inSp lo hi n' = true) := by
    unfold inSp
    rw [decide_eq_true_eq]
    omega
  by_cases h : s' = s ∧ 0 ≤ n' ∧ n' < 64 ∧ inSp lo hi n' = true
  · rw [if_pos h, if_pos (hiff.2 h)]
  · rw [if_neg h, if_neg (fun e => h (hiff.1 e))]
theorem keep_right {kk : List Kp} {lo hi : Int} {bl : List Bl} (h : RightK kk) (hb : RightB bl) : RightK (keepK kk s lo hi bl) := keepC_right h hb _ (by show (max 0 lo).toNat + (min hi 64 - max 0 lo).toNat ≤ 64 ∨ (min hi 64 - max 0 lo).toNat = 0; omega)
theorem keepN_le {lo hi : Int} : (keepN lo hi).2 ≤ 64 := by show (min hi 64 - max 0 lo).toNat ≤ 64; omega
theorem keep_len {kk : List Kp} {lo hi : Int} {bl : List Bl} : (keepK kk s lo hi bl).length ≤ kk.length + 64 := Nat.le_trans (keepC_len _) (Nat.add_le_add_left keepN_le _)
/-- the reference's list of one snapshot -/
def freshO (kk : List Kp) (s lo hi : Int) (bl : List Bl) (n : Int) : Option (List UInt8) := if inSp lo hi n then some (getB bl n) else kepO kk s n
def freshL (kk : List Kp) (s lo hi : Int) (bl : List Bl) (k : Nat) : List Kp := (List.range k).filterMap fun (n : Nat) => (freshO kk s lo hi bl (n : Int)).map fun d => ⟨s, (n : Int), d⟩
theorem freshL_succ {kk : List Kp} {lo hi : Int} {bl : List Bl} {k : Nat} : freshL kk s lo hi bl (k + 1) = freshL kk s lo hi bl k ++ ((freshO kk s lo hi bl (k : Int)).map fun d => (⟨s, (k : Int), d⟩ : Kp)).toList := by
  unfold freshL
  rw [List.range_succ, List.filterMap_append, List.filterMap_cons]
  cases freshO kk s lo hi bl (k : Int) <;> rfl
theorem freshL_mem {kk : List Kp} {lo hi : Int} {bl : List Bl} {k : Nat} : x ∈ freshL kk s lo hi bl k ↔ ∃ n : Nat, n < k ∧ x.Snap = s ∧ x.No = (n : Int) ∧ freshO kk s lo hi bl (n : Int) = some x.Data := by
  unfold freshL
  rw [List.mem_filterMap]
  constructor
  · rintro ⟨n, hn, h⟩
    rw [List.mem_range] at hn
    obtain ⟨d, hd, rfl⟩ := Option.map_eq_some_iff.1 h
    exact ⟨n, hn, rfl, rfl, hd⟩
  · rintro ⟨n, hn, h1, h2, h3⟩
    refine ⟨n, List.mem_range.2 hn, ?_⟩
    rw [h3]
    cases x
    subst h1 h2
    rfl
theorem freshL_sort {kk : List Kp} {lo hi : Int} {bl : List Bl} : ∀ k, SortK (freshL kk s lo hi bl k)
  | 0 => by show List.Pairwise _ (freshL kk s lo hi bl 0); exact List.Pairwise.nil
  | k + 1 => by
    rw [freshL_succ]
    refine List.pairwise_append.2 ⟨freshL_sort k, ?_, fun x hx y hy => ?_⟩
    · cases freshO kk s lo hi bl (k : Int) with
      | none => exact List.Pairwise.nil
      | some d => exact List.pairwise_singleton _ _
    · obtain ⟨n, hn, h1, h2, _⟩ := freshL_mem.1 hx
      rw [Option.mem_toList] at hy
      obtain ⟨d, _, rfl⟩ := Option.map_eq_some_iff.1 hy
      right
      exact ⟨h1, by rw [h2]; show (n : Int) < (k : Int); omega⟩
def refKeepL (kk : List Kp) (s lo hi : Int) (bl : List Bl) : List Kp := kk.filter (fun x => decide (x.Snap < s)) ++ freshL kk s lo hi bl 64 ++ kk.filter (fun x => decide (s < x.Snap))
theorem refKeep_eq {kk : List Kp} {lo hi : Int} {bl : List Bl} (h : RightK kk) (hb : RightB bl) : refKeepL kk s lo hi bl = keepK kk s lo hi bl := by
  have hsort : SortK (refKeepL kk s lo hi bl) := by
    refine List.pairwise_append.2 ⟨List.pairwise_append.2 ⟨h.sort.sublist List.filter_sublist, freshL_sort 64, fun x hx y hy => ?_⟩, h.sort.sublist List.filter_sublist, fun x hx y hy => ?_⟩
    · have h1 := of_decide_eq_true (List.mem_filter.1 hx).2
      obtain ⟨n, hn, h2, _⟩ := freshL_mem.1 hy
      left; omega
    · have h3 := of_decide_eq_true (List.mem_filter.1 hy).2
      left
      rcases List.mem_append.1 hx with hx | hx
      · have := of_decide_eq_true (List.mem_filter.1 hx).2; omega
      · obtain ⟨n, hn, h2, _⟩ := freshL_mem.1 hx; omega
  refine kep_ext hsort (keep_right h hb).sort fun s' n' => ?_
  rw [keep_get]
  unfold refKeepL
  rw [kepO_append, kepO_append, kepO_filter (q := decide (s' < s)) (fun x hx => by have hx := of_decide_eq_true hx; rw [hx.1]), kepO_filter (q := decide (s < s')) (fun x hx => by have hx := of_decide_eq_true hx; rw [hx.1])]
  have hfr : kepO (freshL kk s lo hi bl 64) s' n' = if s' = s ∧ 0 ≤ n' ∧ n' < 64 then freshO kk s lo hi bl n' else none := by
    cases hg : kepO (freshL kk s lo hi bl 64) s' n' with
    | some d =>
      obtain ⟨x, hx, h1, h2, h3⟩ := kepO_mem hg
      obtain ⟨n, hn, h4, h5, h6⟩ := freshL_mem.1 hx
      have hnn : n' = (n : Int) := by omega
      rw [if_pos ⟨by omega, by omega, by omega⟩, hnn, h6, h3]
    | none =>
      by_cases hc : s' = s ∧ 0 ≤ n' ∧ n' < 64
      · rw [if_pos hc]
        cases hf : freshO kk s lo hi bl n' with
        | none => rfl
        | some d =>
          have hx : (⟨s, n', d⟩ : Kp) ∈ freshL kk s lo hi bl 64 := freshL_mem.2 ⟨n'.toNat, by omega, rfl, by show n' = _; omega, by rw [show ((n'.toNat : Nat) : Int) = n' by omega]; exact hf⟩
          have := kepO_of (freshL_sort 64) hx
          rw [hc.1] at hg
          rw [hg] at this; cases this
      · rw [if_neg hc]
  rw [hfr]
  by_cases hs : s' = s
  · subst hs
    by_cases hn : 0 ≤ n' ∧ n' < 64
    · unfold freshO
      by_cases hi' : inSp lo hi n' = true
      · simp [hn, hi']
      · simp [hn, hi']
    · have hk : kepO kk s' n' = none := by
        cases hg : kepO kk s' n' with
        | none => rfl
        | some d => obtain ⟨x, hx, _, h2, _⟩ := kepO_mem hg; have := h.each x hx; omega
      have hn1 : ¬ (s' = s' ∧ 0 ≤ n' ∧ n' < 64) := fun e => hn e.2
      have hn2 : ¬ (s' = s' ∧ 0 ≤ n' ∧ n' < 64 ∧ inSp lo hi n' = true) := fun e => hn ⟨e.2.1, e.2.2.1⟩
      rw [if_neg hn1, if_neg hn2, hk]
      simp
  · have hn1 : ¬ (s' = s ∧ 0 ≤ n' ∧ n' < 64) := fun e => hs e.1
    have hn2 : ¬ (s' = s ∧ 0 ≤ n' ∧ n' < 64 ∧ inSp lo hi n' = true) := fun e => hs e.1
    rw [if_neg hn1, if_neg hn2]
    by_cases hlt : s' < s
    · have : ¬ s < s' := by omega
      simp [hlt, this]
    · have : s < s' := by omega
      simp [hlt, this]
end
end Go.Proofs.Ytcaimmbhdfoniaa
