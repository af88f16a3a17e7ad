/- Sessions, as plain data; rows of sessions with their bytes. -/
import Derived.Test.YtpimnlgfhpnjnaaFlat
import Derived.Test.YtpimnlgfhpnjnaaOpen
namespace Go.Proofs.Ytpimnlgfhpnjnaa.Se
open Go Go.RowKit Kf

/-! ### Lists that are searched, set and inserted into -/
section lists
variable {α : Type} {p q : α → Bool} {l L : List α} {a : α} {k : Nat} {has lb : Bool}
def setL (p : α → Bool) (a : α) : List α → List α
  | [] => []
  | x :: l => if p x then a :: l else x :: setL p a l
def insL (q : α → Bool) (a : α) : List α → List α
  | [] => [a]
  | x :: l => if q x then a :: x :: l else x :: insL q a l
theorem setL_at (hk : k < l.length) (h : p l[k] = true) (hn : ∀ j (hj : j < l.length), j < k → p l[j] = false) : setL p a l = l.set k a := by
  induction l generalizing k with
  | nil => simp at hk
  | cons x l ih =>
    unfold setL
    cases k with
    | zero => rw [if_pos (show p x = true from h)]; rfl
    | succ k =>
      have h0 := hn 0 (by simp) (by omega)
      simp only [List.getElem_cons_zero] at h0
      rw [h0]
      simp only [List.length_cons] at hk
      simp only [List.set_cons_succ, Bool.false_eq_true, if_false]
      rw [ih (k := k) (by omega) (by simpa using h) (fun j hj hjk => by have := hn (j + 1) (by simpa using hj) (by omega); simpa using this)]
theorem insL_at (hk : k < l.length) (h : q l[k] = true) (hn : ∀ j (hj : j < l.length), j < k → q l[j] = false) : insL q a l = l.take k ++ [a] ++ l.drop k := by
  induction l generalizing k with
  | nil => simp at hk
  | cons x l ih =>
    unfold insL
    cases k with
    | zero => rw [if_pos (show q x = true from h)]; rfl
    | succ k =>
      have h0 := hn 0 (by simp) (by omega)
      simp only [List.getElem_cons_zero] at h0
      rw [h0]
      simp only [List.length_cons] at hk
      simp only [Bool.false_eq_true, if_false, List.take_succ_cons, List.drop_succ_cons, List.cons_append]
      rw [ih (k := k) (by omega) (by simpa using h) (fun j hj hjk => by have := hn (j + 1) (by simpa using hj) (by omega); simpa using this)]
theorem insL_end (hn : ∀ j (hj : j < l.length), q l[j] = false) : insL q a l = l ++ [a] := by
  induction l with
  | nil => rfl
  | cons x l ih =>
    unfold insL
    have h0 := hn 0 (by simp)
    simp only [List.getElem_cons_zero] at h0
    rw [h0]
    simp only [Bool.false_eq_true, if_false, List.cons_append]
    rw [ih fun j hj => by have := hn (j + 1) (by simpa using hj); simpa using this]
/-- laid in its place: over the one that is p, or ahead of the first that is q -/
def layL (p q : α → Bool) (has : Bool) (a : α) : List α → List α
  | [] => bif has then [] else [a]
  | x :: l => bif has then (if p x then a :: l else x :: layL p q has a l) else (if q x then a :: x :: l else x :: layL p q has a l)
theorem layL_set : layL p q true a l = setL p a l := by
  induction l with
  | nil => rfl
  | cons x l ih => unfold layL setL; rw [ih]; rfl
theorem layL_ins : layL p q false a l = insL q a l := by
  induction l with
  | nil => rfl
  | cons x l ih => unfold layL insL; rw [ih]; rfl
/-- what is still to come, when it was laid or not -/
def tailL (p q : α → Bool) (has lb : Bool) (a : α) (r : List α) : List α := bif lb then r else layL p q has a r
theorem tailL_p (hk : k < l.length) (h1 : has = true) (h2 : lb = false) (h3 : p l[k] = true) (he : layL p q has a l = L ++ tailL p q has lb a (l.drop k)) : layL p q has a l = (L ++ [a]) ++ tailL p q has true a (l.drop (k + 1)) := by
  subst h1 h2
  rw [he, List.drop_eq_getElem_cons hk]
  simp [tailL, layL, h3]
theorem tailL_q (hk : k < l.length) (h1 : has = false) (h2 : lb = false) (h3 : q l[k] = true) (he : layL p q has a l = L ++ tailL p q has lb a (l.drop k)) : layL p q has a l = (L ++ [a] ++ [l[k]]) ++ tailL p q has true a (l.drop (k + 1)) := by
  subst h1 h2
  rw [he, List.drop_eq_getElem_cons hk]
  simp [tailL, layL, h3]
theorem tailL_go (hk : k < l.length) (h : lb = true ∨ has = true ∧ p l[k] = false ∨ has = false ∧ q l[k] = false) (he : layL p q has a l = L ++ tailL p q has lb a (l.drop k)) : layL p q has a l = (L ++ [l[k]]) ++ tailL p q has lb a (l.drop (k + 1)) := by
  rw [he, List.drop_eq_getElem_cons hk]
  rcases h with h | ⟨h1, h2⟩ | ⟨h1, h2⟩
  · subst h; simp [tailL]
  · subst h1; cases lb <;> simp [tailL, layL, h2]
  · subst h1; cases lb <;> simp [tailL, layL, h2]
theorem tailL_end (hk : l.length ≤ k) (hl : lb = false → has = false) (he : layL p q has a l = L ++ tailL p q has lb a (l.drop k)) : layL p q has a l = bif lb then L else L ++ [a] := by
  rw [he, List.drop_of_length_le hk]
  cases lb
  · rw [hl rfl]; rfl
  · simp [tailL]
end lists

theorem own_one {w : World} {B sz n : Nat} {e : TypeId} {v : Value} {xs : List Value} (h : w.ownsRow B e sz v n xs) : v.oneCell' = true := by
  rcases h.2 with ⟨rfl, _⟩ | ⟨g, cap, cur, rfl, _⟩ <;> rfl
structure Ses where
  Client : Int
  Seq : Int
  Code : Int
  Data : List UInt8
theorem Ses.eq_iff {a b : Ses} : a = b ↔ ((a.Client = b.Client ∧ a.Seq = b.Seq) ∧ a.Code = b.Code) ∧ a.Data = b.Data := by cases a; cases b; simp [and_assoc]
instance : DecidableEq Ses := fun _ _ => decidable_of_iff _ Ses.eq_iff.symm
instance : Inhabited Ses := ⟨⟨0, 0, 0, []⟩⟩
/-- a session and the row of its bytes -/
abbrev SV : Type := Ses × Value
abbrev SV.c (e : SV) : List Value := [i64 e.1.Client, i64 e.1.Seq, i64 e.1.Code, e.2]
theorem SV.c_len (e : SV) : SV.c e = [i64 e.1.Client, i64 e.1.Seq, i64 e.1.Code, e.2] ∧ (SV.c e).length = 4 := ⟨rfl, rfl⟩
abbrev SRow (w : World) (v : Value) (E : List SV) : Prop := Row w v E.length 4 (E.flatMap SV.c)
def SDat (w : World) (E : List SV) : Prop := ∀ e ∈ E, Bytes w e.2 e.1.Data
/-- sessions that may be read -/
def Sess (w : World) (v : Value) (l : List Ses) : Prop := ∃ E : List SV, E.map Prod.fst = l ∧ SRow w v E ∧ SDat w E
theorem SRow.el {E : List SV} {k : Nat} (hk : k < E.length) : ((E.flatMap SV.c).drop (k * 4)).take 4 = SV.c E[k] := flat_el (fun e => (SV.c_len e).2) hk
theorem SRow.get {E : List SV} {k : Nat} (hk : k < E.length) {off : Nat} (ho : off < 4) : (E.flatMap SV.c)[k * 4 + off]? = (SV.c E[k])[off]? := flat_get (fun e => (SV.c_len e).2) hk ho
theorem SDat.ext {w w' : World} {E : List SV} (h : SDat w E) (g : Ext w w') : SDat w' E := fun e he => Row.ext (h e he) g
theorem Sess.ext {w w' : World} {v : Value} {l : List Ses} (h : Sess w v l) (g : Ext w w') : Sess w' v l := by
  obtain ⟨E, h1, h2, h3⟩ := h; exact ⟨E, h1, Row.ext h2 g, h3.ext g⟩
theorem SDat.one {w : World} {E : List SV} (h : SDat w E) : ∀ u ∈ E.flatMap SV.c, u.oneCell' = true := by
  intro u hu
  obtain ⟨e, he, hu⟩ := List.mem_flatMap.1 hu
  simp only [SV.c, List.mem_cons, List.not_mem_nil, or_false] at hu
  rcases hu with rfl | rfl | rfl | rfl
  · rfl
  · rfl
  · rfl
  · exact Row.one (h e he)
theorem SV.c_one {w : World} {e : SV} {l : List UInt8} (h : Bytes w e.2 l) : ∀ u ∈ SV.c e, u.oneCell' = true := by
  intro u hu
  simp only [SV.c, List.mem_cons, List.not_mem_nil, or_false] at hu
  rcases hu with rfl | rfl | rfl | rfl
  · rfl
  · rfl
  · rfl
  · exact Row.one h
/-- sessions in memory of their own: each row in a block of its own -/
structure SOwn (w : World) (B : Nat) (v : Value) (E : List SV) : Prop where
  row : w.ownsRow B 55 4 v E.length (E.flatMap SV.c)
  data : ∀ e ∈ E, OwnB w B 5 e.2 e.1.Data
  off : ∀ e ∈ E, Apart e.2 v
  pair : E.Pairwise fun a b => Apart a.2 b.2
section sown
variable {w w' w1 w2 : World} {B B' : Nat} {v v' : Value} {E : List SV} {e : SV}
theorem SOwn.ext (h : SOwn w B v E) (g : Ext w w') : SOwn w' B v E := ⟨own_ext h.row g, fun e he => own_ext (h.data e he) g, h.off, h.pair⟩
theorem SOwn.mono (h : SOwn w B v E) (g : B' ≤ B) : SOwn w B' v E := ⟨own_mono h.row g, fun e he => own_mono (h.data e he) g, h.off, h.pair⟩
theorem SOwn.srow (h : SOwn w B v E) : SRow w v E := Row.of_own h.row
theorem SOwn.sdat (h : SOwn w B v E) : SDat w E := fun e he => Bytes.of_own (h.data e he)
theorem SOwn.sess (h : SOwn w B v E) : Sess w v (E.map Prod.fst) := ⟨E, rfl, h.srow, h.sdat⟩
theorem SOwn.nil (w : World) (B : Nat) : SOwn w B (.slice none 0 0) [] := ⟨World.ownsRow_nil w B 55 4, (fun e he => by cases he), (fun e he => by cases he), List.Pairwise.nil⟩
theorem apart_own {u v : Value} (h : Apart u v) : u.ownBlock = none ∨ u.ownBlock ≠ v.ownBlock := h.ne
theorem pw_lay {α : Type} {R : α → α → Prop} (hs : ∀ {a b}, R a b → R b a) {E : List α} {a : α} {i j : Nat} (hE : E.Pairwise R) (ha : ∀ e ∈ E, R e a) (hij : i ≤ j) : (E.take i ++ [a] ++ E.drop j).Pairwise R := by
  have hsub : (E.drop j).Sublist (E.drop i) := by rw [show j = i + (j - i) by omega, ← List.drop_drop]; exact List.drop_sublist _ _
  have h0 : (E.take i ++ E.drop i).Pairwise R := by rw [List.take_append_drop]; exact hE
  have h1 := h0.sublist ((List.Sublist.refl (E.take i)).append hsub)
  rw [List.pairwise_append] at h1
  rw [List.pairwise_append, List.pairwise_append]
  refine ⟨⟨h1.1, List.pairwise_singleton _ _, fun x hx y hy => ?_⟩, h1.2.1, fun x hx y hy => ?_⟩
  · rw [List.mem_singleton] at hy; subst hy; exact ha x (List.mem_of_mem_take hx)
  · rcases List.mem_append.1 hx with hx | hx
    · exact h1.2.2 x hx y hy
    · rw [List.mem_singleton] at hx; subst hx; exact hs (ha y (List.mem_of_mem_drop hy))
/-- a session laid in between, its bytes in newer memory -/
theorem SOwn.lay {s : Ses} {dv : Value} {i j : Nat} {F : List SV} (h : SOwn w B v E) (hd : OwnB w1 w.heap.size 5 dv s.Data) (g1 : Ext w w1) (g2 : Ext w1 w2) (hij : i ≤ j) (hF : F = E.take i ++ [(s, dv)] ++ E.drop j)
    (hr : w'.ownsRow B 55 4 v' F.length (F.flatMap SV.c)) (k : w2.grownBy w' v.ownBlock) (hm : Moved w2 v v') (hB : B ≤ w.heap.size) : SOwn w' B v' F := by
  have hz := World.grownBy.size g1
  have hz2 := World.grownBy.size g2
  have hdv : Apart dv v := fun b h1 h2 => by have := (hd.lt b h1).1; have := (h.row.lt b h2).2; omega
  have hin : ∀ e ∈ F, e ∈ E ∨ e = (s, dv) := fun e he => by
    rw [hF] at he
    rcases List.mem_append.1 he with he | he
    · rcases List.mem_append.1 he with he | he
      · exact .inl (List.mem_of_mem_take he)
      · rw [List.mem_singleton] at he; exact .inr he
    · exact .inl (List.mem_of_mem_drop he)
  refine ⟨hr, fun e he => ?_, fun e he => ?_, ?_⟩
  · rcases hin e he with he | he
    · exact (own_ext (own_ext (h.data e he) g1) g2).kept k (h.off e he).ne
    · subst he; exact own_mono ((own_ext hd g2).kept k hdv.ne) hB
  · rcases hin e he with he | he
    · exact Apart.moved (h.off e he) (own_ext (own_ext (h.data e he) g1) g2) hm
    · subst he; exact Apart.moved hdv (own_ext hd g2) hm
  · rw [hF]
    refine pw_lay (fun h => h.symm) h.pair (fun e he b h1 h2 => ?_) hij
    have := ((h.data e he).lt b h1).2
    have := (hd.lt b h2).1
    omega
theorem SOwn.app {s : Ses} {dv : Value} (h : SOwn w B v E) (hd : OwnB w1 w.heap.size 5 dv s.Data) (g1 : Ext w w1) (g2 : Ext w1 w2)
    (hr : w'.ownsRow B 55 4 v' (E.length + 1) (E.flatMap SV.c ++ SV.c (s, dv))) (k : w2.grownBy w' v.ownBlock) (hm : Moved w2 v v') (hB : B ≤ w.heap.size) : SOwn w' B v' (E ++ [(s, dv)]) :=
  h.lay hd g1 g2 (Nat.le_refl E.length) (by simp) (by simpa [List.flatMap_append] using hr) k hm hB
theorem SOwn.set {s : Ses} {dv : Value} {k : Nat} (h : SOwn w B v E) (hd : OwnB w1 w.heap.size 5 dv s.Data) (g1 : Ext w w1) (g2 : Ext w1 w2) (hk : k < E.length)
    (hr : w'.ownsRow B 55 4 v E.length ((E.flatMap SV.c).take (k * 4) ++ SV.c (s, dv) ++ (E.flatMap SV.c).drop (k * 4 + 4))) (g : w2.grownBy w' v.ownBlock) (hB : B ≤ w.heap.size) : SOwn w' B v (E.set k (s, dv)) :=
  h.lay hd g1 g2 (Nat.le_succ k) (by rw [List.set_eq_take_append_cons_drop, if_pos hk]; simp) (by rw [List.length_set, ← flat_set (fun e => (SV.c_len e).2) hk]; exact hr) g (.inl rfl) hB
theorem SOwn.ins {s : Ses} {dv : Value} {i : Nat} (h : SOwn w B v E) (hd : OwnB w1 w.heap.size 5 dv s.Data) (g1 : Ext w w1) (g2 : Ext w1 w2) (hi : i ≤ E.length)
    (hr : w'.ownsRow B 55 4 v' (E.length + 1) ((E.flatMap SV.c).take (i * 4) ++ SV.c (s, dv) ++ (E.flatMap SV.c).drop (i * 4))) (g : w2.grownBy w' v.ownBlock) (hm : Moved w2 v v') (hB : B ≤ w.heap.size) : SOwn w' B v' (E.take i ++ [(s, dv)] ++ E.drop i) :=
  h.lay hd g1 g2 (Nat.le_refl i) rfl (by
    rw [flat_take (fun e => (SV.c_len e).2), flat_drop (fun e => (SV.c_len e).2)] at hr
    rw [show (E.take i ++ [(s, dv)] ++ E.drop i).length = E.length + 1 by simp; omega]
    simpa [List.flatMap_append] using hr) g hm hB

/-! ### Writes within blocks [B, T) alone -/
structure Chg (B T : Nat) (w w' : World) : Prop where
  os : w'.os = w.os
  tape : w'.tape = w.tape
  output : w'.output = w.output
  size : w.heap.size ≤ w'.heap.size
  block : ∀ i, i < w.heap.size → i < B ∨ T ≤ i → w'.heap[i]? = w.heap[i]?
theorem Chg.refl (B T : Nat) (w : World) : Chg B T w w := ⟨rfl, rfl, rfl, Nat.le_refl _, fun _ _ _ => rfl⟩
theorem Chg.trans {a b c : World} {B T : Nat} (h : Chg B T a b) (k : Chg B T b c) : Chg B T a c :=
  ⟨k.os.trans h.os, k.tape.trans h.tape, k.output.trans h.output, Nat.le_trans h.size k.size, fun i hi hn => (k.block i (Nat.lt_of_lt_of_le hi h.size) hn).trans (h.block i hi hn)⟩
theorem Chg.of {a b : World} {B T : Nat} {row : Option Nat} (k : a.grownBy b row) (h : ∀ g, row = some g → B ≤ g ∧ g < T) : Chg B T a b :=
  ⟨k.os, k.tape, k.output, k.size, fun i hi hn => k.block i hi (fun e => by have := h i e.symm; omega)⟩
theorem Chg.ext {a b c : World} {B T : Nat} (h : Ext a b) (k : Chg B T b c) (hB : a.heap.size ≤ B) : Ext a c :=
  ⟨k.os.trans h.os, k.tape.trans h.tape, k.output.trans h.output, Nat.le_trans h.size k.size, fun i hi _ => (k.block i (Nat.lt_of_lt_of_le hi h.size) (.inl (by omega))).trans (h.block i hi (by simp))⟩
theorem own_chg {B1 B T n sz : Nat} {e : TypeId} {xs : List Value} (h : w.ownsRow B1 e sz v n xs) (k : Chg B T w w') (hne : ∀ b, v.ownBlock = some b → b < B ∨ T ≤ b) : w'.ownsRow B1 e sz v n xs := by
  refine ⟨h.1, ?_⟩
  rcases h.2 with hn | ⟨g, cap, cur, rfl, hb, hgg, rest⟩
  · exact .inl hn
  · have hlt := (h.lt g rfl).2
    exact .inr ⟨g, cap, cur, rfl, hb, (k.block g hlt (hne g rfl)).trans hgg, rest⟩
/-- all of it below T -/
def SOwn.below (T : Nat) (v : Value) (E : List SV) : Prop := (∀ b, v.ownBlock = some b → b < T) ∧ ∀ e ∈ E, ∀ b, e.2.ownBlock = some b → b < T
theorem SOwn.under (h : SOwn w B v E) : SOwn.below w.heap.size v E := ⟨fun b hb => (h.row.lt b hb).2, fun e he b hb => ((h.data e he).lt b hb).2⟩
theorem SOwn.chg {B1 T1 : Nat} (h : SOwn w B v E) (k : Chg B1 T1 w w') (hne : T1 ≤ B ∨ ∃ T, SOwn.below T v E ∧ T ≤ B1) : SOwn w' B v E := by
  refine ⟨own_chg h.row k fun b hb => ?_, fun e he => own_chg (h.data e he) k fun b hb => ?_, h.off, h.pair⟩
  · rcases hne with hne | ⟨T, hT, hle⟩
    · have := (h.row.lt b hb).1; omega
    · have := hT.1 b hb; omega
  · rcases hne with hne | ⟨T, hT, hle⟩
    · have := ((h.data e he).lt b hb).1; omega
    · have := hT.2 e he b hb; omega
theorem pw_set {α : Type} {R : α → α → Prop} {E : List α} {k : Nat} {a : α} (hk : k < E.length) (h : E.Pairwise R) (h1 : ∀ x, R x E[k] → R x a) (h2 : ∀ x, R E[k] x → R a x) : (E.set k a).Pairwise R := by
  rw [List.pairwise_iff_getElem] at h ⊢
  intro i j hi hj hij
  simp only [List.length_set] at hi hj
  rw [List.getElem_set, List.getElem_set]
  have := h i j hi hj hij
  split
  · rename_i e; subst e
    rw [if_neg (by omega)]; exact h2 _ this
  · split
    · rename_i e; subst e; exact h1 _ this
    · exact this
theorem mem_set {α : Type} {E : List α} {k : Nat} {a x : α} (h : x ∈ E.set k a) : x = a ∨ ∃ j, ∃ hj : j < E.length, j ≠ k ∧ x = E[j] := by
  obtain ⟨j, hj, rfl⟩ := List.getElem_of_mem h
  simp only [List.length_set] at hj
  rw [List.getElem_set]
  split
  · exact .inl rfl
  · rename_i e; exact .inr ⟨j, hj, fun h => e h.symm, rfl⟩
theorem pw_ne {E : List SV} (h : E.Pairwise fun a b => Apart a.2 b.2) {j k : Nat} (hj : j < E.length) (hk : k < E.length) (hne : j ≠ k) : Apart E[j].2 E[k].2 := by
  rw [List.pairwise_iff_getElem] at h
  rcases Nat.lt_or_gt_of_ne hne with h1 | h1
  · exact h j k hj hk h1
  · exact (h k j hk hj h1).symm
/-- a session's bytes are written over -/
theorem SOwn.spoil {k : Nat} {l : List UInt8} (h : SOwn w B v E) (hk : k < E.length) (ho : OwnB w' B 5 E[k].2 l) (g : w.grownBy w' E[k].2.ownBlock) : SOwn w' B v (E.set k ({ E[k].1 with Data := l }, E[k].2)) := by
  refine ⟨?_, fun e he => ?_, fun e he => ?_, pw_set hk h.pair (fun x h => h) (fun x h => h)⟩
  · rw [List.length_set, ← flat_set (fun e => (SV.c_len e).2) hk]
    have hc : SV.c ({ E[k].1 with Data := l }, E[k].2) = SV.c E[k] := rfl
    rw [hc, flat_set (fun e => (SV.c_len e).2) hk]
    have : E.set k E[k] = E := by simp
    rw [this]
    exact h.row.kept g (h.off _ (List.getElem_mem hk)).symm.ne
  · rcases mem_set he with rfl | ⟨j, hj, hne, rfl⟩
    · exact ho
    · exact (h.data _ (List.getElem_mem hj)).kept g (pw_ne h.pair hj hk hne).ne
  · rcases mem_set he with rfl | ⟨j, hj, hne, rfl⟩
    · exact h.off E[k] (List.getElem_mem hk)
    · exact h.off _ (List.getElem_mem hj)
/-- a session is written over -/
theorem SOwn.blank {k : Nat} {x y z : Int} (h : SOwn w B v E) (hk : k < E.length) (hr : w'.ownsRow B 55 4 v E.length ((E.flatMap SV.c).take (k * 4) ++ [i64 x, i64 y, i64 z, .slice none 0 0] ++ (E.flatMap SV.c).drop (k * 4 + 4))) (g : w.grownBy w' v.ownBlock) : SOwn w' B v (E.set k (⟨x, y, z, []⟩, .slice none 0 0)) := by
  refine ⟨by rw [List.length_set, ← flat_set (fun e => (SV.c_len e).2) hk]; exact hr, fun e he => ?_, fun e he => ?_, pw_set hk h.pair (fun x _ b _ hb => by cases hb) (fun x _ b hb => by cases hb)⟩
  · rcases mem_set he with rfl | ⟨j, hj, hne, rfl⟩
    · exact World.ownsRow_nil _ _ _ _
    · exact (h.data _ (List.getElem_mem hj)).kept g (h.off _ (List.getElem_mem hj)).ne
  · rcases mem_set he with rfl | ⟨j, hj, hne, rfl⟩
    · intro b hb; cases hb
    · exact h.off _ (List.getElem_mem hj)
theorem SOwn.below_set {T k : Nat} {e : SV} (h : SOwn.below T v E) (he : ∀ b, e.2.ownBlock = some b → b < T) : SOwn.below T v (E.set k e) := by
  refine ⟨h.1, fun x hx => ?_⟩
  rcases mem_set hx with rfl | ⟨j, hj, _, rfl⟩
  · exact he
  · exact h.2 _ (List.getElem_mem hj)
end sown
end Go.Proofs.Ytpimnlgfhpnjnaa.Se
