/- Maps and moves, as plain data; what is asked and done of them. -/
import Derived.Test.YtpimnlgfhpnjnaaRg
import Derived.Test.YtpimnlgfhpnjnaaChg
import Derived.Test.YtpimnlgfhpnjnaaOpen
import Derived.Test.YtpimnlgfhpnjnaaIn
namespace Go.Proofs.Ytpimnlgfhpnjnaa
open Go Go.RowKit Kf
def cmpI (x y : Int) : Int := if x < y then -1 else if y < x then 1 else 0

structure Mv where
  Epoch : Int
  From : Int
  To : Int
  Lo : Int
  Hi : Int
abbrev Mv.ints (a : Mv) : List Int := [a.Epoch, a.From, a.To, a.Lo, a.Hi]
abbrev Mv.c (a : Mv) : List Go.Value := [i64 a.Epoch, i64 a.From, i64 a.To, i64 a.Lo, i64 a.Hi]
abbrev Mv.zero : Mv := ⟨0, 0, 0, 0, 0⟩
theorem Mv.c_len (a : Mv) : a.c.length = 5 := rfl
theorem Mv.c_one (a : Mv) : ∀ u ∈ a.c, u.oneCell' = true := by simp [Mv.c, Go.Value.oneCell']
theorem Mv.eq_iff {a b : Mv} : a = b ↔ a.ints = b.ints := by cases a; cases b; simp [Mv.ints]
instance : DecidableEq Mv := fun _ _ => decidable_of_iff _ Mv.eq_iff.symm
instance : Inhabited Mv := ⟨Mv.zero⟩
theorem Mv.eqB (a b : Mv) : ([0, 1, 2, 3, 4].all fun i => a.ints.getD i 0 == b.ints.getD i 0) = decide (a = b) := by
  rw [show [0, 1, 2, 3, 4] = List.range 5 from rfl, all_eq (n := 5) (na := a.ints) (nb := b.ints) rfl rfl]
  exact decide_eq_decide.2 Mv.eq_iff.symm
structure Mp where
  R : List Rg
  E : Int
  M : Mv
abbrev Mp.c (m : Mp) (v : Go.Value) : List Go.Value := [v, i64 m.E, i64 m.M.Epoch, i64 m.M.From, i64 m.M.To, i64 m.M.Lo, i64 m.M.Hi]
abbrev Mp.zero : Mp := ⟨[], 0, Mv.zero⟩
theorem Mp.eq_iff {a b : Mp} : a = b ↔ a.R = b.R ∧ a.E = b.E ∧ a.M = b.M := by cases a; cases b; simp
instance : DecidableEq Mp := fun _ _ => decidable_of_iff _ Mp.eq_iff.symm
abbrev nilS : Value := .slice none 0 0
theorem rgs_v1 {w : World} {v : Value} {l : List Rg} (h : Rgs w v l) : v.oneCell' = true := Row.one h
theorem Mp.c_one {w : World} {v : Value} {l : List Rg} (h : Rgs w v l) (m : Mp) : ∀ u ∈ m.c v, u.oneCell' = true := by
  have := rgs_v1 h
  intro u hu
  simp only [List.mem_cons, List.not_mem_nil, or_false] at hu
  rcases hu with rfl | rfl | rfl | rfl | rfl | rfl | rfl <;> first | rfl | exact this
theorem Rgs.nil (w : World) : Rgs w nilS [] := Row.nil w 4
/-! ### Which range -/
def findM (l : List Rg) (n : Int) : Option Rg := l.find? fun r => decide (r.Lo ≤ n) && decide (n < r.Hi)
def ofG (l : List Rg) (g : Int) : Option Rg := l.find? fun r => decide (r.Group = g)
abbrev Rg.zero : Rg := ⟨0, 0, 0, 0⟩
theorem find_at {α : Type} {p : α → Bool} {l : List α} {k : Nat} (hk : k < l.length) (h : p l[k] = true) (hn : ∀ j (hj : j < l.length), j < k → p l[j] = false) : l.find? p = some l[k] := by
  induction l generalizing k with
  | nil => simp at hk
  | cons a l ih =>
    cases k with
    | zero => exact List.find?_cons_of_pos h
    | succ k =>
      have h0 := hn 0 (by simp) (by omega)
      rw [List.find?_cons_of_neg (by simpa using h0)]
      exact ih (by simpa using hk) (by simpa using h) (fun j hj hjk => by have := hn (j + 1) (by simpa using hj) (by omega); simpa using this)
theorem find_no {α : Type} {p : α → Bool} {l : List α} (hn : ∀ j (hj : j < l.length), p l[j] = false) : l.find? p = none := by
  rw [List.find?_eq_none]
  intro x hx
  obtain ⟨k, hk, rfl⟩ := List.getElem_of_mem hx
  rw [hn k hk]; simp
/-! ### Planning -/
def orderB (l : List Rg) (x : Mv) : Bool := match ofG l x.To with
  | none => false
  | some t => decide (t.Hi ≠ x.Lo) && decide (t.Lo ≠ x.Hi)
def badR (f : Rg) (x : Mv) : Bool := decide (x.Hi ≤ x.Lo) || (decide (x.Lo < f.Lo) || (decide (f.Hi < x.Hi) || (decide (f.Lo < x.Lo) && decide (x.Hi < f.Hi))))
def badG (x : Mv) : Bool := decide (x.To < 1) || (decide (4 < x.To) || decide (x.To = x.From))
def planned (m : Mp) (x : Mv) : Int :=
  if 0 < m.M.Epoch then 11 else match ofG m.R x.From with
  | none => 6
  | some f => if badR f x then 3 else if badG x then 27 else if orderB m.R x then 15 else if 1099511627776 ≤ m.E then 17 else 0
def planM (m : Mp) (x : Mv) : Mp × Int := if planned m x ≠ 0 then (Mp.zero, planned m x) else (⟨m.R, m.E + 1, { x with Epoch := m.E + 1 }⟩, 0)
/-! ### What a map may be -/
def prevHi (l : List Rg) (k : Nat) : Int := if k = 0 then 0 else (l.getD (k - 1) Rg.zero).Hi
def goodB (l : List Rg) (least : Int) (k : Nat) : Bool :=
  let r := l.getD k Rg.zero
  decide (r.Lo = prevHi l k) && (decide (r.Lo < r.Hi) && (decide (r.Hi ≤ 64) && (decide (1 ≤ r.Group) && (decide (r.Group ≤ 4) && ((l.take k).all (fun q => decide (q.Group ≠ r.Group)) && (decide (1 ≤ r.Epoch) && decide (r.Epoch ≤ least)))))))
def okB (l : List Rg) (least : Int) (n : Nat) : Bool := (List.range n).all (goodB l least)
def leastE (m : Mp) : Int := if m.M = Mv.zero then m.E else IntKind.i64.wrap (m.E - 1)
def checkB (m : Mp) : Bool := okB m.R (leastE m) m.R.length && (decide (prevHi m.R m.R.length = 64) && (decide (m.E ≤ 1099511627776) && (decide (m.M = Mv.zero) || (decide (planned ⟨m.R, leastE m, Mv.zero⟩ m.M = 0) && decide ({ m.M with Epoch := leastE m + 1 } = m.M)))))
def codeOf (b : Bool) : Int := if b then 0 else 4
/-! ### Done -/
def toR (x : Mv) (e : Int) : Rg := ⟨x.Lo, x.Hi, x.To, e⟩
def cutR (x : Mv) (e : Int) (r : Rg) : Rg := if r.Lo = x.Lo then ⟨x.Hi, r.Hi, r.Group, e⟩ else ⟨r.Lo, x.Lo, r.Group, e⟩
def done1 (x : Mv) (e : Int) (s : List Rg × Rg) (r : Rg) : List Rg × Rg :=
  if r.Group = x.From then (if (cutR x e r).Lo < (cutR x e r).Hi then (s.1 ++ [cutR x e r], s.2) else s)
  else if r.Group = x.To then (s.1, ⟨min s.2.Lo r.Lo, max s.2.Hi r.Hi, s.2.Group, s.2.Epoch⟩)
  else (s.1 ++ [r], s.2)
def doneU (l : List Rg) (x : Mv) (e : Int) : List Rg := let s := l.foldl (done1 x e) ([], toR x e); s.1 ++ [s.2]
/-- the code's list behind a move that is done -/
def DoneL (l : List Rg) (x : Mv) (e : Int) (L : List Rg) : Prop := L.Perm (doneU l x e) ∧ L.Pairwise fun a b => a.Lo ≤ b.Lo
def doneNo (m : Mp) (e : Int) : Bool := decide (m.M.Epoch < 1) || decide (m.M.Epoch ≠ e)
/-- the document's -/
def newR (l : List Rg) (x : Mv) (e : Int) (n : Int) : Rg :=
  let r := (findM l n).getD Rg.zero
  let r := if x.Lo ≤ n ∧ n < x.Hi then { r with Group := x.To } else r
  if r.Group = x.From ∨ r.Group = x.To then { r with Epoch := e } else r
def run1 (f : Int → Rg) (L : List Rg) (n : Nat) : List Rg :=
  match L.getLast? with
  | some last => if last.Group = (f n).Group then L.dropLast ++ [{ last with Hi := (n : Int) + 1 }] else L ++ [⟨n, (n : Int) + 1, (f n).Group, (f n).Epoch⟩]
  | none => L ++ [⟨n, (n : Int) + 1, (f n).Group, (f n).Epoch⟩]
def runs (f : Int → Rg) (n : Nat) : List Rg := (List.range n).foldl (run1 f) []
end Go.Proofs.Ytpimnlgfhpnjnaa
