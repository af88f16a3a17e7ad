/- What the document's answer of layer 30 says, as plain mathematics; the chapter's examples. -/
import Derived.Test.YtobjmehppmhkdaaWitO
namespace Go.Proofs.Ytobjmehppmhkdaa
open Go Go.RowKit Kf
set_option maxRecDepth 20000
def undF (c : Int) (s : Int × Bool) (e : Ev) : Int × Bool :=
  if e.Client = c then (if e.Kind = 2 then ((if e.Kind = 1 then e.Call.Kind else s.1), false) else if e.Kind = 1 then (e.Call.Kind, true) else s) else s
def underL (l : List Ev) (c : Int) (n : Nat) : Int × Bool := (l.take n).foldl (undF c) (0, false)
def rchosen (l : List Ev) (t : Int) (n : Nat) : Bool := (l.take n).any (chs t)
def oddR (l : List Ev) (i : Nat) (e : Ev) : Bool :=
  if e.Kind = 3 then false
  else if (¬ e.Kind = 1 ∧ ¬ e.Kind = 2) ∨ e.Client < 1 ∨ 4 < e.Client then true
  else if e.Kind = 1 then (underL l e.Client i).2
  else if (underL l e.Client i).2 = false ∨ ¬ (underL l e.Client i).1 = e.Call.Kind then true
  else oddB e
def playN (l : List Ev) (n : Nat) : List Bl := ((orderL l).take n).foldl (fun d t => setsL d (writesL l t)) []
def playL (l : List Ev) (n : Int) : List Bl := playN l n.toNat
def rplace (l : List Ev) (t : Int) : Nat := match placeOf (orderL l) t with
  | some a => a + 1
  | none => 0
def wrongR (l : List Ev) (i : Nat) (e : Ev) : Bool :=
  ans e 2 0 && (!decide (rplace l e.Txn = 0) && !decide (getB (setsL (playN l (rplace l e.Txn - 1)) (writesL (l.take i) e.Txn)) e.Call.Block = e.Answer.Data))
def snapsR (l : List Ev) (i : Nat) (e : Ev) : Bool :=
  ans e 8 0 && (!rchosen l e.Call.Snap i || !decide (getB (playN l (rplace l e.Call.Snap)) e.Call.Block = e.Answer.Data))
def badR (l : List Ev) (which : Nat) (i : Nat) (e : Ev) : Bool := match which with
  | 1 => oddR l i e
  | 2 => decide (e.Kind = 3) && rchosen l e.Txn i
  | 3 => deniesB e && rchosen l e.Txn l.length
  | 4 => saysB l e && !rchosen l e.Txn i
  | 5 => goesOn e && rchosen l e.Txn i
  | 6 => wrongR l i e
  | _ => snapsR l i e
def codeR : Nat → Int
  | 1 => 4
  | 2 => 7
  | 3 => 24
  | 4 => 6
  | 5 => 15
  | 6 => 12
  | _ => 23
def rchecks (l : List Ev) : List (Bool × Int) := (List.range 7).map fun w => (anyI l (badR l (w + 1)), codeR (w + 1))
def refCheckL (l : List Ev) : Int := firstG (rchecks l)
/-! ### the examples -/
def statC (t : Int) : Ca := ⟨9, 0, 0, 0, t, 0, 0, 0, 0, 0, 0, 0, []⟩
def snapC (s : Int) : Ca := ⟨8, 4, 0, s, 0, 0, 0, 0, 0, 0, 0, 0, []⟩
def unkAn : An := ⟨25, 0, []⟩
def kn1 : List Ev := wroteL 1048577 4 7 ++ wroteL 1048577 5 8
def kn2 : List Ev := kn1 ++ readL 1048577 4 [7, 0, 0, 1]
def kn3 : List Ev := kn2 ++ endedL 1048577 true
def kn4 : List Ev := kn3 ++ readL 1048578 4 [7, 0, 0, 1]
def kn5 : List Ev := kn4 ++ wroteL 1048578 4 9
def kn6 : List Ev := kn5 ++ doneL 1048578 commitC unkAn
def kn7 : List Ev := kn6 ++ [chosenE 1048579, chosenE 1048578]
def kn8 : List Ev := kn7 ++ doneL 1048578 (statC 1048578) An.zero
def kn9 : List Ev := kn8 ++ doneL 0 (snapC 1048579) ⟨0, 0, [7, 0, 0, 1]⟩
def knL : List Ev := kn9 ++ doneL 0 (snapC 1048578) ⟨0, 0, [9, 0, 0, 1]⟩
def turnL (m : List Ev) (i : Nat) (how : Nat) : List Ev := match how with
  | 0 => m.take i ++ m.drop (i + 1)
  | 1 => m.take (i + 1) ++ m.drop i
  | 2 => if i + 1 < m.length then (m.set i (m.getD (i + 1) Ev.zero)).set (i + 1) (m.getD i Ev.zero) else m
  | 3 => m.set i { m.getD i Ev.zero with Txn := (m.getD i Ev.zero).Txn + 1 }
  | 4 => m.set i { m.getD i Ev.zero with Answer := { (m.getD i Ev.zero).Answer with Code := 24 } }
  | 5 => m.set i { m.getD i Ev.zero with Answer := { (m.getD i Ev.zero).Answer with Data := [1, 0, 0, 1] } }
  | 6 => m.set i { m.getD i Ev.zero with Call := { (m.getD i Ev.zero).Call with Data := [1] } }
  | 7 => m.set i { m.getD i Ev.zero with Client := 2 }
  | 8 => m.set i { m.getD i Ev.zero with Call := { (m.getD i Ev.zero).Call with Kind := 5 } }
  | _ => m
def eqR (m : List Ev) : Bool := decide (checkL m = refCheckL m)
theorem kn_len : knL.length = 23 := by kernel_rfl
theorem kn_chk : checkL knL = 0 := by kernel_rfl
theorem kn_eq : eqR knL = true := by kernel_rfl
theorem kn_a : eqR [⟨2, 1, 0, Ca.zero, An.zero⟩] = true := by kernel_rfl
theorem kn_b : eqR [Ev.zero] = true := by kernel_rfl
theorem kn_c : eqR [⟨1, 5, 0, Ca.zero, An.zero⟩] = true := by kernel_rfl
theorem kn_turn0 : ((List.range 23).all fun i => (List.range 9).all fun h => eqR (turnL knL i h)) = true := by kernel_rfl
end Go.Proofs.Ytobjmehppmhkdaa
