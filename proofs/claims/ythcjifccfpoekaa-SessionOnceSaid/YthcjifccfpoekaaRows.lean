/-
  No cell of these rows narrows 'for every input' (looked for: loops, veiled, ifaces, maps, wideKeys, modest, calm, conditions, laid).
  DERIVED. THE GIVEN ROWS OF THIS SEAT. 5 by the template 'for every input the law returns true; each argument reads behind the call as it read before'; 0 by the template 'total and deterministic' (their statements: YthcjifccfpoekaaTotals.lean).
  GIVEN WITH THE SEED: the statements are not yours to turn. If you find one false, say at which input.
  Laid BY PROGRAM, IN A SANDBOX (cutbox-rows.mjs): the forced cells as the released guide's own fill.sh prints them over the translation 77817fdc796c9235… (all of the seat's roots in one cut). By AI agents, Wed Nov 11 2026. No macro, syntax, notation, axiom, sorry.
-/
import Derived.Test.YthcjifccfpoekaaChecked
import GoSem.Claim
import GoSem.ClaimJoined
import GoSem.ClaimMapViews
import Derived.JoinedTies
import Derived.KernelRfl
namespace Go.Proofs.Ythcjifccfpoekaa
/- THE CELL 'sum', in the pinned program and in every row, IS THE sha256 OF THE DUMP (.gsa) THAT YthcjifccfpoekaaProg.lean LOADS. Nothing in Lean hashes anything: it is a label: what it is worth is what the hold of that sum in a sandbox is worth. -/
noncomputable def Try.pinned : Pinned := { name := "ythcjifccfpoekaa", sum := "77817fdc796c9235d52c3b1d36ae374ef9100f6c4b106281ebff3d2145e823a0", checked := Try.checked }
namespace Rows
def none {H : Type} : Left H := { results := [], args := [] }

/-- 'glebelaw18.SessionAsks': WHATEVER THE INPUT: true; the input reads as it did. -/
def sessionAsksSpec : ChangeSpec := { name := "sessionAsks", fn := fun _ => fun
  | [d1, d2, d3] => { results := [.lit (.bool true)], args := [d1, d2, d3] }
  | _ => none }
def sessionAsksRow : OpenClaim := { program := "ythcjifccfpoekaa", sum := "77817fdc796c9235d52c3b1d36ae374ef9100f6c4b106281ebff3d2145e823a0", func := "glebe/glebelaw18.SessionAsks", spec := "sessionAsks", inPlace := ["slices.overlaps[glebe/api.Session]"], unfollowed := true, recurses := true, apart := false }
def SessionAsksSaid : Prop := sessionAsksRow.holds Try.pinned (OpenSpec.ofChange sessionAsksSpec)

/-- ITS FALSE NEIGHBOUR: 'it returns false'. Refute it at one input. -/
def sessionAsksWrong : ChangeSpec := { name := "sessionAsks", fn := fun _ => fun
  | [d1, d2, d3] => { results := [.lit (.bool false)], args := [d1, d2, d3] }
  | _ => none }
def SessionAsksWrongFalsely : Prop := sessionAsksRow.holds Try.pinned (OpenSpec.ofChange sessionAsksWrong)

/-- 'glebelaw18.SessionNotes': WHATEVER THE INPUT: true; the input reads as it did. -/
def sessionNotesSpec : ChangeSpec := { name := "sessionNotes", fn := fun _ => fun
  | [d1, d2, d3, d4] => { results := [.lit (.bool true)], args := [d1, d2, d3, d4] }
  | _ => none }
def sessionNotesRow : OpenClaim := { program := "ythcjifccfpoekaa", sum := "77817fdc796c9235d52c3b1d36ae374ef9100f6c4b106281ebff3d2145e823a0", func := "glebe/glebelaw18.SessionNotes", spec := "sessionNotes", inPlace := ["slices.overlaps[glebe/api.Session]"], unfollowed := true, recurses := true, apart := false }
def SessionNotesSaid : Prop := sessionNotesRow.holds Try.pinned (OpenSpec.ofChange sessionNotesSpec)

/-- ITS FALSE NEIGHBOUR: 'it returns false'. Refute it at one input. -/
def sessionNotesWrong : ChangeSpec := { name := "sessionNotes", fn := fun _ => fun
  | [d1, d2, d3, d4] => { results := [.lit (.bool false)], args := [d1, d2, d3, d4] }
  | _ => none }
def SessionNotesWrongFalsely : Prop := sessionNotesRow.holds Try.pinned (OpenSpec.ofChange sessionNotesWrong)

/-- 'glebelaw18.SessionOnce': WHATEVER THE INPUT: true; the input reads as it did. -/
def sessionOnceSpec : ChangeSpec := { name := "sessionOnce", fn := fun _ => fun
  | [d] => { results := [.lit (.bool true)], args := [d] }
  | _ => none }
def sessionOnceRow : OpenClaim := { program := "ythcjifccfpoekaa", sum := "77817fdc796c9235d52c3b1d36ae374ef9100f6c4b106281ebff3d2145e823a0", func := "glebe/glebelaw18.SessionOnce", spec := "sessionOnce", inPlace := ["slices.overlaps[glebe/api.Session]"], unfollowed := true, recurses := true, apart := false }
def SessionOnceSaid : Prop := sessionOnceRow.holds Try.pinned (OpenSpec.ofChange sessionOnceSpec)

/-- ITS FALSE NEIGHBOUR: 'it returns false'. Refute it at one input. -/
def sessionOnceWrong : ChangeSpec := { name := "sessionOnce", fn := fun _ => fun
  | [d] => { results := [.lit (.bool false)], args := [d] }
  | _ => none }
def SessionOnceWrongFalsely : Prop := sessionOnceRow.holds Try.pinned (OpenSpec.ofChange sessionOnceWrong)

/-- 'glebelaw18.SessionApart': WHATEVER THE INPUT: true; the input reads as it did. -/
def sessionApartSpec : ChangeSpec := { name := "sessionApart", fn := fun _ => fun
  | [d1, d2, d3, d4, d5, d6] => { results := [.lit (.bool true)], args := [d1, d2, d3, d4, d5, d6] }
  | _ => none }
def sessionApartRow : OpenClaim := { program := "ythcjifccfpoekaa", sum := "77817fdc796c9235d52c3b1d36ae374ef9100f6c4b106281ebff3d2145e823a0", func := "glebe/glebelaw18.SessionApart", spec := "sessionApart", inPlace := ["slices.overlaps[glebe/api.Session]"], unfollowed := true, recurses := true, apart := false }
def SessionApartSaid : Prop := sessionApartRow.holds Try.pinned (OpenSpec.ofChange sessionApartSpec)

/-- ITS FALSE NEIGHBOUR: 'it returns false'. Refute it at one input. -/
def sessionApartWrong : ChangeSpec := { name := "sessionApart", fn := fun _ => fun
  | [d1, d2, d3, d4, d5, d6] => { results := [.lit (.bool false)], args := [d1, d2, d3, d4, d5, d6] }
  | _ => none }
def SessionApartWrongFalsely : Prop := sessionApartRow.holds Try.pinned (OpenSpec.ofChange sessionApartWrong)

/-- 'glebelaw18.SessionKnown': WHATEVER THE INPUT: true; the input reads as it did. -/
def sessionKnownSpec : ChangeSpec := { name := "sessionKnown", fn := fun _ => fun
  | [] => { results := [.lit (.bool true)], args := [] }
  | _ => none }
def sessionKnownRow : OpenClaim := { program := "ythcjifccfpoekaa", sum := "77817fdc796c9235d52c3b1d36ae374ef9100f6c4b106281ebff3d2145e823a0", func := "glebe/glebelaw18.SessionKnown", spec := "sessionKnown", inPlace := ["slices.overlaps[glebe/api.Session]"], unfollowed := true, recurses := true, apart := false }
def SessionKnownSaid : Prop := sessionKnownRow.holds Try.pinned (OpenSpec.ofChange sessionKnownSpec)

/-- ITS FALSE NEIGHBOUR: 'it returns false'. Refute it at one input. -/
def sessionKnownWrong : ChangeSpec := { name := "sessionKnown", fn := fun _ => fun
  | [] => { results := [.lit (.bool false)], args := [] }
  | _ => none }
def SessionKnownWrongFalsely : Prop := sessionKnownRow.holds Try.pinned (OpenSpec.ofChange sessionKnownWrong)

/- THE SECOND FORM. 'bulk': how many values and letters a reading holds, each counted each time it is reached (what is shared counts as often as it is met; a slice's spare places count too). A statement '..UptoSaid' is the law's where the arguments, and the package variables that the reading takes, are together of bulk at most 1048576: NARROWER than '..Said'. Prove '..Said' where nothing that the law and all that it calls make is longer than what came in: it says more and counts as full. Else prove '..UptoSaid'. A law counts once. -/
mutual
def uptoBulk {H : Type} : DataW H → Nat
  | .lit (.string bytes) => bytes.length + 1
  | .lit _ => 1
  | .nil => 1
  | .ptr d => uptoBulk d + 1
  | .slice elems spare => uptoBulkAll elems + uptoBulkAll spare + 1
  | .agg parts => uptoBulkAll parts + 1
  | .iface _ d => uptoBulk d + 1
  | .map entries => uptoBulkEntries entries + 1
  | .held _ => 1
def uptoBulkAll {H : Type} : List (DataW H) → Nat
  | [] => 0
  | d :: r => uptoBulk d + uptoBulkAll r
def uptoBulkEntries {H : Type} : List (Lit × DataW H) → Nat
  | [] => 0
  | x :: r => uptoBulkEntry x + uptoBulkEntries r
def uptoBulkEntry {H : Type} : Lit × DataW H → Nat
  | (.string bytes, d) => bytes.length + uptoBulk d + 1
  | (_, d) => uptoBulk d + 1
 end
def uptoSmall : (H : Type) → List (DataW H) → Bool := fun _ ds => decide (uptoBulkAll ds ≤ 1048576)
def OpenSpec.upto (s : _root_.Go.ChangeSpec) : _root_.Go.OpenSpec := { _root_.Go.OpenSpec.ofChange s with cond := some uptoSmall }

/-- 'glebelaw18.SessionAsks', WHERE WHAT IT READS IS OF BULK AT MOST 1048576: true; the input reads as it did. -/
def sessionAsksUptoRow : OpenClaim := { program := "ythcjifccfpoekaa", sum := "77817fdc796c9235d52c3b1d36ae374ef9100f6c4b106281ebff3d2145e823a0", func := "glebe/glebelaw18.SessionAsks", spec := "sessionAsks", inPlace := ["slices.overlaps[glebe/api.Session]"], unfollowed := true, recurses := true, apart := false, narrowed := true }
def SessionAsksUptoSaid : Prop := sessionAsksUptoRow.holds Try.pinned (OpenSpec.upto sessionAsksSpec)

/-- 'glebelaw18.SessionNotes', WHERE WHAT IT READS IS OF BULK AT MOST 1048576: true; the input reads as it did. -/
def sessionNotesUptoRow : OpenClaim := { program := "ythcjifccfpoekaa", sum := "77817fdc796c9235d52c3b1d36ae374ef9100f6c4b106281ebff3d2145e823a0", func := "glebe/glebelaw18.SessionNotes", spec := "sessionNotes", inPlace := ["slices.overlaps[glebe/api.Session]"], unfollowed := true, recurses := true, apart := false, narrowed := true }
def SessionNotesUptoSaid : Prop := sessionNotesUptoRow.holds Try.pinned (OpenSpec.upto sessionNotesSpec)

/-- 'glebelaw18.SessionOnce', WHERE WHAT IT READS IS OF BULK AT MOST 1048576: true; the input reads as it did. -/
def sessionOnceUptoRow : OpenClaim := { program := "ythcjifccfpoekaa", sum := "77817fdc796c9235d52c3b1d36ae374ef9100f6c4b106281ebff3d2145e823a0", func := "glebe/glebelaw18.SessionOnce", spec := "sessionOnce", inPlace := ["slices.overlaps[glebe/api.Session]"], unfollowed := true, recurses := true, apart := false, narrowed := true }
def SessionOnceUptoSaid : Prop := sessionOnceUptoRow.holds Try.pinned (OpenSpec.upto sessionOnceSpec)

/-- 'glebelaw18.SessionApart', WHERE WHAT IT READS IS OF BULK AT MOST 1048576: true; the input reads as it did. -/
def sessionApartUptoRow : OpenClaim := { program := "ythcjifccfpoekaa", sum := "77817fdc796c9235d52c3b1d36ae374ef9100f6c4b106281ebff3d2145e823a0", func := "glebe/glebelaw18.SessionApart", spec := "sessionApart", inPlace := ["slices.overlaps[glebe/api.Session]"], unfollowed := true, recurses := true, apart := false, narrowed := true }
def SessionApartUptoSaid : Prop := sessionApartUptoRow.holds Try.pinned (OpenSpec.upto sessionApartSpec)

/-- 'glebelaw18.SessionKnown', WHERE WHAT IT READS IS OF BULK AT MOST 1048576: true; the input reads as it did. -/
def sessionKnownUptoRow : OpenClaim := { program := "ythcjifccfpoekaa", sum := "77817fdc796c9235d52c3b1d36ae374ef9100f6c4b106281ebff3d2145e823a0", func := "glebe/glebelaw18.SessionKnown", spec := "sessionKnown", inPlace := ["slices.overlaps[glebe/api.Session]"], unfollowed := true, recurses := true, apart := false, narrowed := true }
def SessionKnownUptoSaid : Prop := sessionKnownUptoRow.holds Try.pinned (OpenSpec.upto sessionKnownSpec)

end Rows
end Go.Proofs.Ythcjifccfpoekaa
