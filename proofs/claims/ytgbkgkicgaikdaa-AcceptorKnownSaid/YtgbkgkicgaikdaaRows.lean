/-
  No cell of these rows narrows 'for every input' (looked for: loops, veiled, ifaces, maps, wideKeys, modest, calm, conditions, laid).
  DERIVED. THE GIVEN ROWS OF THIS SEAT. 5 by the template 'for every input the law returns true; each argument reads behind the call as it read before'; 0 by the template 'total and deterministic' (their statements: YtgbkgkicgaikdaaTotals.lean).
  GIVEN WITH THE SEED: the statements are not yours to turn. If you find one false, say at which input.
  Laid BY PROGRAM, IN A SANDBOX (cutbox-rows.mjs): the forced cells as the released guide's own fill.sh prints them over the translation 4c3371c8ed9facec… (all of the seat's roots in one cut). By AI agents, Wed Nov 11 2026. No macro, syntax, notation, axiom, sorry.
-/
import Derived.Test.YtgbkgkicgaikdaaChecked
import GoSem.Claim
import GoSem.ClaimJoined
import GoSem.ClaimMapViews
import Derived.JoinedTies
import Derived.KernelRfl
namespace Go.Proofs.Ytgbkgkicgaikdaa
/- THE CELL 'sum', in the pinned program and in every row, IS THE sha256 OF THE DUMP (.gsa) THAT YtgbkgkicgaikdaaProg.lean LOADS. Nothing in Lean hashes anything: it is a label: what it is worth is what the hold of that sum in a sandbox is worth. -/
noncomputable def Try.pinned : Pinned := { name := "ytgbkgkicgaikdaa", sum := "4c3371c8ed9facec28b1c8f4e3f910cc84aba64b4ad5888e853f423aeec7c9d5", checked := Try.checked }
namespace Rows
def none {H : Type} : Left H := { results := [], args := [] }

/-- 'glebelaw24.AcceptorTakes': WHATEVER THE INPUT: true; the input reads as it did. -/
def acceptorTakesSpec : ChangeSpec := { name := "acceptorTakes", fn := fun _ => fun
  | [d1, d2, d3] => { results := [.lit (.bool true)], args := [d1, d2, d3] }
  | _ => none }
def acceptorTakesRow : OpenClaim := { program := "ytgbkgkicgaikdaa", sum := "4c3371c8ed9facec28b1c8f4e3f910cc84aba64b4ad5888e853f423aeec7c9d5", func := "glebe/glebelaw24.AcceptorTakes", spec := "acceptorTakes", inPlace := ["slices.overlaps[glebe/api.Accepted]"], unfollowed := true, recurses := true, apart := false }
def AcceptorTakesSaid : Prop := acceptorTakesRow.holds Try.pinned (OpenSpec.ofChange acceptorTakesSpec)

/-- ITS FALSE NEIGHBOUR: 'it returns false'. Refute it at one input. -/
def acceptorTakesWrong : ChangeSpec := { name := "acceptorTakes", fn := fun _ => fun
  | [d1, d2, d3] => { results := [.lit (.bool false)], args := [d1, d2, d3] }
  | _ => none }
def AcceptorTakesWrongFalsely : Prop := acceptorTakesRow.holds Try.pinned (OpenSpec.ofChange acceptorTakesWrong)

/-- 'glebelaw24.AcceptorRises': WHATEVER THE INPUT: true; the input reads as it did. -/
def acceptorRisesSpec : ChangeSpec := { name := "acceptorRises", fn := fun _ => fun
  | [d1, d2] => { results := [.lit (.bool true)], args := [d1, d2] }
  | _ => none }
def acceptorRisesRow : OpenClaim := { program := "ytgbkgkicgaikdaa", sum := "4c3371c8ed9facec28b1c8f4e3f910cc84aba64b4ad5888e853f423aeec7c9d5", func := "glebe/glebelaw24.AcceptorRises", spec := "acceptorRises", inPlace := ["slices.overlaps[glebe/api.Accepted]"], unfollowed := true, recurses := true, apart := false }
def AcceptorRisesSaid : Prop := acceptorRisesRow.holds Try.pinned (OpenSpec.ofChange acceptorRisesSpec)

/-- ITS FALSE NEIGHBOUR: 'it returns false'. Refute it at one input. -/
def acceptorRisesWrong : ChangeSpec := { name := "acceptorRises", fn := fun _ => fun
  | [d1, d2] => { results := [.lit (.bool false)], args := [d1, d2] }
  | _ => none }
def AcceptorRisesWrongFalsely : Prop := acceptorRisesRow.holds Try.pinned (OpenSpec.ofChange acceptorRisesWrong)

/-- 'glebelaw24.AcceptorOne': WHATEVER THE INPUT: true; the input reads as it did. -/
def acceptorOneSpec : ChangeSpec := { name := "acceptorOne", fn := fun _ => fun
  | [d1, d2, d3, d4, d5] => { results := [.lit (.bool true)], args := [d1, d2, d3, d4, d5] }
  | _ => none }
def acceptorOneRow : OpenClaim := { program := "ytgbkgkicgaikdaa", sum := "4c3371c8ed9facec28b1c8f4e3f910cc84aba64b4ad5888e853f423aeec7c9d5", func := "glebe/glebelaw24.AcceptorOne", spec := "acceptorOne", inPlace := ["slices.overlaps[glebe/api.Accepted]"], unfollowed := true, recurses := true, apart := false }
def AcceptorOneSaid : Prop := acceptorOneRow.holds Try.pinned (OpenSpec.ofChange acceptorOneSpec)

/-- ITS FALSE NEIGHBOUR: 'it returns false'. Refute it at one input. -/
def acceptorOneWrong : ChangeSpec := { name := "acceptorOne", fn := fun _ => fun
  | [d1, d2, d3, d4, d5] => { results := [.lit (.bool false)], args := [d1, d2, d3, d4, d5] }
  | _ => none }
def AcceptorOneWrongFalsely : Prop := acceptorOneRow.holds Try.pinned (OpenSpec.ofChange acceptorOneWrong)

/-- 'glebelaw24.AcceptorKnown': WHATEVER THE INPUT: true; the input reads as it did. -/
def acceptorKnownSpec : ChangeSpec := { name := "acceptorKnown", fn := fun _ => fun
  | [] => { results := [.lit (.bool true)], args := [] }
  | _ => none }
def acceptorKnownRow : OpenClaim := { program := "ytgbkgkicgaikdaa", sum := "4c3371c8ed9facec28b1c8f4e3f910cc84aba64b4ad5888e853f423aeec7c9d5", func := "glebe/glebelaw24.AcceptorKnown", spec := "acceptorKnown", inPlace := ["slices.overlaps[glebe/api.Accepted]"], unfollowed := true, recurses := true, apart := false }
def AcceptorKnownSaid : Prop := acceptorKnownRow.holds Try.pinned (OpenSpec.ofChange acceptorKnownSpec)

/-- ITS FALSE NEIGHBOUR: 'it returns false'. Refute it at one input. -/
def acceptorKnownWrong : ChangeSpec := { name := "acceptorKnown", fn := fun _ => fun
  | [] => { results := [.lit (.bool false)], args := [] }
  | _ => none }
def AcceptorKnownWrongFalsely : Prop := acceptorKnownRow.holds Try.pinned (OpenSpec.ofChange acceptorKnownWrong)

/-- 'glebelaw24.AcceptorApart': WHATEVER THE INPUT: true; the input reads as it did. -/
def acceptorApartSpec : ChangeSpec := { name := "acceptorApart", fn := fun _ => fun
  | [d1, d2, d3, d4] => { results := [.lit (.bool true)], args := [d1, d2, d3, d4] }
  | _ => none }
def acceptorApartRow : OpenClaim := { program := "ytgbkgkicgaikdaa", sum := "4c3371c8ed9facec28b1c8f4e3f910cc84aba64b4ad5888e853f423aeec7c9d5", func := "glebe/glebelaw24.AcceptorApart", spec := "acceptorApart", inPlace := ["slices.overlaps[glebe/api.Accepted]"], unfollowed := true, recurses := true, apart := false }
def AcceptorApartSaid : Prop := acceptorApartRow.holds Try.pinned (OpenSpec.ofChange acceptorApartSpec)

/-- ITS FALSE NEIGHBOUR: 'it returns false'. Refute it at one input. -/
def acceptorApartWrong : ChangeSpec := { name := "acceptorApart", fn := fun _ => fun
  | [d1, d2, d3, d4] => { results := [.lit (.bool false)], args := [d1, d2, d3, d4] }
  | _ => none }
def AcceptorApartWrongFalsely : Prop := acceptorApartRow.holds Try.pinned (OpenSpec.ofChange acceptorApartWrong)

/- THE SECOND FORM. 'bulk': how many values and letters a reading holds, each counted each time it is reached (what is shared counts as often as it is met; a slice's spare places count too). A statement '..UptoSaid' is the law's where the arguments, and the package variables that the reading takes, are together of bulk at most 1048576: NARROWER than '..Said'. Prove '..Said' where nothing that the law and all that it calls make is longer than what came in: it says more and counts as full. Else prove '..UptoSaid'. A law counts once. -/
mutual
def uptoBulk {H : Type} : DataW H → Nat
  | .lit (.string bytes) => bytes.length + 1
  | .lit _ => 1
  | .nil => 1
  | .ptr d => uptoBulk d + 1
  | .slice elems spare => uptoBulkAll elems + uptoBulkAll spare + 1
  | .agg parts => uptoBulkAll parts + 1
  | .iface _ d => uptoBulk d + 1
  | .map entries => uptoBulkEntries entries + 1
  | .held _ => 1
def uptoBulkAll {H : Type} : List (DataW H) → Nat
  | [] => 0
  | d :: r => uptoBulk d + uptoBulkAll r
def uptoBulkEntries {H : Type} : List (Lit × DataW H) → Nat
  | [] => 0
  | x :: r => uptoBulkEntry x + uptoBulkEntries r
def uptoBulkEntry {H : Type} : Lit × DataW H → Nat
  | (.string bytes, d) => bytes.length + uptoBulk d + 1
  | (_, d) => uptoBulk d + 1
 end
def uptoSmall : (H : Type) → List (DataW H) → Bool := fun _ ds => decide (uptoBulkAll ds ≤ 1048576)
def OpenSpec.upto (s : _root_.Go.ChangeSpec) : _root_.Go.OpenSpec := { _root_.Go.OpenSpec.ofChange s with cond := some uptoSmall }

/-- 'glebelaw24.AcceptorTakes', WHERE WHAT IT READS IS OF BULK AT MOST 1048576: true; the input reads as it did. -/
def acceptorTakesUptoRow : OpenClaim := { program := "ytgbkgkicgaikdaa", sum := "4c3371c8ed9facec28b1c8f4e3f910cc84aba64b4ad5888e853f423aeec7c9d5", func := "glebe/glebelaw24.AcceptorTakes", spec := "acceptorTakes", inPlace := ["slices.overlaps[glebe/api.Accepted]"], unfollowed := true, recurses := true, apart := false, narrowed := true }
def AcceptorTakesUptoSaid : Prop := acceptorTakesUptoRow.holds Try.pinned (OpenSpec.upto acceptorTakesSpec)

/-- 'glebelaw24.AcceptorRises', WHERE WHAT IT READS IS OF BULK AT MOST 1048576: true; the input reads as it did. -/
def acceptorRisesUptoRow : OpenClaim := { program := "ytgbkgkicgaikdaa", sum := "4c3371c8ed9facec28b1c8f4e3f910cc84aba64b4ad5888e853f423aeec7c9d5", func := "glebe/glebelaw24.AcceptorRises", spec := "acceptorRises", inPlace := ["slices.overlaps[glebe/api.Accepted]"], unfollowed := true, recurses := true, apart := false, narrowed := true }
def AcceptorRisesUptoSaid : Prop := acceptorRisesUptoRow.holds Try.pinned (OpenSpec.upto acceptorRisesSpec)

/-- 'glebelaw24.AcceptorOne', WHERE WHAT IT READS IS OF BULK AT MOST 1048576: true; the input reads as it did. -/
def acceptorOneUptoRow : OpenClaim := { program := "ytgbkgkicgaikdaa", sum := "4c3371c8ed9facec28b1c8f4e3f910cc84aba64b4ad5888e853f423aeec7c9d5", func := "glebe/glebelaw24.AcceptorOne", spec := "acceptorOne", inPlace := ["slices.overlaps[glebe/api.Accepted]"], unfollowed := true, recurses := true, apart := false, narrowed := true }
def AcceptorOneUptoSaid : Prop := acceptorOneUptoRow.holds Try.pinned (OpenSpec.upto acceptorOneSpec)

/-- 'glebelaw24.AcceptorKnown', WHERE WHAT IT READS IS OF BULK AT MOST 1048576: true; the input reads as it did. -/
def acceptorKnownUptoRow : OpenClaim := { program := "ytgbkgkicgaikdaa", sum := "4c3371c8ed9facec28b1c8f4e3f910cc84aba64b4ad5888e853f423aeec7c9d5", func := "glebe/glebelaw24.AcceptorKnown", spec := "acceptorKnown", inPlace := ["slices.overlaps[glebe/api.Accepted]"], unfollowed := true, recurses := true, apart := false, narrowed := true }
def AcceptorKnownUptoSaid : Prop := acceptorKnownUptoRow.holds Try.pinned (OpenSpec.upto acceptorKnownSpec)

/-- 'glebelaw24.AcceptorApart', WHERE WHAT IT READS IS OF BULK AT MOST 1048576: true; the input reads as it did. -/
def acceptorApartUptoRow : OpenClaim := { program := "ytgbkgkicgaikdaa", sum := "4c3371c8ed9facec28b1c8f4e3f910cc84aba64b4ad5888e853f423aeec7c9d5", func := "glebe/glebelaw24.AcceptorApart", spec := "acceptorApart", inPlace := ["slices.overlaps[glebe/api.Accepted]"], unfollowed := true, recurses := true, apart := false, narrowed := true }
def AcceptorApartUptoSaid : Prop := acceptorApartUptoRow.holds Try.pinned (OpenSpec.upto acceptorApartSpec)

end Rows
end Go.Proofs.Ytgbkgkicgaikdaa
