/-
  No cell of these rows narrows 'for every input' (looked for: loops, veiled, ifaces, maps, wideKeys, modest, calm, conditions, laid).
  DERIVED. THE GIVEN ROWS OF THIS SEAT. 3 by the template 'for every input the law returns true; each argument reads behind the call as it read before'; 0 by the template 'total and deterministic' (their statements: YtobjmehppmhkdaaTotals.lean).
  GIVEN WITH THE SEED: the statements are not yours to turn. If you find one false, say at which input.
  Laid BY PROGRAM, IN A SANDBOX (cutbox-rows.mjs): the forced cells as the released guide's own fill.sh prints them over the translation 6bcbc072c6a1f957… (all of the seat's roots in one cut). By AI agents, Wed Nov 11 2026. No macro, syntax, notation, axiom, sorry.
-/
import Derived.Test.YtobjmehppmhkdaaChecked
import GoSem.Claim
import GoSem.ClaimJoined
import GoSem.ClaimMapViews
import Derived.JoinedTies
import Derived.KernelRfl
namespace Go.Proofs.Ytobjmehppmhkdaa
/- THE CELL 'sum', in the pinned program and in every row, IS THE sha256 OF THE DUMP (.gsa) THAT YtobjmehppmhkdaaProg.lean LOADS. Nothing in Lean hashes anything: it is a label: what it is worth is what the hold of that sum in a sandbox is worth. -/
noncomputable def Try.pinned : Pinned := { name := "ytobjmehppmhkdaa", sum := "6bcbc072c6a1f957d5bef1683039298f14b8bc0daee5b38e738474c1933d009f", checked := Try.checked }
namespace Rows
def none {H : Type} : Left H := { results := [], args := [] }

/-- 'glebelaw30.WitnessSerial': WHATEVER THE INPUT: true; the input reads as it did. -/
def witnessSerialSpec : ChangeSpec := { name := "witnessSerial", fn := fun _ => fun
  | [d1, d2, d3] => { results := [.lit (.bool true)], args := [d1, d2, d3] }
  | _ => none }
def witnessSerialRow : OpenClaim := { program := "ytobjmehppmhkdaa", sum := "6bcbc072c6a1f957d5bef1683039298f14b8bc0daee5b38e738474c1933d009f", func := "glebe/glebelaw30.WitnessSerial", spec := "witnessSerial", inPlace := ["slices.overlaps[glebe/api.Block]"], unfollowed := true, recurses := true, apart := false }
def WitnessSerialSaid : Prop := witnessSerialRow.holds Try.pinned (OpenSpec.ofChange witnessSerialSpec)

/-- ITS FALSE NEIGHBOUR: 'it returns false'. Refute it at one input. -/
def witnessSerialWrong : ChangeSpec := { name := "witnessSerial", fn := fun _ => fun
  | [d1, d2, d3] => { results := [.lit (.bool false)], args := [d1, d2, d3] }
  | _ => none }
def WitnessSerialWrongFalsely : Prop := witnessSerialRow.holds Try.pinned (OpenSpec.ofChange witnessSerialWrong)

/-- 'glebelaw30.WitnessReal': WHATEVER THE INPUT: true; the input reads as it did. -/
def witnessRealSpec : ChangeSpec := { name := "witnessReal", fn := fun _ => fun
  | [d] => { results := [.lit (.bool true)], args := [d] }
  | _ => none }
def witnessRealRow : OpenClaim := { program := "ytobjmehppmhkdaa", sum := "6bcbc072c6a1f957d5bef1683039298f14b8bc0daee5b38e738474c1933d009f", func := "glebe/glebelaw30.WitnessReal", spec := "witnessReal", inPlace := ["slices.overlaps[glebe/api.Block]"], unfollowed := true, recurses := true, apart := false }
def WitnessRealSaid : Prop := witnessRealRow.holds Try.pinned (OpenSpec.ofChange witnessRealSpec)

/-- ITS FALSE NEIGHBOUR: 'it returns false'. Refute it at one input. -/
def witnessRealWrong : ChangeSpec := { name := "witnessReal", fn := fun _ => fun
  | [d] => { results := [.lit (.bool false)], args := [d] }
  | _ => none }
def WitnessRealWrongFalsely : Prop := witnessRealRow.holds Try.pinned (OpenSpec.ofChange witnessRealWrong)

/-- 'glebelaw30.WitnessKnown': WHATEVER THE INPUT: true; the input reads as it did. -/
def witnessKnownSpec : ChangeSpec := { name := "witnessKnown", fn := fun _ => fun
  | [] => { results := [.lit (.bool true)], args := [] }
  | _ => none }
def witnessKnownRow : OpenClaim := { program := "ytobjmehppmhkdaa", sum := "6bcbc072c6a1f957d5bef1683039298f14b8bc0daee5b38e738474c1933d009f", func := "glebe/glebelaw30.WitnessKnown", spec := "witnessKnown", inPlace := ["slices.overlaps[glebe/api.Block]"], unfollowed := true, recurses := true, apart := false }
def WitnessKnownSaid : Prop := witnessKnownRow.holds Try.pinned (OpenSpec.ofChange witnessKnownSpec)

/-- ITS FALSE NEIGHBOUR: 'it returns false'. Refute it at one input. -/
def witnessKnownWrong : ChangeSpec := { name := "witnessKnown", fn := fun _ => fun
  | [] => { results := [.lit (.bool false)], args := [] }
  | _ => none }
def WitnessKnownWrongFalsely : Prop := witnessKnownRow.holds Try.pinned (OpenSpec.ofChange witnessKnownWrong)

/- THE SECOND FORM. 'bulk': how many values and letters a reading holds, each counted each time it is reached (what is shared counts as often as it is met; a slice's spare places count too). A statement '..UptoSaid' is the law's where the arguments, and the package variables that the reading takes, are together of bulk at most 1048576: NARROWER than '..Said'. Prove '..Said' where nothing that the law and all that it calls make is longer than what came in: it says more and counts as full. Else prove '..UptoSaid'. A law counts once. -/
mutual
def uptoBulk {H : Type} : DataW H → Nat
  | .lit (.string bytes) => bytes.length + 1
  | .lit _ => 1
  | .nil => 1
  | .ptr d => uptoBulk d + 1
  | .slice elems spare => uptoBulkAll elems + uptoBulkAll spare + 1
  | .agg parts => uptoBulkAll parts + 1
  | .iface _ d => uptoBulk d + 1
  | .map entries => uptoBulkEntries entries + 1
  | .held _ => 1
def uptoBulkAll {H : Type} : List (DataW H) → Nat
  | [] => 0
  | d :: r => uptoBulk d + uptoBulkAll r
def uptoBulkEntries {H : Type} : List (Lit × DataW H) → Nat
  | [] => 0
  | x :: r => uptoBulkEntry x + uptoBulkEntries r
def uptoBulkEntry {H : Type} : Lit × DataW H → Nat
  | (.string bytes, d) => bytes.length + uptoBulk d + 1
  | (_, d) => uptoBulk d + 1
 end
def uptoSmall : (H : Type) → List (DataW H) → Bool := fun _ ds => decide (uptoBulkAll ds ≤ 1048576)
def OpenSpec.upto (s : _root_.Go.ChangeSpec) : _root_.Go.OpenSpec := { _root_.Go.OpenSpec.ofChange s with cond := some uptoSmall }

/-- 'glebelaw30.WitnessSerial', WHERE WHAT IT READS IS OF BULK AT MOST 1048576: true; the input reads as it did. -/
def witnessSerialUptoRow : OpenClaim := { program := "ytobjmehppmhkdaa", sum := "6bcbc072c6a1f957d5bef1683039298f14b8bc0daee5b38e738474c1933d009f", func := "glebe/glebelaw30.WitnessSerial", spec := "witnessSerial", inPlace := ["slices.overlaps[glebe/api.Block]"], unfollowed := true, recurses := true, apart := false, narrowed := true }
def WitnessSerialUptoSaid : Prop := witnessSerialUptoRow.holds Try.pinned (OpenSpec.upto witnessSerialSpec)

/-- 'glebelaw30.WitnessReal', WHERE WHAT IT READS IS OF BULK AT MOST 1048576: true; the input reads as it did. -/
def witnessRealUptoRow : OpenClaim := { program := "ytobjmehppmhkdaa", sum := "6bcbc072c6a1f957d5bef1683039298f14b8bc0daee5b38e738474c1933d009f", func := "glebe/glebelaw30.WitnessReal", spec := "witnessReal", inPlace := ["slices.overlaps[glebe/api.Block]"], unfollowed := true, recurses := true, apart := false, narrowed := true }
def WitnessRealUptoSaid : Prop := witnessRealUptoRow.holds Try.pinned (OpenSpec.upto witnessRealSpec)

/-- 'glebelaw30.WitnessKnown', WHERE WHAT IT READS IS OF BULK AT MOST 1048576: true; the input reads as it did. -/
def witnessKnownUptoRow : OpenClaim := { program := "ytobjmehppmhkdaa", sum := "6bcbc072c6a1f957d5bef1683039298f14b8bc0daee5b38e738474c1933d009f", func := "glebe/glebelaw30.WitnessKnown", spec := "witnessKnown", inPlace := ["slices.overlaps[glebe/api.Block]"], unfollowed := true, recurses := true, apart := false, narrowed := true }
def WitnessKnownUptoSaid : Prop := witnessKnownUptoRow.holds Try.pinned (OpenSpec.upto witnessKnownSpec)

end Rows
end Go.Proofs.Ytobjmehppmhkdaa
