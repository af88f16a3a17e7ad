/-
  No cell of these rows narrows 'for every input' (looked for: loops, veiled, ifaces, maps, wideKeys, modest, calm, conditions, laid).
  DERIVED. THE GIVEN ROWS OF THIS SEAT. 6 by the template 'for every input the law returns true; each argument reads behind the call as it read before'; 0 by the template 'total and deterministic' (their statements: YthaojdpeimlngaaTotals.lean).
  GIVEN WITH THE SEED: the statements are not yours to turn. If you find one false, say at which input.
  Laid BY PROGRAM, IN A SANDBOX (cutbox-rows.mjs): the forced cells as the released guide's own fill.sh prints them over the translation 53c045b53b5f1174… (all of the seat's roots in one cut). By AI agents, Wed Nov 11 2026. No macro, syntax, notation, axiom, sorry.
-/
import Derived.Test.YthaojdpeimlngaaChecked
import GoSem.Claim
import GoSem.ClaimJoined
import GoSem.ClaimMapViews
import Derived.JoinedTies
import Derived.KernelRfl
namespace Go.Proofs.Ythaojdpeimlngaa
/- THE CELL 'sum', in the pinned program and in every row, IS THE sha256 OF THE DUMP (.gsa) THAT YthaojdpeimlngaaProg.lean LOADS. Nothing in Lean hashes anything: it is a label: what it is worth is what the hold of that sum in a sandbox is worth. -/
noncomputable def Try.pinned : Pinned := { name := "ythaojdpeimlngaa", sum := "53c045b53b5f117405dd9b2c379a873a7edb4e5488f56b81ad23bb810a01c1bf", checked := Try.checked }
namespace Rows
def none {H : Type} : Left H := { results := [], args := [] }

/-- 'glebelaw21.OpPuts': WHATEVER THE INPUT: true; the input reads as it did. -/
def opPutsSpec : ChangeSpec := { name := "opPuts", fn := fun _ => fun
  | [d] => { results := [.lit (.bool true)], args := [d] }
  | _ => none }
def opPutsRow : OpenClaim := { program := "ythaojdpeimlngaa", sum := "53c045b53b5f117405dd9b2c379a873a7edb4e5488f56b81ad23bb810a01c1bf", func := "glebe/glebelaw21.OpPuts", spec := "opPuts", unfollowed := true, recurses := true, apart := false }
def OpPutsSaid : Prop := opPutsRow.holds Try.pinned (OpenSpec.ofChange opPutsSpec)

/-- ITS FALSE NEIGHBOUR: 'it returns false'. Refute it at one input. -/
def opPutsWrong : ChangeSpec := { name := "opPuts", fn := fun _ => fun
  | [d] => { results := [.lit (.bool false)], args := [d] }
  | _ => none }
def OpPutsWrongFalsely : Prop := opPutsRow.holds Try.pinned (OpenSpec.ofChange opPutsWrong)

/-- 'glebelaw21.OpBack': WHATEVER THE INPUT: true; the input reads as it did. -/
def opBackSpec : ChangeSpec := { name := "opBack", fn := fun _ => fun
  | [d1, d2] => { results := [.lit (.bool true)], args := [d1, d2] }
  | _ => none }
def opBackRow : OpenClaim := { program := "ythaojdpeimlngaa", sum := "53c045b53b5f117405dd9b2c379a873a7edb4e5488f56b81ad23bb810a01c1bf", func := "glebe/glebelaw21.OpBack", spec := "opBack", unfollowed := true, recurses := true, apart := false }
def OpBackSaid : Prop := opBackRow.holds Try.pinned (OpenSpec.ofChange opBackSpec)

/-- ITS FALSE NEIGHBOUR: 'it returns false'. Refute it at one input. -/
def opBackWrong : ChangeSpec := { name := "opBack", fn := fun _ => fun
  | [d1, d2] => { results := [.lit (.bool false)], args := [d1, d2] }
  | _ => none }
def OpBackWrongFalsely : Prop := opBackRow.holds Try.pinned (OpenSpec.ofChange opBackWrong)

/-- 'glebelaw21.OpOnly': WHATEVER THE INPUT: true; the input reads as it did. -/
def opOnlySpec : ChangeSpec := { name := "opOnly", fn := fun _ => fun
  | [d] => { results := [.lit (.bool true)], args := [d] }
  | _ => none }
def opOnlyRow : OpenClaim := { program := "ythaojdpeimlngaa", sum := "53c045b53b5f117405dd9b2c379a873a7edb4e5488f56b81ad23bb810a01c1bf", func := "glebe/glebelaw21.OpOnly", spec := "opOnly", unfollowed := true, recurses := true, apart := false }
def OpOnlySaid : Prop := opOnlyRow.holds Try.pinned (OpenSpec.ofChange opOnlySpec)

/-- ITS FALSE NEIGHBOUR: 'it returns false'. Refute it at one input. -/
def opOnlyWrong : ChangeSpec := { name := "opOnly", fn := fun _ => fun
  | [d] => { results := [.lit (.bool false)], args := [d] }
  | _ => none }
def OpOnlyWrongFalsely : Prop := opOnlyRow.holds Try.pinned (OpenSpec.ofChange opOnlyWrong)

/-- 'glebelaw21.OpGets': WHATEVER THE INPUT: true; the input reads as it did. -/
def opGetsSpec : ChangeSpec := { name := "opGets", fn := fun _ => fun
  | [d] => { results := [.lit (.bool true)], args := [d] }
  | _ => none }
def opGetsRow : OpenClaim := { program := "ythaojdpeimlngaa", sum := "53c045b53b5f117405dd9b2c379a873a7edb4e5488f56b81ad23bb810a01c1bf", func := "glebe/glebelaw21.OpGets", spec := "opGets", unfollowed := true, recurses := true, apart := false }
def OpGetsSaid : Prop := opGetsRow.holds Try.pinned (OpenSpec.ofChange opGetsSpec)

/-- ITS FALSE NEIGHBOUR: 'it returns false'. Refute it at one input. -/
def opGetsWrong : ChangeSpec := { name := "opGets", fn := fun _ => fun
  | [d] => { results := [.lit (.bool false)], args := [d] }
  | _ => none }
def OpGetsWrongFalsely : Prop := opGetsRow.holds Try.pinned (OpenSpec.ofChange opGetsWrong)

/-- 'glebelaw21.OpKnown': WHATEVER THE INPUT: true; the input reads as it did. -/
def opKnownSpec : ChangeSpec := { name := "opKnown", fn := fun _ => fun
  | [] => { results := [.lit (.bool true)], args := [] }
  | _ => none }
def opKnownRow : OpenClaim := { program := "ythaojdpeimlngaa", sum := "53c045b53b5f117405dd9b2c379a873a7edb4e5488f56b81ad23bb810a01c1bf", func := "glebe/glebelaw21.OpKnown", spec := "opKnown", unfollowed := true, recurses := true, apart := false }
def OpKnownSaid : Prop := opKnownRow.holds Try.pinned (OpenSpec.ofChange opKnownSpec)

/-- ITS FALSE NEIGHBOUR: 'it returns false'. Refute it at one input. -/
def opKnownWrong : ChangeSpec := { name := "opKnown", fn := fun _ => fun
  | [] => { results := [.lit (.bool false)], args := [] }
  | _ => none }
def OpKnownWrongFalsely : Prop := opKnownRow.holds Try.pinned (OpenSpec.ofChange opKnownWrong)

/-- 'glebelaw21.OpResults': WHATEVER THE INPUT: true; the input reads as it did. -/
def opResultsSpec : ChangeSpec := { name := "opResults", fn := fun _ => fun
  | [d1, d2, d3] => { results := [.lit (.bool true)], args := [d1, d2, d3] }
  | _ => none }
def opResultsRow : OpenClaim := { program := "ythaojdpeimlngaa", sum := "53c045b53b5f117405dd9b2c379a873a7edb4e5488f56b81ad23bb810a01c1bf", func := "glebe/glebelaw21.OpResults", spec := "opResults", unfollowed := true, recurses := true, apart := false }
def OpResultsSaid : Prop := opResultsRow.holds Try.pinned (OpenSpec.ofChange opResultsSpec)

/-- ITS FALSE NEIGHBOUR: 'it returns false'. Refute it at one input. -/
def opResultsWrong : ChangeSpec := { name := "opResults", fn := fun _ => fun
  | [d1, d2, d3] => { results := [.lit (.bool false)], args := [d1, d2, d3] }
  | _ => none }
def OpResultsWrongFalsely : Prop := opResultsRow.holds Try.pinned (OpenSpec.ofChange opResultsWrong)

/- THE SECOND FORM. 'bulk': how many values and letters a reading holds, each counted each time it is reached (what is shared counts as often as it is met; a slice's spare places count too). A statement '..UptoSaid' is the law's where the arguments, and the package variables that the reading takes, are together of bulk at most 1048576: NARROWER than '..Said'. Prove '..Said' where nothing that the law and all that it calls make is longer than what came in: it says more and counts as full. Else prove '..UptoSaid'. A law counts once. -/
mutual
def uptoBulk {H : Type} : DataW H → Nat
  | .lit (.string bytes) => bytes.length + 1
  | .lit _ => 1
  | .nil => 1
  | .ptr d => uptoBulk d + 1
  | .slice elems spare => uptoBulkAll elems + uptoBulkAll spare + 1
  | .agg parts => uptoBulkAll parts + 1
  | .iface _ d => uptoBulk d + 1
  | .map entries => uptoBulkEntries entries + 1
  | .held _ => 1
def uptoBulkAll {H : Type} : List (DataW H) → Nat
  | [] => 0
  | d :: r => uptoBulk d + uptoBulkAll r
def uptoBulkEntries {H : Type} : List (Lit × DataW H) → Nat
  | [] => 0
  | x :: r => uptoBulkEntry x + uptoBulkEntries r
def uptoBulkEntry {H : Type} : Lit × DataW H → Nat
  | (.string bytes, d) => bytes.length + uptoBulk d + 1
  | (_, d) => uptoBulk d + 1
 end
def uptoSmall : (H : Type) → List (DataW H) → Bool := fun _ ds => decide (uptoBulkAll ds ≤ 1048576)
def OpenSpec.upto (s : _root_.Go.ChangeSpec) : _root_.Go.OpenSpec := { _root_.Go.OpenSpec.ofChange s with cond := some uptoSmall }

/-- 'glebelaw21.OpPuts', WHERE WHAT IT READS IS OF BULK AT MOST 1048576: true; the input reads as it did. -/
def opPutsUptoRow : OpenClaim := { program := "ythaojdpeimlngaa", sum := "53c045b53b5f117405dd9b2c379a873a7edb4e5488f56b81ad23bb810a01c1bf", func := "glebe/glebelaw21.OpPuts", spec := "opPuts", unfollowed := true, recurses := true, apart := false, narrowed := true }
def OpPutsUptoSaid : Prop := opPutsUptoRow.holds Try.pinned (OpenSpec.upto opPutsSpec)

/-- 'glebelaw21.OpBack', WHERE WHAT IT READS IS OF BULK AT MOST 1048576: true; the input reads as it did. -/
def opBackUptoRow : OpenClaim := { program := "ythaojdpeimlngaa", sum := "53c045b53b5f117405dd9b2c379a873a7edb4e5488f56b81ad23bb810a01c1bf", func := "glebe/glebelaw21.OpBack", spec := "opBack", unfollowed := true, recurses := true, apart := false, narrowed := true }
def OpBackUptoSaid : Prop := opBackUptoRow.holds Try.pinned (OpenSpec.upto opBackSpec)

/-- 'glebelaw21.OpOnly', WHERE WHAT IT READS IS OF BULK AT MOST 1048576: true; the input reads as it did. -/
def opOnlyUptoRow : OpenClaim := { program := "ythaojdpeimlngaa", sum := "53c045b53b5f117405dd9b2c379a873a7edb4e5488f56b81ad23bb810a01c1bf", func := "glebe/glebelaw21.OpOnly", spec := "opOnly", unfollowed := true, recurses := true, apart := false, narrowed := true }
def OpOnlyUptoSaid : Prop := opOnlyUptoRow.holds Try.pinned (OpenSpec.upto opOnlySpec)

/-- 'glebelaw21.OpGets', WHERE WHAT IT READS IS OF BULK AT MOST 1048576: true; the input reads as it did. -/
def opGetsUptoRow : OpenClaim := { program := "ythaojdpeimlngaa", sum := "53c045b53b5f117405dd9b2c379a873a7edb4e5488f56b81ad23bb810a01c1bf", func := "glebe/glebelaw21.OpGets", spec := "opGets", unfollowed := true, recurses := true, apart := false, narrowed := true }
def OpGetsUptoSaid : Prop := opGetsUptoRow.holds Try.pinned (OpenSpec.upto opGetsSpec)

/-- 'glebelaw21.OpKnown', WHERE WHAT IT READS IS OF BULK AT MOST 1048576: true; the input reads as it did. -/
def opKnownUptoRow : OpenClaim := { program := "ythaojdpeimlngaa", sum := "53c045b53b5f117405dd9b2c379a873a7edb4e5488f56b81ad23bb810a01c1bf", func := "glebe/glebelaw21.OpKnown", spec := "opKnown", unfollowed := true, recurses := true, apart := false, narrowed := true }
def OpKnownUptoSaid : Prop := opKnownUptoRow.holds Try.pinned (OpenSpec.upto opKnownSpec)

/-- 'glebelaw21.OpResults', WHERE WHAT IT READS IS OF BULK AT MOST 1048576: true; the input reads as it did. -/
def opResultsUptoRow : OpenClaim := { program := "ythaojdpeimlngaa", sum := "53c045b53b5f117405dd9b2c379a873a7edb4e5488f56b81ad23bb810a01c1bf", func := "glebe/glebelaw21.OpResults", spec := "opResults", unfollowed := true, recurses := true, apart := false, narrowed := true }
def OpResultsUptoSaid : Prop := opResultsUptoRow.holds Try.pinned (OpenSpec.upto opResultsSpec)

end Rows
end Go.Proofs.Ythaojdpeimlngaa
