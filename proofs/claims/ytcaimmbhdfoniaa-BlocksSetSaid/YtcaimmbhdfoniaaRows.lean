/-
  No cell of these rows narrows 'for every input' (looked for: loops, veiled, ifaces, maps, wideKeys, modest, calm, conditions, laid).
  DERIVED. THE GIVEN ROWS OF THIS SEAT. 7 by the template 'for every input the law returns true; each argument reads behind the call as it read before'; 0 by the template 'total and deterministic' (their statements: YtcaimmbhdfoniaaTotals.lean).
  GIVEN WITH THE SEED: the statements are not yours to turn. If you find one false, say at which input.
  Laid BY PROGRAM, IN A SANDBOX (cutbox-rows.mjs): the forced cells as the released guide's own fill.sh prints them over the translation 6485b85b54efc843… (all of the seat's roots in one cut). By AI agents, Wed Nov 11 2026. No macro, syntax, notation, axiom, sorry.
-/
import Derived.Test.YtcaimmbhdfoniaaChecked
import GoSem.Claim
import GoSem.ClaimJoined
import GoSem.ClaimMapViews
import Derived.JoinedTies
import Derived.KernelRfl
namespace Go.Proofs.Ytcaimmbhdfoniaa
/- THE CELL 'sum', in the pinned program and in every row, IS THE sha256 OF THE DUMP (.gsa) THAT YtcaimmbhdfoniaaProg.lean LOADS. Nothing in Lean hashes anything: it is a label: what it is worth is what the hold of that sum in a sandbox is worth. -/
noncomputable def Try.pinned : Pinned := { name := "ytcaimmbhdfoniaa", sum := "6485b85b54efc84396b33c4bc27861b8373c8e915bd07f4a214de793726e602f", checked := Try.checked }
namespace Rows
def none {H : Type} : Left H := { results := [], args := [] }

/-- 'glebelaw19.BlocksKeep': WHATEVER THE INPUT: true; the input reads as it did. -/
def blocksKeepSpec : ChangeSpec := { name := "blocksKeep", fn := fun _ => fun
  | [d1, d2, d3] => { results := [.lit (.bool true)], args := [d1, d2, d3] }
  | _ => none }
def blocksKeepRow : OpenClaim := { program := "ytcaimmbhdfoniaa", sum := "6485b85b54efc84396b33c4bc27861b8373c8e915bd07f4a214de793726e602f", func := "glebe/glebelaw19.BlocksKeep", spec := "blocksKeep", inPlace := ["slices.overlaps[glebe/api.Block]", "slices.overlaps[glebe/api.Kept]"], unfollowed := true, recurses := true, apart := false }
def BlocksKeepSaid : Prop := blocksKeepRow.holds Try.pinned (OpenSpec.ofChange blocksKeepSpec)

/-- ITS FALSE NEIGHBOUR: 'it returns false'. Refute it at one input. -/
def blocksKeepWrong : ChangeSpec := { name := "blocksKeep", fn := fun _ => fun
  | [d1, d2, d3] => { results := [.lit (.bool false)], args := [d1, d2, d3] }
  | _ => none }
def BlocksKeepWrongFalsely : Prop := blocksKeepRow.holds Try.pinned (OpenSpec.ofChange blocksKeepWrong)

/-- 'glebelaw19.BlocksSet': WHATEVER THE INPUT: true; the input reads as it did. -/
def blocksSetSpec : ChangeSpec := { name := "blocksSet", fn := fun _ => fun
  | [d] => { results := [.lit (.bool true)], args := [d] }
  | _ => none }
def blocksSetRow : OpenClaim := { program := "ytcaimmbhdfoniaa", sum := "6485b85b54efc84396b33c4bc27861b8373c8e915bd07f4a214de793726e602f", func := "glebe/glebelaw19.BlocksSet", spec := "blocksSet", inPlace := ["slices.overlaps[glebe/api.Block]", "slices.overlaps[glebe/api.Kept]"], unfollowed := true, recurses := true, apart := false }
def BlocksSetSaid : Prop := blocksSetRow.holds Try.pinned (OpenSpec.ofChange blocksSetSpec)

/-- ITS FALSE NEIGHBOUR: 'it returns false'. Refute it at one input. -/
def blocksSetWrong : ChangeSpec := { name := "blocksSet", fn := fun _ => fun
  | [d] => { results := [.lit (.bool false)], args := [d] }
  | _ => none }
def BlocksSetWrongFalsely : Prop := blocksSetRow.holds Try.pinned (OpenSpec.ofChange blocksSetWrong)

/-- 'glebelaw19.BlocksStay': WHATEVER THE INPUT: true; the input reads as it did. -/
def blocksStaySpec : ChangeSpec := { name := "blocksStay", fn := fun _ => fun
  | [d1, d2, d3] => { results := [.lit (.bool true)], args := [d1, d2, d3] }
  | _ => none }
def blocksStayRow : OpenClaim := { program := "ytcaimmbhdfoniaa", sum := "6485b85b54efc84396b33c4bc27861b8373c8e915bd07f4a214de793726e602f", func := "glebe/glebelaw19.BlocksStay", spec := "blocksStay", inPlace := ["slices.overlaps[glebe/api.Block]", "slices.overlaps[glebe/api.Kept]"], unfollowed := true, recurses := true, apart := false }
def BlocksStaySaid : Prop := blocksStayRow.holds Try.pinned (OpenSpec.ofChange blocksStaySpec)

/-- ITS FALSE NEIGHBOUR: 'it returns false'. Refute it at one input. -/
def blocksStayWrong : ChangeSpec := { name := "blocksStay", fn := fun _ => fun
  | [d1, d2, d3] => { results := [.lit (.bool false)], args := [d1, d2, d3] }
  | _ => none }
def BlocksStayWrongFalsely : Prop := blocksStayRow.holds Try.pinned (OpenSpec.ofChange blocksStayWrong)

/-- 'glebelaw19.BlocksJoin': WHATEVER THE INPUT: true; the input reads as it did. -/
def blocksJoinSpec : ChangeSpec := { name := "blocksJoin", fn := fun _ => fun
  | [d1, d2] => { results := [.lit (.bool true)], args := [d1, d2] }
  | _ => none }
def blocksJoinRow : OpenClaim := { program := "ytcaimmbhdfoniaa", sum := "6485b85b54efc84396b33c4bc27861b8373c8e915bd07f4a214de793726e602f", func := "glebe/glebelaw19.BlocksJoin", spec := "blocksJoin", inPlace := ["slices.overlaps[glebe/api.Block]", "slices.overlaps[glebe/api.Kept]"], unfollowed := true, recurses := true, apart := false }
def BlocksJoinSaid : Prop := blocksJoinRow.holds Try.pinned (OpenSpec.ofChange blocksJoinSpec)

/-- ITS FALSE NEIGHBOUR: 'it returns false'. Refute it at one input. -/
def blocksJoinWrong : ChangeSpec := { name := "blocksJoin", fn := fun _ => fun
  | [d1, d2] => { results := [.lit (.bool false)], args := [d1, d2] }
  | _ => none }
def BlocksJoinWrongFalsely : Prop := blocksJoinRow.holds Try.pinned (OpenSpec.ofChange blocksJoinWrong)

/-- 'glebelaw19.BlocksTell': WHATEVER THE INPUT: true; the input reads as it did. -/
def blocksTellSpec : ChangeSpec := { name := "blocksTell", fn := fun _ => fun
  | [d1, d2, d3] => { results := [.lit (.bool true)], args := [d1, d2, d3] }
  | _ => none }
def blocksTellRow : OpenClaim := { program := "ytcaimmbhdfoniaa", sum := "6485b85b54efc84396b33c4bc27861b8373c8e915bd07f4a214de793726e602f", func := "glebe/glebelaw19.BlocksTell", spec := "blocksTell", inPlace := ["slices.overlaps[glebe/api.Block]", "slices.overlaps[glebe/api.Kept]"], unfollowed := true, recurses := true, apart := false }
def BlocksTellSaid : Prop := blocksTellRow.holds Try.pinned (OpenSpec.ofChange blocksTellSpec)

/-- ITS FALSE NEIGHBOUR: 'it returns false'. Refute it at one input. -/
def blocksTellWrong : ChangeSpec := { name := "blocksTell", fn := fun _ => fun
  | [d1, d2, d3] => { results := [.lit (.bool false)], args := [d1, d2, d3] }
  | _ => none }
def BlocksTellWrongFalsely : Prop := blocksTellRow.holds Try.pinned (OpenSpec.ofChange blocksTellWrong)

/-- 'glebelaw19.BlocksKnown': WHATEVER THE INPUT: true; the input reads as it did. -/
def blocksKnownSpec : ChangeSpec := { name := "blocksKnown", fn := fun _ => fun
  | [] => { results := [.lit (.bool true)], args := [] }
  | _ => none }
def blocksKnownRow : OpenClaim := { program := "ytcaimmbhdfoniaa", sum := "6485b85b54efc84396b33c4bc27861b8373c8e915bd07f4a214de793726e602f", func := "glebe/glebelaw19.BlocksKnown", spec := "blocksKnown", inPlace := ["slices.overlaps[glebe/api.Block]", "slices.overlaps[glebe/api.Kept]"], unfollowed := true, recurses := true, apart := false }
def BlocksKnownSaid : Prop := blocksKnownRow.holds Try.pinned (OpenSpec.ofChange blocksKnownSpec)

/-- ITS FALSE NEIGHBOUR: 'it returns false'. Refute it at one input. -/
def blocksKnownWrong : ChangeSpec := { name := "blocksKnown", fn := fun _ => fun
  | [] => { results := [.lit (.bool false)], args := [] }
  | _ => none }
def BlocksKnownWrongFalsely : Prop := blocksKnownRow.holds Try.pinned (OpenSpec.ofChange blocksKnownWrong)

/-- 'glebelaw19.BlocksParted': WHATEVER THE INPUT: true; the input reads as it did. -/
def blocksPartedSpec : ChangeSpec := { name := "blocksParted", fn := fun _ => fun
  | [d1, d2, d3] => { results := [.lit (.bool true)], args := [d1, d2, d3] }
  | _ => none }
def blocksPartedRow : OpenClaim := { program := "ytcaimmbhdfoniaa", sum := "6485b85b54efc84396b33c4bc27861b8373c8e915bd07f4a214de793726e602f", func := "glebe/glebelaw19.BlocksParted", spec := "blocksParted", inPlace := ["slices.overlaps[glebe/api.Block]", "slices.overlaps[glebe/api.Kept]"], unfollowed := true, recurses := true, apart := false }
def BlocksPartedSaid : Prop := blocksPartedRow.holds Try.pinned (OpenSpec.ofChange blocksPartedSpec)

/-- ITS FALSE NEIGHBOUR: 'it returns false'. Refute it at one input. -/
def blocksPartedWrong : ChangeSpec := { name := "blocksParted", fn := fun _ => fun
  | [d1, d2, d3] => { results := [.lit (.bool false)], args := [d1, d2, d3] }
  | _ => none }
def BlocksPartedWrongFalsely : Prop := blocksPartedRow.holds Try.pinned (OpenSpec.ofChange blocksPartedWrong)

/- THE SECOND FORM. 'bulk': how many values and letters a reading holds, each counted each time it is reached (what is shared counts as often as it is met; a slice's spare places count too). A statement '..UptoSaid' is the law's where the arguments, and the package variables that the reading takes, are together of bulk at most 1048576: NARROWER than '..Said'. Prove '..Said' where nothing that the law and all that it calls make is longer than what came in: it says more and counts as full. Else prove '..UptoSaid'. A law counts once. -/
mutual
def uptoBulk {H : Type} : DataW H → Nat
  | .lit (.string bytes) => bytes.length + 1
  | .lit _ => 1
  | .nil => 1
  | .ptr d => uptoBulk d + 1
  | .slice elems spare => uptoBulkAll elems + uptoBulkAll spare + 1
  | .agg parts => uptoBulkAll parts + 1
  | .iface _ d => uptoBulk d + 1
  | .map entries => uptoBulkEntries entries + 1
  | .held _ => 1
def uptoBulkAll {H : Type} : List (DataW H) → Nat
  | [] => 0
  | d :: r => uptoBulk d + uptoBulkAll r
def uptoBulkEntries {H : Type} : List (Lit × DataW H) → Nat
  | [] => 0
  | x :: r => uptoBulkEntry x + uptoBulkEntries r
def uptoBulkEntry {H : Type} : Lit × DataW H → Nat
  | (.string bytes, d) => bytes.length + uptoBulk d + 1
  | (_, d) => uptoBulk d + 1
 end
def uptoSmall : (H : Type) → List (DataW H) → Bool := fun _ ds => decide (uptoBulkAll ds ≤ 1048576)
def OpenSpec.upto (s : _root_.Go.ChangeSpec) : _root_.Go.OpenSpec := { _root_.Go.OpenSpec.ofChange s with cond := some uptoSmall }

/-- 'glebelaw19.BlocksKeep', WHERE WHAT IT READS IS OF BULK AT MOST 1048576: true; the input reads as it did. -/
def blocksKeepUptoRow : OpenClaim := { program := "ytcaimmbhdfoniaa", sum := "6485b85b54efc84396b33c4bc27861b8373c8e915bd07f4a214de793726e602f", func := "glebe/glebelaw19.BlocksKeep", spec := "blocksKeep", inPlace := ["slices.overlaps[glebe/api.Block]", "slices.overlaps[glebe/api.Kept]"], unfollowed := true, recurses := true, apart := false, narrowed := true }
def BlocksKeepUptoSaid : Prop := blocksKeepUptoRow.holds Try.pinned (OpenSpec.upto blocksKeepSpec)

/-- 'glebelaw19.BlocksSet', WHERE WHAT IT READS IS OF BULK AT MOST 1048576: true; the input reads as it did. -/
def blocksSetUptoRow : OpenClaim := { program := "ytcaimmbhdfoniaa", sum := "6485b85b54efc84396b33c4bc27861b8373c8e915bd07f4a214de793726e602f", func := "glebe/glebelaw19.BlocksSet", spec := "blocksSet", inPlace := ["slices.overlaps[glebe/api.Block]", "slices.overlaps[glebe/api.Kept]"], unfollowed := true, recurses := true, apart := false, narrowed := true }
def BlocksSetUptoSaid : Prop := blocksSetUptoRow.holds Try.pinned (OpenSpec.upto blocksSetSpec)

/-- 'glebelaw19.BlocksStay', WHERE WHAT IT READS IS OF BULK AT MOST 1048576: true; the input reads as it did. -/
def blocksStayUptoRow : OpenClaim := { program := "ytcaimmbhdfoniaa", sum := "6485b85b54efc84396b33c4bc27861b8373c8e915bd07f4a214de793726e602f", func := "glebe/glebelaw19.BlocksStay", spec := "blocksStay", inPlace := ["slices.overlaps[glebe/api.Block]", "slices.overlaps[glebe/api.Kept]"], unfollowed := true, recurses := true, apart := false, narrowed := true }
def BlocksStayUptoSaid : Prop := blocksStayUptoRow.holds Try.pinned (OpenSpec.upto blocksStaySpec)

/-- 'glebelaw19.BlocksJoin', WHERE WHAT IT READS IS OF BULK AT MOST 1048576: true; the input reads as it did. -/
def blocksJoinUptoRow : OpenClaim := { program := "ytcaimmbhdfoniaa", sum := "6485b85b54efc84396b33c4bc27861b8373c8e915bd07f4a214de793726e602f", func := "glebe/glebelaw19.BlocksJoin", spec := "blocksJoin", inPlace := ["slices.overlaps[glebe/api.Block]", "slices.overlaps[glebe/api.Kept]"], unfollowed := true, recurses := true, apart := false, narrowed := true }
def BlocksJoinUptoSaid : Prop := blocksJoinUptoRow.holds Try.pinned (OpenSpec.upto blocksJoinSpec)

/-- 'glebelaw19.BlocksTell', WHERE WHAT IT READS IS OF BULK AT MOST 1048576: true; the input reads as it did. -/
def blocksTellUptoRow : OpenClaim := { program := "ytcaimmbhdfoniaa", sum := "6485b85b54efc84396b33c4bc27861b8373c8e915bd07f4a214de793726e602f", func := "glebe/glebelaw19.BlocksTell", spec := "blocksTell", inPlace := ["slices.overlaps[glebe/api.Block]", "slices.overlaps[glebe/api.Kept]"], unfollowed := true, recurses := true, apart := false, narrowed := true }
def BlocksTellUptoSaid : Prop := blocksTellUptoRow.holds Try.pinned (OpenSpec.upto blocksTellSpec)

/-- 'glebelaw19.BlocksKnown', WHERE WHAT IT READS IS OF BULK AT MOST 1048576: true; the input reads as it did. -/
def blocksKnownUptoRow : OpenClaim := { program := "ytcaimmbhdfoniaa", sum := "6485b85b54efc84396b33c4bc27861b8373c8e915bd07f4a214de793726e602f", func := "glebe/glebelaw19.BlocksKnown", spec := "blocksKnown", inPlace := ["slices.overlaps[glebe/api.Block]", "slices.overlaps[glebe/api.Kept]"], unfollowed := true, recurses := true, apart := false, narrowed := true }
def BlocksKnownUptoSaid : Prop := blocksKnownUptoRow.holds Try.pinned (OpenSpec.upto blocksKnownSpec)

/-- 'glebelaw19.BlocksParted', WHERE WHAT IT READS IS OF BULK AT MOST 1048576: true; the input reads as it did. -/
def blocksPartedUptoRow : OpenClaim := { program := "ytcaimmbhdfoniaa", sum := "6485b85b54efc84396b33c4bc27861b8373c8e915bd07f4a214de793726e602f", func := "glebe/glebelaw19.BlocksParted", spec := "blocksParted", inPlace := ["slices.overlaps[glebe/api.Block]", "slices.overlaps[glebe/api.Kept]"], unfollowed := true, recurses := true, apart := false, narrowed := true }
def BlocksPartedUptoSaid : Prop := blocksPartedUptoRow.holds Try.pinned (OpenSpec.upto blocksPartedSpec)

end Rows
end Go.Proofs.Ytcaimmbhdfoniaa
