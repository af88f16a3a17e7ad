/-
  No cell of these rows narrows 'for every input' (looked for: loops, veiled, ifaces, maps, wideKeys, modest, calm, conditions, laid).
  DERIVED. THE GIVEN ROWS OF THIS SEAT. 8 by the template 'for every input the law returns true; each argument reads behind the call as it read before'; 0 by the template 'total and deterministic' (their statements: YtpimnlgfhpnjnaaTotals.lean).
  GIVEN WITH THE SEED: the statements are not yours to turn. If you find one false, say at which input.
  Laid BY PROGRAM, IN A SANDBOX (cutbox-rows.mjs): the forced cells as the released guide's own fill.sh prints them over the translation 0b88cdcf6d486dbf… (all of the seat's roots in one cut). By AI agents, Wed Nov 11 2026. No macro, syntax, notation, axiom, sorry.
-/
import Derived.Test.YtpimnlgfhpnjnaaChecked
import GoSem.Claim
import GoSem.ClaimJoined
import GoSem.ClaimMapViews
import Derived.JoinedTies
import Derived.KernelRfl
namespace Go.Proofs.Ytpimnlgfhpnjnaa
/- THE CELL 'sum', in the pinned program and in every row, IS THE sha256 OF THE DUMP (.gsa) THAT YtpimnlgfhpnjnaaProg.lean LOADS. Nothing in Lean hashes anything: it is a label: what it is worth is what the hold of that sum in a sandbox is worth. -/
noncomputable def Try.pinned : Pinned := { name := "ytpimnlgfhpnjnaa", sum := "0b88cdcf6d486dbfa390abad2f98d77cd67697e1ff971f3502f55b38463f0294", checked := Try.checked }
namespace Rows
def none {H : Type} : Left H := { results := [], args := [] }

/-- 'glebelaw23.RangesMove': WHATEVER THE INPUT: true; the input reads as it did. -/
def rangesMoveSpec : ChangeSpec := { name := "rangesMove", fn := fun _ => fun
  | [d1, d2] => { results := [.lit (.bool true)], args := [d1, d2] }
  | _ => none }
def rangesMoveRow : OpenClaim := { program := "ytpimnlgfhpnjnaa", sum := "0b88cdcf6d486dbfa390abad2f98d77cd67697e1ff971f3502f55b38463f0294", func := "glebe/glebelaw23.RangesMove", spec := "rangesMove", unfollowed := true, recurses := true, apart := false }
def RangesMoveSaid : Prop := rangesMoveRow.holds Try.pinned (OpenSpec.ofChange rangesMoveSpec)

/-- ITS FALSE NEIGHBOUR: 'it returns false'. Refute it at one input. -/
def rangesMoveWrong : ChangeSpec := { name := "rangesMove", fn := fun _ => fun
  | [d1, d2] => { results := [.lit (.bool false)], args := [d1, d2] }
  | _ => none }
def RangesMoveWrongFalsely : Prop := rangesMoveRow.holds Try.pinned (OpenSpec.ofChange rangesMoveWrong)

/-- 'glebelaw23.RangesCovered': WHATEVER THE INPUT: true; the input reads as it did. -/
def rangesCoveredSpec : ChangeSpec := { name := "rangesCovered", fn := fun _ => fun
  | [d1, d2] => { results := [.lit (.bool true)], args := [d1, d2] }
  | _ => none }
def rangesCoveredRow : OpenClaim := { program := "ytpimnlgfhpnjnaa", sum := "0b88cdcf6d486dbfa390abad2f98d77cd67697e1ff971f3502f55b38463f0294", func := "glebe/glebelaw23.RangesCovered", spec := "rangesCovered", unfollowed := true, recurses := true, apart := false }
def RangesCoveredSaid : Prop := rangesCoveredRow.holds Try.pinned (OpenSpec.ofChange rangesCoveredSpec)

/-- ITS FALSE NEIGHBOUR: 'it returns false'. Refute it at one input. -/
def rangesCoveredWrong : ChangeSpec := { name := "rangesCovered", fn := fun _ => fun
  | [d1, d2] => { results := [.lit (.bool false)], args := [d1, d2] }
  | _ => none }
def RangesCoveredWrongFalsely : Prop := rangesCoveredRow.holds Try.pinned (OpenSpec.ofChange rangesCoveredWrong)

/-- 'glebelaw23.RangesCheck': WHATEVER THE INPUT: true; the input reads as it did. -/
def rangesCheckSpec : ChangeSpec := { name := "rangesCheck", fn := fun _ => fun
  | [d1, d2] => { results := [.lit (.bool true)], args := [d1, d2] }
  | _ => none }
def rangesCheckRow : OpenClaim := { program := "ytpimnlgfhpnjnaa", sum := "0b88cdcf6d486dbfa390abad2f98d77cd67697e1ff971f3502f55b38463f0294", func := "glebe/glebelaw23.RangesCheck", spec := "rangesCheck", unfollowed := true, recurses := true, apart := false }
def RangesCheckSaid : Prop := rangesCheckRow.holds Try.pinned (OpenSpec.ofChange rangesCheckSpec)

/-- ITS FALSE NEIGHBOUR: 'it returns false'. Refute it at one input. -/
def rangesCheckWrong : ChangeSpec := { name := "rangesCheck", fn := fun _ => fun
  | [d1, d2] => { results := [.lit (.bool false)], args := [d1, d2] }
  | _ => none }
def RangesCheckWrongFalsely : Prop := rangesCheckRow.holds Try.pinned (OpenSpec.ofChange rangesCheckWrong)

/-- 'glebelaw23.RangesRead': WHATEVER THE INPUT: true; the input reads as it did. -/
def rangesReadSpec : ChangeSpec := { name := "rangesRead", fn := fun _ => fun
  | [d1, d2] => { results := [.lit (.bool true)], args := [d1, d2] }
  | _ => none }
def rangesReadRow : OpenClaim := { program := "ytpimnlgfhpnjnaa", sum := "0b88cdcf6d486dbfa390abad2f98d77cd67697e1ff971f3502f55b38463f0294", func := "glebe/glebelaw23.RangesRead", spec := "rangesRead", unfollowed := true, recurses := true, apart := false }
def RangesReadSaid : Prop := rangesReadRow.holds Try.pinned (OpenSpec.ofChange rangesReadSpec)

/-- ITS FALSE NEIGHBOUR: 'it returns false'. Refute it at one input. -/
def rangesReadWrong : ChangeSpec := { name := "rangesRead", fn := fun _ => fun
  | [d1, d2] => { results := [.lit (.bool false)], args := [d1, d2] }
  | _ => none }
def RangesReadWrongFalsely : Prop := rangesReadRow.holds Try.pinned (OpenSpec.ofChange rangesReadWrong)

/-- 'glebelaw23.RangesBack': WHATEVER THE INPUT: true; the input reads as it did. -/
def rangesBackSpec : ChangeSpec := { name := "rangesBack", fn := fun _ => fun
  | [d1, d2, d3] => { results := [.lit (.bool true)], args := [d1, d2, d3] }
  | _ => none }
def rangesBackRow : OpenClaim := { program := "ytpimnlgfhpnjnaa", sum := "0b88cdcf6d486dbfa390abad2f98d77cd67697e1ff971f3502f55b38463f0294", func := "glebe/glebelaw23.RangesBack", spec := "rangesBack", unfollowed := true, recurses := true, apart := false }
def RangesBackSaid : Prop := rangesBackRow.holds Try.pinned (OpenSpec.ofChange rangesBackSpec)

/-- ITS FALSE NEIGHBOUR: 'it returns false'. Refute it at one input. -/
def rangesBackWrong : ChangeSpec := { name := "rangesBack", fn := fun _ => fun
  | [d1, d2, d3] => { results := [.lit (.bool false)], args := [d1, d2, d3] }
  | _ => none }
def RangesBackWrongFalsely : Prop := rangesBackRow.holds Try.pinned (OpenSpec.ofChange rangesBackWrong)

/-- 'glebelaw23.RangesApply': WHATEVER THE INPUT: true; the input reads as it did. -/
def rangesApplySpec : ChangeSpec := { name := "rangesApply", fn := fun _ => fun
  | [d1, d2] => { results := [.lit (.bool true)], args := [d1, d2] }
  | _ => none }
def rangesApplyRow : OpenClaim := { program := "ytpimnlgfhpnjnaa", sum := "0b88cdcf6d486dbfa390abad2f98d77cd67697e1ff971f3502f55b38463f0294", func := "glebe/glebelaw23.RangesApply", spec := "rangesApply", inPlace := ["slices.overlaps[glebe/api.Session]"], unfollowed := true, recurses := true, apart := false }
def RangesApplySaid : Prop := rangesApplyRow.holds Try.pinned (OpenSpec.ofChange rangesApplySpec)

/-- ITS FALSE NEIGHBOUR: 'it returns false'. Refute it at one input. -/
def rangesApplyWrong : ChangeSpec := { name := "rangesApply", fn := fun _ => fun
  | [d1, d2] => { results := [.lit (.bool false)], args := [d1, d2] }
  | _ => none }
def RangesApplyWrongFalsely : Prop := rangesApplyRow.holds Try.pinned (OpenSpec.ofChange rangesApplyWrong)

/-- 'glebelaw23.RangesOnce': WHATEVER THE INPUT: true; the input reads as it did. -/
def rangesOnceSpec : ChangeSpec := { name := "rangesOnce", fn := fun _ => fun
  | [d1, d2] => { results := [.lit (.bool true)], args := [d1, d2] }
  | _ => none }
def rangesOnceRow : OpenClaim := { program := "ytpimnlgfhpnjnaa", sum := "0b88cdcf6d486dbfa390abad2f98d77cd67697e1ff971f3502f55b38463f0294", func := "glebe/glebelaw23.RangesOnce", spec := "rangesOnce", inPlace := ["slices.overlaps[glebe/api.Session]"], unfollowed := true, recurses := true, apart := false }
def RangesOnceSaid : Prop := rangesOnceRow.holds Try.pinned (OpenSpec.ofChange rangesOnceSpec)

/-- ITS FALSE NEIGHBOUR: 'it returns false'. Refute it at one input. -/
def rangesOnceWrong : ChangeSpec := { name := "rangesOnce", fn := fun _ => fun
  | [d1, d2] => { results := [.lit (.bool false)], args := [d1, d2] }
  | _ => none }
def RangesOnceWrongFalsely : Prop := rangesOnceRow.holds Try.pinned (OpenSpec.ofChange rangesOnceWrong)

/-- 'glebelaw23.RangesKnown': WHATEVER THE INPUT: true; the input reads as it did. -/
def rangesKnownSpec : ChangeSpec := { name := "rangesKnown", fn := fun _ => fun
  | [] => { results := [.lit (.bool true)], args := [] }
  | _ => none }
def rangesKnownRow : OpenClaim := { program := "ytpimnlgfhpnjnaa", sum := "0b88cdcf6d486dbfa390abad2f98d77cd67697e1ff971f3502f55b38463f0294", func := "glebe/glebelaw23.RangesKnown", spec := "rangesKnown", inPlace := ["slices.overlaps[glebe/api.Session]"], unfollowed := true, recurses := true, apart := false }
def RangesKnownSaid : Prop := rangesKnownRow.holds Try.pinned (OpenSpec.ofChange rangesKnownSpec)

/-- ITS FALSE NEIGHBOUR: 'it returns false'. Refute it at one input. -/
def rangesKnownWrong : ChangeSpec := { name := "rangesKnown", fn := fun _ => fun
  | [] => { results := [.lit (.bool false)], args := [] }
  | _ => none }
def RangesKnownWrongFalsely : Prop := rangesKnownRow.holds Try.pinned (OpenSpec.ofChange rangesKnownWrong)

/- THE SECOND FORM. 'bulk': how many values and letters a reading holds, each counted each time it is reached (what is shared counts as often as it is met; a slice's spare places count too). A statement '..UptoSaid' is the law's where the arguments, and the package variables that the reading takes, are together of bulk at most 1048576: NARROWER than '..Said'. Prove '..Said' where nothing that the law and all that it calls make is longer than what came in: it says more and counts as full. Else prove '..UptoSaid'. A law counts once. -/
mutual
def uptoBulk {H : Type} : DataW H → Nat
  | .lit (.string bytes) => bytes.length + 1
  | .lit _ => 1
  | .nil => 1
  | .ptr d => uptoBulk d + 1
  | .slice elems spare => uptoBulkAll elems + uptoBulkAll spare + 1
  | .agg parts => uptoBulkAll parts + 1
  | .iface _ d => uptoBulk d + 1
  | .map entries => uptoBulkEntries entries + 1
  | .held _ => 1
def uptoBulkAll {H : Type} : List (DataW H) → Nat
  | [] => 0
  | d :: r => uptoBulk d + uptoBulkAll r
def uptoBulkEntries {H : Type} : List (Lit × DataW H) → Nat
  | [] => 0
  | x :: r => uptoBulkEntry x + uptoBulkEntries r
def uptoBulkEntry {H : Type} : Lit × DataW H → Nat
  | (.string bytes, d) => bytes.length + uptoBulk d + 1
  | (_, d) => uptoBulk d + 1
 end
def uptoSmall : (H : Type) → List (DataW H) → Bool := fun _ ds => decide (uptoBulkAll ds ≤ 1048576)
def OpenSpec.upto (s : _root_.Go.ChangeSpec) : _root_.Go.OpenSpec := { _root_.Go.OpenSpec.ofChange s with cond := some uptoSmall }

/-- 'glebelaw23.RangesMove', WHERE WHAT IT READS IS OF BULK AT MOST 1048576: true; the input reads as it did. -/
def rangesMoveUptoRow : OpenClaim := { program := "ytpimnlgfhpnjnaa", sum := "0b88cdcf6d486dbfa390abad2f98d77cd67697e1ff971f3502f55b38463f0294", func := "glebe/glebelaw23.RangesMove", spec := "rangesMove", unfollowed := true, recurses := true, apart := false, narrowed := true }
def RangesMoveUptoSaid : Prop := rangesMoveUptoRow.holds Try.pinned (OpenSpec.upto rangesMoveSpec)

/-- 'glebelaw23.RangesCovered', WHERE WHAT IT READS IS OF BULK AT MOST 1048576: true; the input reads as it did. -/
def rangesCoveredUptoRow : OpenClaim := { program := "ytpimnlgfhpnjnaa", sum := "0b88cdcf6d486dbfa390abad2f98d77cd67697e1ff971f3502f55b38463f0294", func := "glebe/glebelaw23.RangesCovered", spec := "rangesCovered", unfollowed := true, recurses := true, apart := false, narrowed := true }
def RangesCoveredUptoSaid : Prop := rangesCoveredUptoRow.holds Try.pinned (OpenSpec.upto rangesCoveredSpec)

/-- 'glebelaw23.RangesCheck', WHERE WHAT IT READS IS OF BULK AT MOST 1048576: true; the input reads as it did. -/
def rangesCheckUptoRow : OpenClaim := { program := "ytpimnlgfhpnjnaa", sum := "0b88cdcf6d486dbfa390abad2f98d77cd67697e1ff971f3502f55b38463f0294", func := "glebe/glebelaw23.RangesCheck", spec := "rangesCheck", unfollowed := true, recurses := true, apart := false, narrowed := true }
def RangesCheckUptoSaid : Prop := rangesCheckUptoRow.holds Try.pinned (OpenSpec.upto rangesCheckSpec)

/-- 'glebelaw23.RangesRead', WHERE WHAT IT READS IS OF BULK AT MOST 1048576: true; the input reads as it did. -/
def rangesReadUptoRow : OpenClaim := { program := "ytpimnlgfhpnjnaa", sum := "0b88cdcf6d486dbfa390abad2f98d77cd67697e1ff971f3502f55b38463f0294", func := "glebe/glebelaw23.RangesRead", spec := "rangesRead", unfollowed := true, recurses := true, apart := false, narrowed := true }
def RangesReadUptoSaid : Prop := rangesReadUptoRow.holds Try.pinned (OpenSpec.upto rangesReadSpec)

/-- 'glebelaw23.RangesBack', WHERE WHAT IT READS IS OF BULK AT MOST 1048576: true; the input reads as it did. -/
def rangesBackUptoRow : OpenClaim := { program := "ytpimnlgfhpnjnaa", sum := "0b88cdcf6d486dbfa390abad2f98d77cd67697e1ff971f3502f55b38463f0294", func := "glebe/glebelaw23.RangesBack", spec := "rangesBack", unfollowed := true, recurses := true, apart := false, narrowed := true }
def RangesBackUptoSaid : Prop := rangesBackUptoRow.holds Try.pinned (OpenSpec.upto rangesBackSpec)

/-- 'glebelaw23.RangesApply', WHERE WHAT IT READS IS OF BULK AT MOST 1048576: true; the input reads as it did. -/
def rangesApplyUptoRow : OpenClaim := { program := "ytpimnlgfhpnjnaa", sum := "0b88cdcf6d486dbfa390abad2f98d77cd67697e1ff971f3502f55b38463f0294", func := "glebe/glebelaw23.RangesApply", spec := "rangesApply", inPlace := ["slices.overlaps[glebe/api.Session]"], unfollowed := true, recurses := true, apart := false, narrowed := true }
def RangesApplyUptoSaid : Prop := rangesApplyUptoRow.holds Try.pinned (OpenSpec.upto rangesApplySpec)

/-- 'glebelaw23.RangesOnce', WHERE WHAT IT READS IS OF BULK AT MOST 1048576: true; the input reads as it did. -/
def rangesOnceUptoRow : OpenClaim := { program := "ytpimnlgfhpnjnaa", sum := "0b88cdcf6d486dbfa390abad2f98d77cd67697e1ff971f3502f55b38463f0294", func := "glebe/glebelaw23.RangesOnce", spec := "rangesOnce", inPlace := ["slices.overlaps[glebe/api.Session]"], unfollowed := true, recurses := true, apart := false, narrowed := true }
def RangesOnceUptoSaid : Prop := rangesOnceUptoRow.holds Try.pinned (OpenSpec.upto rangesOnceSpec)

/-- 'glebelaw23.RangesKnown', WHERE WHAT IT READS IS OF BULK AT MOST 1048576: true; the input reads as it did. -/
def rangesKnownUptoRow : OpenClaim := { program := "ytpimnlgfhpnjnaa", sum := "0b88cdcf6d486dbfa390abad2f98d77cd67697e1ff971f3502f55b38463f0294", func := "glebe/glebelaw23.RangesKnown", spec := "rangesKnown", inPlace := ["slices.overlaps[glebe/api.Session]"], unfollowed := true, recurses := true, apart := false, narrowed := true }
def RangesKnownUptoSaid : Prop := rangesKnownUptoRow.holds Try.pinned (OpenSpec.upto rangesKnownSpec)

end Rows
end Go.Proofs.Ytpimnlgfhpnjnaa
