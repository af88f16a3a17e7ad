/-
  No cell of these rows narrows 'for every input' (looked for: loops, veiled, ifaces, maps, wideKeys, modest, calm, conditions, laid).
  DERIVED. THE GIVEN ROWS OF THIS SEAT. 4 by the template 'for every input the law returns true; each argument reads behind the call as it read before'; 0 by the template 'total and deterministic' (their statements: YtjmddkaokmdkbaaTotals.lean).
  GIVEN WITH THE SEED: the statements are not yours to turn. If you find one false, say at which input.
  Laid BY PROGRAM, IN A SANDBOX (cutbox-rows.mjs): the forced cells as the released guide's own fill.sh prints them over the translation 0a333f91c03b8388… (all of the seat's roots in one cut). By AI agents, Wed Nov 11 2026. No macro, syntax, notation, axiom, sorry.
-/
import Derived.Test.YtjmddkaokmdkbaaChecked
import GoSem.Claim
import GoSem.ClaimJoined
import GoSem.ClaimMapViews
import Derived.JoinedTies
import Derived.KernelRfl
namespace Go.Proofs.Ytjmddkaokmdkbaa
/- THE CELL 'sum', in the pinned program and in every row, IS THE sha256 OF THE DUMP (.gsa) THAT YtjmddkaokmdkbaaProg.lean LOADS. Nothing in Lean hashes anything: it is a label: what it is worth is what the hold of that sum in a sandbox is worth. -/
noncomputable def Try.pinned : Pinned := { name := "ytjmddkaokmdkbaa", sum := "0a333f91c03b8388ba1feab07cc928d18fb38a278b43c0c32ae4db2453df7fd8", checked := Try.checked }
namespace Rows
def none {H : Type} : Left H := { results := [], args := [] }

/-- 'glebelaw25.PcommitPlays': WHATEVER THE INPUT: true; the input reads as it did. -/
def pcommitPlaysSpec : ChangeSpec := { name := "pcommitPlays", fn := fun _ => fun
  | [d1, d2] => { results := [.lit (.bool true)], args := [d1, d2] }
  | _ => none }
def pcommitPlaysRow : OpenClaim := { program := "ytjmddkaokmdkbaa", sum := "0a333f91c03b8388ba1feab07cc928d18fb38a278b43c0c32ae4db2453df7fd8", func := "glebe/glebelaw25.PcommitPlays", spec := "pcommitPlays", unfollowed := true, recurses := true, plainKeys := false, apart := false }
def PcommitPlaysSaid : Prop := pcommitPlaysRow.holds Try.pinned (OpenSpec.ofChange pcommitPlaysSpec)

/-- ITS FALSE NEIGHBOUR: 'it returns false'. Refute it at one input. -/
def pcommitPlaysWrong : ChangeSpec := { name := "pcommitPlays", fn := fun _ => fun
  | [d1, d2] => { results := [.lit (.bool false)], args := [d1, d2] }
  | _ => none }
def PcommitPlaysWrongFalsely : Prop := pcommitPlaysRow.holds Try.pinned (OpenSpec.ofChange pcommitPlaysWrong)

/-- 'glebelaw25.PcommitKnown': WHATEVER THE INPUT: true; the input reads as it did. -/
def pcommitKnownSpec : ChangeSpec := { name := "pcommitKnown", fn := fun _ => fun
  | [] => { results := [.lit (.bool true)], args := [] }
  | _ => none }
def pcommitKnownRow : OpenClaim := { program := "ytjmddkaokmdkbaa", sum := "0a333f91c03b8388ba1feab07cc928d18fb38a278b43c0c32ae4db2453df7fd8", func := "glebe/glebelaw25.PcommitKnown", spec := "pcommitKnown", unfollowed := true, recurses := true, plainKeys := false, apart := false }
def PcommitKnownSaid : Prop := pcommitKnownRow.holds Try.pinned (OpenSpec.ofChange pcommitKnownSpec)

/-- ITS FALSE NEIGHBOUR: 'it returns false'. Refute it at one input. -/
def pcommitKnownWrong : ChangeSpec := { name := "pcommitKnown", fn := fun _ => fun
  | [] => { results := [.lit (.bool false)], args := [] }
  | _ => none }
def PcommitKnownWrongFalsely : Prop := pcommitKnownRow.holds Try.pinned (OpenSpec.ofChange pcommitKnownWrong)

/-- 'glebelaw25.PcommitOne': WHATEVER THE INPUT: true; the input reads as it did. -/
def pcommitOneSpec : ChangeSpec := { name := "pcommitOne", fn := fun _ => fun
  | [d1, d2] => { results := [.lit (.bool true)], args := [d1, d2] }
  | _ => none }
def pcommitOneRow : OpenClaim := { program := "ytjmddkaokmdkbaa", sum := "0a333f91c03b8388ba1feab07cc928d18fb38a278b43c0c32ae4db2453df7fd8", func := "glebe/glebelaw25.PcommitOne", spec := "pcommitOne", inPlace := ["slices.overlaps[glebe/api.Accepted]"], unfollowed := true, recurses := true, plainKeys := false, apart := false }
def PcommitOneSaid : Prop := pcommitOneRow.holds Try.pinned (OpenSpec.ofChange pcommitOneSpec)

/-- ITS FALSE NEIGHBOUR: 'it returns false'. Refute it at one input. -/
def pcommitOneWrong : ChangeSpec := { name := "pcommitOne", fn := fun _ => fun
  | [d1, d2] => { results := [.lit (.bool false)], args := [d1, d2] }
  | _ => none }
def PcommitOneWrongFalsely : Prop := pcommitOneRow.holds Try.pinned (OpenSpec.ofChange pcommitOneWrong)

/-- 'glebelaw25.PcommitEnds': WHATEVER THE INPUT: true; the input reads as it did. -/
def pcommitEndsSpec : ChangeSpec := { name := "pcommitEnds", fn := fun _ => fun
  | [d1, d2, d3] => { results := [.lit (.bool true)], args := [d1, d2, d3] }
  | _ => none }
def pcommitEndsRow : OpenClaim := { program := "ytjmddkaokmdkbaa", sum := "0a333f91c03b8388ba1feab07cc928d18fb38a278b43c0c32ae4db2453df7fd8", func := "glebe/glebelaw25.PcommitEnds", spec := "pcommitEnds", inPlace := ["slices.overlaps[glebe/api.Accepted]"], unfollowed := true, recurses := true, plainKeys := false, apart := false }
def PcommitEndsSaid : Prop := pcommitEndsRow.holds Try.pinned (OpenSpec.ofChange pcommitEndsSpec)

/-- ITS FALSE NEIGHBOUR: 'it returns false'. Refute it at one input. -/
def pcommitEndsWrong : ChangeSpec := { name := "pcommitEnds", fn := fun _ => fun
  | [d1, d2, d3] => { results := [.lit (.bool false)], args := [d1, d2, d3] }
  | _ => none }
def PcommitEndsWrongFalsely : Prop := pcommitEndsRow.holds Try.pinned (OpenSpec.ofChange pcommitEndsWrong)

/- THE SECOND FORM. 'bulk': how many values and letters a reading holds, each counted each time it is reached (what is shared counts as often as it is met; a slice's spare places count too). A statement '..UptoSaid' is the law's where the arguments, and the package variables that the reading takes, are together of bulk at most 1048576: NARROWER than '..Said'. Prove '..Said' where nothing that the law and all that it calls make is longer than what came in: it says more and counts as full. Else prove '..UptoSaid'. A law counts once. -/
mutual
def uptoBulk {H : Type} : DataW H → Nat
  | .lit (.string bytes) => bytes.length + 1
  | .lit _ => 1
  | .nil => 1
  | .ptr d => uptoBulk d + 1
  | .slice elems spare => uptoBulkAll elems + uptoBulkAll spare + 1
  | .agg parts => uptoBulkAll parts + 1
  | .iface _ d => uptoBulk d + 1
  | .map entries => uptoBulkEntries entries + 1
  | .held _ => 1
def uptoBulkAll {H : Type} : List (DataW H) → Nat
  | [] => 0
  | d :: r => uptoBulk d + uptoBulkAll r
def uptoBulkEntries {H : Type} : List (Lit × DataW H) → Nat
  | [] => 0
  | x :: r => uptoBulkEntry x + uptoBulkEntries r
def uptoBulkEntry {H : Type} : Lit × DataW H → Nat
  | (.string bytes, d) => bytes.length + uptoBulk d + 1
  | (_, d) => uptoBulk d + 1
 end
def uptoSmall : (H : Type) → List (DataW H) → Bool := fun _ ds => decide (uptoBulkAll ds ≤ 1048576)
def OpenSpec.upto (s : _root_.Go.ChangeSpec) : _root_.Go.OpenSpec := { _root_.Go.OpenSpec.ofChange s with cond := some uptoSmall }

/-- 'glebelaw25.PcommitPlays', WHERE WHAT IT READS IS OF BULK AT MOST 1048576: true; the input reads as it did. -/
def pcommitPlaysUptoRow : OpenClaim := { program := "ytjmddkaokmdkbaa", sum := "0a333f91c03b8388ba1feab07cc928d18fb38a278b43c0c32ae4db2453df7fd8", func := "glebe/glebelaw25.PcommitPlays", spec := "pcommitPlays", unfollowed := true, recurses := true, plainKeys := false, apart := false, narrowed := true }
def PcommitPlaysUptoSaid : Prop := pcommitPlaysUptoRow.holds Try.pinned (OpenSpec.upto pcommitPlaysSpec)

/-- 'glebelaw25.PcommitKnown', WHERE WHAT IT READS IS OF BULK AT MOST 1048576: true; the input reads as it did. -/
def pcommitKnownUptoRow : OpenClaim := { program := "ytjmddkaokmdkbaa", sum := "0a333f91c03b8388ba1feab07cc928d18fb38a278b43c0c32ae4db2453df7fd8", func := "glebe/glebelaw25.PcommitKnown", spec := "pcommitKnown", unfollowed := true, recurses := true, plainKeys := false, apart := false, narrowed := true }
def PcommitKnownUptoSaid : Prop := pcommitKnownUptoRow.holds Try.pinned (OpenSpec.upto pcommitKnownSpec)

/-- 'glebelaw25.PcommitOne', WHERE WHAT IT READS IS OF BULK AT MOST 1048576: true; the input reads as it did. -/
def pcommitOneUptoRow : OpenClaim := { program := "ytjmddkaokmdkbaa", sum := "0a333f91c03b8388ba1feab07cc928d18fb38a278b43c0c32ae4db2453df7fd8", func := "glebe/glebelaw25.PcommitOne", spec := "pcommitOne", inPlace := ["slices.overlaps[glebe/api.Accepted]"], unfollowed := true, recurses := true, plainKeys := false, apart := false, narrowed := true }
def PcommitOneUptoSaid : Prop := pcommitOneUptoRow.holds Try.pinned (OpenSpec.upto pcommitOneSpec)

/-- 'glebelaw25.PcommitEnds', WHERE WHAT IT READS IS OF BULK AT MOST 1048576: true; the input reads as it did. -/
def pcommitEndsUptoRow : OpenClaim := { program := "ytjmddkaokmdkbaa", sum := "0a333f91c03b8388ba1feab07cc928d18fb38a278b43c0c32ae4db2453df7fd8", func := "glebe/glebelaw25.PcommitEnds", spec := "pcommitEnds", inPlace := ["slices.overlaps[glebe/api.Accepted]"], unfollowed := true, recurses := true, plainKeys := false, apart := false, narrowed := true }
def PcommitEndsUptoSaid : Prop := pcommitEndsUptoRow.holds Try.pinned (OpenSpec.upto pcommitEndsSpec)

end Rows
end Go.Proofs.Ytjmddkaokmdkbaa
