/- A byte, handed in. -/
import Derived.Test.YtccbpfbcaogcnaaTopX
namespace Go.Proofs.Ytccbpfbcaogcnaa
open Go Go.ChangeShapes Go.WideShapes Go.ChangeAt Go.RowKit Kf
theorem u8_bounds {n : Int} (h : (Lit.int .u8 n).wf = true) : 0 ≤ n ∧ n ≤ 255 := by
  have h1 : IntKind.u8.min = 0 := rfl
  have h2 : IntKind.u8.max = 255 := rfl
  simp only [Lit.wf, Bool.and_eq_true, decide_eq_true_eq] at h
  omega
end Go.Proofs.Ytccbpfbcaogcnaa
