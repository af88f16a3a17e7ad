/- PcommitEnds' walk, over its law. -/
import Derived.Test.YtjmddkaokmdkbaaTopC
import Derived.Test.YtjmddkaokmdkbaaLg
namespace Go.Proofs.Ytjmddkaokmdkbaa
open Go Go.ChangeShapes Go.WideShapes Go.ChangeAt Go.RowKit Kf
set_option maxRecDepth 20000
-- OPEN T56 1
-- OPEN S55 a,b,c u
-- the openings are TopC's: theorem open_T56 , theorem open_S55 
theorem pcommitEnds_walk (a b c : Int) (vl : Value) (l : List Mq) (kz : Int) (w : World) (r : Rg64 a ∧ Rg64 b ∧ Rg64 c) (h : Mqs w vl l ∧ MqIn l) (hz : -9223372036854775808 ≤ kz ∧ kz ≤ 9223372036854775807) : FnOk Try.prog 6 [agg [i64 a, i64 b, i64 c], vl, i64 kz] w (fun r w' => r = .bool true ∧ Ext w w') :=
  ends_walk lawE lawEnds a b c vl l kz w r.1 r.2.1 r.2.2 h.1 h.2 hz
end Go.Proofs.Ytjmddkaokmdkbaa
