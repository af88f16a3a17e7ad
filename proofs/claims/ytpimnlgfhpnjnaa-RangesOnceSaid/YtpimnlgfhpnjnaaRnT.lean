/- Alike things are told alike. -/
import Derived.Test.YtpimnlgfhpnjnaaRnR
namespace Go.Proofs.Ytpimnlgfhpnjnaa
open Go Go.RowKit Kf
set_option maxRecDepth 20000

theorem sameDir_self {a b : Dr} {va ua vb ub : Value} {w : World} (ha : DAt w va ua a) (hb : DAt w vb ub b) (e : a = b) : FnOk Try.prog 36 [agg (a.c va ua), agg (b.c vb ub)] w (fun r w' => r = .bool true ∧ Ext w w') := by
  have := sameDir_ok a b va ua vb ub w ha hb
  rwa [decide_eq_true e] at this
theorem sameRes_self {a b : Int} {va vb : Value} {la lb : List UInt8} {w : World} (ha : Bytes w va la) (hb : Bytes w vb lb) (e : a = b ∧ la = lb) : FnOk Try.prog 47 [agg [i64 a, va], agg [i64 b, vb]] w (fun r w' => r = .bool true ∧ Ext w w') := by
  have := Se.sameResult_ok a b va vb la lb w ha hb
  rwa [decide_eq_true e] at this
theorem sameOp_self {a1 a2 a3 a4 b1 b2 b3 b4 : Value} {o : Op.Od} {w : World} (ha : Op.OpAt w a1 a2 a3 a4 o) (hb : Op.OpAt w b1 b2 b3 b4 o) : FnOk Try.prog 48 [agg (Op.oc o.n a1 a2 a3 a4), agg (Op.oc o.n b1 b2 b3 b4)] w (fun r w' => r = .bool true ∧ Ext w w') := by
  have := Op.sameOp_ok a1 a2 a3 a4 b1 b2 b3 b4 o o w ha hb
  rwa [decide_eq_true rfl] at this
end Go.Proofs.Ytpimnlgfhpnjnaa
