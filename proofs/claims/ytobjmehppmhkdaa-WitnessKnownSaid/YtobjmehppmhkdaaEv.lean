/- Events, as plain data, and in memory. -/
import Derived.Test.YtobjmehppmhkdaaFlat
import Derived.Test.YtobjmehppmhkdaaOpen
namespace Go.Proofs.Ytobjmehppmhkdaa
open Go Go.RowKit Kf
set_option maxRecDepth 20000
structure Ca where
  Kind : Int
  Block : Int
  Set : Int
  Snap : Int
  Txn : Int
  From : Int
  To : Int
  Lo : Int
  Hi : Int
  Group : Int
  Node : Int
  Value : Int
  Data : List UInt8
structure An where
  Code : Int
  Txn : Int
  Data : List UInt8
structure Ev where
  Kind : Int
  Client : Int
  Txn : Int
  Call : Ca
  Answer : An
abbrev Ca.c (a : Ca) (d : Go.Value) : List Go.Value := [i64 a.Kind, i64 a.Block, i64 a.Set, i64 a.Snap, i64 a.Txn, i64 a.From, i64 a.To, i64 a.Lo, i64 a.Hi, i64 a.Group, i64 a.Node, i64 a.Value, d]
abbrev An.c (a : An) (d : Go.Value) : List Go.Value := [i64 a.Code, i64 a.Txn, d]
abbrev Ev.c (e : Ev) (d d2 : Go.Value) : List Go.Value := [i64 e.Kind, i64 e.Client, i64 e.Txn, i64 e.Call.Kind, i64 e.Call.Block, i64 e.Call.Set, i64 e.Call.Snap, i64 e.Call.Txn, i64 e.Call.From, i64 e.Call.To, i64 e.Call.Lo, i64 e.Call.Hi, i64 e.Call.Group, i64 e.Call.Node, i64 e.Call.Value, d, i64 e.Answer.Code, i64 e.Answer.Txn, d2]
abbrev Ca.zero : Ca := ⟨0, 0, 0, 0, 0, 0, 0, 0, 0, 0, 0, 0, []⟩
abbrev An.zero : An := ⟨0, 0, []⟩
abbrev Ev.zero : Ev := ⟨0, 0, 0, Ca.zero, An.zero⟩
instance : Inhabited Ev := ⟨Ev.zero⟩
theorem Ev.c_len (e : Ev) (d d2 : Value) : (e.c d d2).length = 19 := rfl
def EvR (w : World) (cs : List Value) (e : Ev) : Prop := ∃ d d2, cs = e.c d d2 ∧ Bytes w d e.Call.Data ∧ Bytes w d2 e.Answer.Data
theorem EvR.ext {w w' : World} {cs : List Value} {e : Ev} (h : EvR w cs e) (g : Ext w w') : EvR w' cs e := by
  obtain ⟨d, d2, h1, h2, h3⟩ := h; exact ⟨d, d2, h1, Row.ext h2 g, Row.ext h3 g⟩
/-- a history that may be read -/
abbrev Evs (w : World) (v : Value) (l : List Ev) : Prop := Recs EvR 19 w v l
theorem Evs.ext {w w' : World} {v : Value} {l : List Ev} (h : Evs w v l) (g : Ext w w') : Evs w' v l := Recs.ext (R := EvR) EvR.ext h g
end Go.Proofs.Ytobjmehppmhkdaa
