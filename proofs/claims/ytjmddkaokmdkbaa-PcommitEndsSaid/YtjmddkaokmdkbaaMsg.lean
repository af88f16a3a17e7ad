/- Entries and messages, as plain data. -/
import Derived.Test.YtjmddkaokmdkbaaFlat
import Derived.Test.YtjmddkaokmdkbaaOpen
namespace Go.Proofs.Ytjmddkaokmdkbaa
open Go Go.RowKit Kf

structure Ent where
  Term : Int
  Kind : Int
  Data : List UInt8
abbrev Ent.c (e : Ent) (d : Value) : List Value := [i64 e.Term, i64 e.Kind, d]
def EntR (w : World) (cs : List Value) (e : Ent) : Prop := ∃ d, cs = e.c d ∧ Bytes w d e.Data
theorem EntR.ext {w w' : World} {cs : List Value} {e : Ent} (h : EntR w cs e) (g : Ext w w') : EntR w' cs e := by
  obtain ⟨d, h1, h2⟩ := h; exact ⟨d, h1, Row.ext h2 g⟩
abbrev Ents (w : World) (v : Value) (l : List Ent) : Prop := Recs EntR 3 w v l
theorem Ents.ext {w w' : World} {v : Value} {l : List Ent} (h : Ents w v l) (g : Ext w w') : Ents w' v l := Recs.ext (R := EntR) EntR.ext h g
theorem Ent.eq_iff {a b : Ent} : a = b ↔ (a.Term = b.Term ∧ a.Kind = b.Kind) ∧ a.Data = b.Data := by cases a; cases b; simp [and_assoc]
instance : DecidableEq Ent := fun _ _ => decidable_of_iff _ Ent.eq_iff.symm
instance : Inhabited Ent := ⟨⟨0, 0, []⟩⟩

structure Msg where
  Kind : Int
  From : Int
  To : Int
  Group : Int
  Term : Int
  Index : Int
  Prev : Int
  Commit : Int
  Round : Int
  Txn : Int
  Part : Int
  Ballot : Int
  Value : Int
  Seq : Int
  Ok : Bool
  Entries : List Ent
  Data : List UInt8
abbrev Msg.ints (m : Msg) : List Int := [m.Kind, m.From, m.To, m.Group, m.Term, m.Index, m.Prev, m.Commit, m.Round, m.Txn, m.Part, m.Ballot, m.Value, m.Seq]
abbrev Msg.c (m : Msg) (e d : Go.Value) : List Go.Value := [i64 m.Kind, i64 m.From, i64 m.To, i64 m.Group, i64 m.Term, i64 m.Index, i64 m.Prev, i64 m.Commit, i64 m.Round, i64 m.Txn, i64 m.Part, i64 m.Ballot, i64 m.Value, i64 m.Seq, .bool m.Ok, e, d]
def MsgR (w : World) (cs : List Value) (m : Msg) : Prop := ∃ e d, cs = m.c e d ∧ Ents w e m.Entries ∧ Bytes w d m.Data
theorem MsgR.ext {w w' : World} {cs : List Value} {m : Msg} (h : MsgR w cs m) (g : Ext w w') : MsgR w' cs m := by
  obtain ⟨e, d, h1, h2, h3⟩ := h; exact ⟨e, d, h1, h2.ext g, Row.ext h3 g⟩
abbrev Msgs (w : World) (v : Value) (l : List Msg) : Prop := Recs MsgR 17 w v l
theorem Msgs.ext {w w' : World} {v : Value} {l : List Msg} (h : Msgs w v l) (g : Ext w w') : Msgs w' v l := Recs.ext (R := MsgR) MsgR.ext h g
theorem Msg.eq_iff {a b : Msg} : a = b ↔ a.ints = b.ints ∧ a.Ok = b.Ok ∧ a.Entries = b.Entries ∧ a.Data = b.Data := by cases a; cases b; simp [Msg.ints, and_assoc]
instance : DecidableEq Msg := fun _ _ => decidable_of_iff _ Msg.eq_iff.symm
abbrev Msg.zero : Msg := ⟨0, 0, 0, 0, 0, 0, 0, 0, 0, 0, 0, 0, 0, 0, false, [], []⟩
instance : Inhabited Msg := ⟨Msg.zero⟩
/-- without entries and bytes -/
abbrev nilS : Value := .slice none 0 0
abbrev Msg.bare (m : Msg) : List Go.Value := m.c nilS nilS
theorem Msg.bare_len (m : Msg) : m.bare.length = 17 := rfl
theorem Msg.bare_one (m : Msg) : ∀ u ∈ m.bare, u.oneCell' = true := by simp [Go.Value.oneCell']
/-- an own list of messages without entries and bytes -/
abbrev OwnM (w : World) (B : Nat) (e : TypeId) (v : Value) (l : List Msg) : Prop := w.ownsRow B e 17 v l.length (l.flatMap Msg.bare)
def Bare (m : Msg) : Prop := m.Entries = [] ∧ m.Data = []
theorem msgs_of_row {w : World} {v : Value} {l : List Msg} (h : Row w v l.length 17 (l.flatMap Msg.bare)) (hb : ∀ m ∈ l, Bare m) : Msgs w v l := by
  refine ⟨_, h, fun k hk => ?_⟩
  obtain ⟨h1, h2⟩ := hb l[k] (List.getElem_mem hk)
  refine ⟨nilS, nilS, flat_el Msg.bare_len hk, ?_, ?_⟩
  · rw [h1]; exact Recs.nil
  · rw [h2]; exact Bytes.nil w
theorem OwnM.nil (w : World) (B : Nat) (e : TypeId) : OwnM w B e nilS [] := World.ownsRow_nil w B e 17
theorem OwnM.one {w : World} {B : Nat} {e : TypeId} {v : Value} {m : Msg} (h : w.ownsRow B e 17 v 1 m.bare) : OwnM w B e v [m] := by simpa [OwnM] using h
theorem OwnM.set {w : World} {B : Nat} {e : TypeId} {v : Value} {l : List Msg} {k : Nat} {a : Msg} (hk : k < l.length) (h : w.ownsRow B e 17 v l.length ((l.flatMap Msg.bare).take (k * 17) ++ a.bare ++ (l.flatMap Msg.bare).drop (k * 17 + 17))) : OwnM w B e v (l.set k a) := by
  unfold OwnM; rw [List.length_set, ← flat_set Msg.bare_len hk]; exact h
theorem Msg.get {l : List Msg} {k : Nat} (hk : k < l.length) {off : Nat} (ho : off < 17) : (l.flatMap Msg.bare)[k * 17 + off]? = l[k].bare[off]? := flat_get Msg.bare_len hk ho
theorem in64_cons {x : Int} {l : List Int} : In64 (x :: l) ↔ (-9223372036854775808 ≤ x ∧ x ≤ 9223372036854775807) ∧ In64 l := by
  simp [In64]
theorem in64_nil' : In64 [] := fun x h => by cases h

theorem msg_one {w : World} {e d : Value} {m : Msg} {es : List Ent} {ds : List UInt8} (he : Ents w e es) (hd : Bytes w d ds) : ∀ u ∈ m.c e d, u.oneCell' = true := by
  obtain ⟨_, hr, _⟩ := he
  have h1 := hr.one
  have h2 := Row.one hd
  intro u hu
  simp only [List.mem_cons, List.not_mem_nil, or_false] at hu
  rcases hu with rfl | rfl | rfl | rfl | rfl | rfl | rfl | rfl | rfl | rfl | rfl | rfl | rfl | rfl | rfl | rfl | rfl <;> first | rfl | exact h1 | exact h2
/-! ### What is too big -/
def bigSum (bytes : Nat) : Nat → List Ent → Bool
  | _, [] => false
  | n, e :: l => decide (bytes < n + min e.Data.length (bytes + 1)) || bigSum bytes (n + min e.Data.length (bytes + 1)) l
def bigE (items bytes : Nat) (l : List Ent) : Bool := decide (items < l.length) || bigSum bytes 0 l
def bigM (items bytes : Nat) (m : Msg) : Bool := bigE items bytes m.Entries || decide (bytes < m.Data.length)
theorem bigSum_drop {bytes n k : Nat} {l : List Ent} (hk : k < l.length) : bigSum bytes n (l.drop k) = (decide (bytes < n + min l[k].Data.length (bytes + 1)) || bigSum bytes (n + min l[k].Data.length (bytes + 1)) (l.drop (k + 1))) := by
  rw [List.drop_eq_getElem_cons hk]; rfl
end Go.Proofs.Ytjmddkaokmdkbaa
