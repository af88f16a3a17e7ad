/- Things that are put: of the kind 1 bytes, of the kind 2 a list, of any other a number. -/
import Derived.Test.YtlcgjeebgjiebaaRec
import Derived.Test.YtlcgjeebgjiebaaPk
namespace Go.Proofs.Ytlcgjeebgjiebaa
open Go Go.RowKit Kf

structure Thing where
  kind : Int
  v : Int
  p : List UInt8
  l : List Int
instance : Inhabited Thing := ⟨⟨0, 0, [], []⟩⟩
namespace Pk
def encT (t : Thing) : List UInt8 := if t.kind = 1 then blob t.p else if t.kind = 2 then ints t.l else enc t.v
def encAll (l : List Thing) : List UInt8 := l.flatMap encT
/-- not too many, none too long -/
def laidOk (l : List Thing) : Prop := l.length ≤ 60 ∧ ∀ t ∈ l, t.p.length ≤ 1024 ∧ t.l.length ≤ 1024
instance (l : List Thing) : Decidable (laidOk l) := by unfold laidOk; exact inferInstance
/-- what stands behind all -/
def laidB (l : List Thing) : List UInt8 := if laidOk l then encAll l else []
theorem encT_len {t : Thing} (h : t.p.length ≤ 1024 ∧ t.l.length ≤ 1024) : (encT t).length ≤ 8200 := by
  unfold encT
  split
  · simp only [blob, List.length_append, enc_len]; omega
  · split
    · simp only [ints, List.length_append, enc_len, flat_len]; omega
    · rw [enc_len]; omega
theorem encAll_len {l : List Thing} (h : ∀ t ∈ l, t.p.length ≤ 1024 ∧ t.l.length ≤ 1024) : (encAll l).length ≤ 8200 * l.length := by
  induction l with
  | nil => simp [encAll]
  | cons t l ih =>
    have h1 := encT_len (h t (by simp))
    have h2 := ih fun x hx => h x (by simp [hx])
    simp only [encAll, List.flatMap_cons, List.length_append, List.length_cons] at *
    omega
theorem encAll_snoc (l : List Thing) (t : Thing) : encAll (l ++ [t]) = encAll l ++ encT t := by simp [encAll]
theorem encAll_take {l : List Thing} {k : Nat} (h : k < l.length) : encAll (l.take (k + 1)) = encAll (l.take k) ++ encT l[k] := by
  rw [List.take_succ_eq_append_getElem h, encAll_snoc]
theorem read_enc {v : Int} (h : -9223372036854775808 ≤ v ∧ v ≤ 9223372036854775807) (rest : List UInt8) : (⟨enc v ++ rest, false⟩ : RS).int = (v, ⟨rest, false⟩) := by
  have hl : (enc v ++ rest).length = 8 + rest.length := by simp [enc_len]
  have ht : (enc v ++ rest).take 8 = enc v := List.take_left' (enc_len v)
  have hd : (enc v ++ rest).drop 8 = rest := List.drop_left' (enc_len v)
  unfold RS.int
  rw [if_neg (by simp [hl])]
  show (dec ((enc v ++ rest).take 8), (⟨(enc v ++ rest).drop 8, false⟩ : RS)) = _
  rw [ht, hd, dec_enc h]
theorem read_blob {p : List UInt8} (h : p.length ≤ 1024) (rest : List UInt8) : (⟨blob p ++ rest, false⟩ : RS).blob = (p, ⟨rest, false⟩) := by
  unfold RS.blob blob
  rw [List.append_assoc, read_enc (by omega)]
  unfold RS.take
  rw [if_neg (by simp; omega)]
  show ((p ++ rest).take _, (⟨(p ++ rest).drop _, false⟩ : RS)) = _
  rw [show ((p.length : Int)).toNat = p.length from rfl, List.take_left' rfl, List.drop_left' rfl]
theorem many_enc : ∀ (l : List Int), In64 l → ∀ (rest : List UInt8), (⟨l.flatMap enc ++ rest, false⟩ : RS).many l.length = (l, ⟨rest, false⟩) := by
  intro l
  induction l using snoc_ind with
  | h0 => intro _ rest; rfl
  | h1 a x ih =>
    intro hi rest
    have h1 : In64 a := fun y hy => hi y (by simp [hy])
    have h2 := hi x (by simp)
    rw [List.length_append, List.length_singleton, List.flatMap_append, List.append_assoc]
    show ((RS.many _ a.length).1 ++ [(RS.many _ a.length).2.int.1], (RS.many _ a.length).2.int.2) = _
    rw [ih h1]
    show (a ++ [(RS.int _).1], (RS.int _).2) = _
    rw [show [x].flatMap enc = enc x by simp, read_enc h2]
theorem read_ints {l : List Int} (hi : In64 l) (h : l.length ≤ 1024) (rest : List UInt8) : (⟨ints l ++ rest, false⟩ : RS).ints = (l, ⟨rest, false⟩) := by
  unfold RS.ints ints
  rw [List.append_assoc, read_enc (by omega)]
  rw [if_neg (by simp only [List.length_append, flat_len]; simp; omega)]
  exact many_enc l hi rest
end Pk
/-- A list of things that came in. -/
def Things (w : World) (x : Value) (l : List Thing) : Prop :=
  ∃ cs, Row w x l.length 4 cs ∧ ∀ k (hk : k < l.length), ∃ vp vl, cs[k * 4 + 0]? = some (i64 l[k].kind) ∧ cs[k * 4 + 1]? = some (i64 l[k].v) ∧ cs[k * 4 + 2]? = some vp ∧ cs[k * 4 + 3]? = some vl ∧ Bytes w vp l[k].p ∧ Ints w vl l[k].l ∧
    (-9223372036854775808 ≤ l[k].v ∧ l[k].v ≤ 9223372036854775807) ∧ In64 l[k].l
theorem Things.ext {w w' : World} {x : Value} {l : List Thing} (h : Things w x l) (g : Ext w w') : Things w' x l := by
  obtain ⟨cs, hr, h⟩ := h
  refine ⟨cs, hr.ext g, fun k hk => ?_⟩
  obtain ⟨vp, vl, h1, h2, h3, h4, h5, h6, h7, h8⟩ := h k hk
  exact ⟨vp, vl, h1, h2, h3, h4, h5.ext g, h6.ext g, h7, h8⟩
end Go.Proofs.Ytlcgjeebgjiebaa
