/- What bytes are as a message, as plain mathematics. -/
import Derived.Test.YtccbpfbcaogcnaaMgF
namespace Go.Proofs.Ytccbpfbcaogcnaa
open Go Go.RowKit Kf
set_option maxRecDepth 20000
/-- so many entries, one behind the other -/
def rdE (s : Pk.RS) : Nat → List En × Pk.RS
  | 0 => ([], s)
  | k + 1 => let r := rdE s k; (r.1 ++ [⟨r.2.int.1, r.2.int.2.int.1, r.2.int.2.int.2.blob.1⟩], r.2.int.2.int.2.blob.2)
theorem rdE_len (s : Pk.RS) (k : Nat) : (rdE s k).1.length = k := by
  induction k with
  | zero => rfl
  | succ k ih => simp [rdE, ih]
theorem dead_int {s : Pk.RS} (h : s.bad = true) : s.int = (0, .dead) := by unfold Pk.RS.int; rw [if_pos (.inl h)]
theorem dead_blob {s : Pk.RS} (h : s.bad = true) : s.blob = ([], .dead) := by
  unfold Pk.RS.blob; rw [dead_int h]; unfold Pk.RS.take; rw [if_pos (.inl rfl)]
theorem rdE_bad {s : Pk.RS} {j : Nat} (h : (rdE s j).2.bad = true) : ∀ k, j ≤ k → (rdE s k).2.bad = true := by
  intro k hk
  induction k with
  | zero => obtain rfl : j = 0 := by omega
            exact h
  | succ k ih =>
    by_cases hj : j = k + 1
    · subst hj; exact h
    · have := ih (by omega)
      show ((rdE s k).2.int.2.int.2.blob.2).bad = true
      rw [dead_int this, dead_int rfl, dead_blob rfl]; rfl
theorem int_rng (s : Pk.RS) : rng s.int.1 := by
  unfold Pk.RS.int
  split
  · show (-9223372036854775808 : Int) ≤ 0 ∧ (0 : Int) ≤ _; omega
  · show -9223372036854775808 ≤ Pk.dec _ ∧ Pk.dec _ ≤ _
    unfold Pk.dec
    rw [IntKind.wrap_i64]; omega
theorem int_le (s : Pk.RS) : s.int.2.left.length ≤ s.left.length := by
  unfold Pk.RS.int
  split
  · exact Nat.zero_le _
  · show (s.left.drop 8).length ≤ _; simp
theorem take_le (s : Pk.RS) (n : Int) : (s.take n).1.length ≤ s.left.length ∧ (s.take n).2.left.length ≤ s.left.length := by
  unfold Pk.RS.take
  split
  · exact ⟨Nat.zero_le _, Nat.zero_le _⟩
  · constructor
    · show (s.left.take _).length ≤ _; simp; omega
    · show (s.left.drop _).length ≤ _; simp
theorem blob_le (s : Pk.RS) : s.blob.1.length ≤ s.left.length ∧ s.blob.2.left.length ≤ s.left.length := by
  have h := take_le s.int.2 s.int.1
  have := int_le s
  exact ⟨Nat.le_trans h.1 this, Nat.le_trans h.2 this⟩
theorem rdE_rng (s : Pk.RS) (k : Nat) : ∀ e ∈ (rdE s k).1, rng e.Term ∧ rng e.Kind := by
  induction k with
  | zero => intro e he; cases he
  | succ k ih =>
    intro e he
    rcases List.mem_append.1 (show e ∈ (rdE s k).1 ++ [⟨(rdE s k).2.int.1, (rdE s k).2.int.2.int.1, (rdE s k).2.int.2.int.2.blob.1⟩] from he) with he | he
    · exact ih e he
    · rw [List.mem_singleton] at he; subst he; exact ⟨int_rng _, int_rng _⟩
/-- the nothing -/
def noMg : Mg := ⟨[0, 0, 0, 0, 0, 0, 0, 0, 0, 0, 0, 0, 0, 0], false, [], []⟩
/-- entries are read, or none -/
def rdEs (s : Pk.RS) : Option (List En × Pk.RS) :=
  if s.int.1 < 0 ∨ ((s.int.2.left.length / 24 : Nat) : Int) < s.int.1 ∨ (rdE s.int.2 s.int.1.toNat).2.bad = true then none else some (rdE s.int.2 s.int.1.toNat)
/-- a field is read -/
def rdF (m : Mg) (s : Pk.RS) (q : Nat) : Option (Mg × Pk.RS) :=
  if q = 11 then (if s.int.1 = 0 ∨ s.int.1 = 1 then some ({ m with ok := decide (s.int.1 = 1) }, s.int.2) else none)
  else if q = 12 then (match rdEs s with | none => none | some r => some ({ m with E := r.1 }, r.2))
  else if q = 13 then some ({ m with D := s.blob.1 }, s.blob.2)
  else some ({ m with n := m.n.set (cl q) s.int.1 }, s.int.2)
def readF (m : Mg) (s : Pk.RS) : List Nat → Option (Mg × Pk.RS)
  | [] => some (m, s)
  | q :: L => match rdF m s q with | none => none | some r => readF r.1 r.2 L
theorem readF_app (L M : List Nat) : ∀ m s, readF m s (L ++ M) = match readF m s L with | none => none | some r => readF r.1 r.2 M := by
  induction L with
  | nil => intro m s; rfl
  | cons q L ih =>
    intro m s
    show (match rdF m s q with | none => none | some r => readF r.1 r.2 (L ++ M)) = match (match rdF m s q with | none => none | some r => readF r.1 r.2 L) with | none => none | some r => readF r.1 r.2 M
    cases rdF m s q with
    | none => rfl
    | some r => exact ih _ _
theorem readF_snoc {m m' : Mg} {s s' : Pk.RS} {T : List Nat} {q : Nat} (h : readF m s T = some (m', s')) : readF m s (T ++ [q]) = rdF m' s' q := by
  rw [readF_app, h]
  show (match rdF m' s' q with | none => none | some r => some (r.1, r.2)) = _
  cases rdF m' s' q <;> rfl
theorem readF_none {m m' : Mg} {s s' : Pk.RS} {T L : List Nat} {q : Nat} (h : readF m s T = some (m', s')) (hq : rdF m' s' q = none) (hL : ∃ M, L = T ++ [q] ++ M) : readF m s L = none := by
  obtain ⟨M, rfl⟩ := hL
  rw [readF_app, readF_snoc h, hq]
theorem rdF11 {m : Mg} {s : Pk.RS} {q : Nat} (h : q = 11) (h1 : s.int.1 = 0 ∨ s.int.1 = 1) : rdF m s q = some ({ m with ok := decide (s.int.1 = 1) }, s.int.2) := by subst h; exact if_pos h1
theorem rdF11n {m : Mg} {s : Pk.RS} {q : Nat} (h : q = 11) (h1 : ¬ (s.int.1 = 0 ∨ s.int.1 = 1)) : rdF m s q = none := by subst h; exact if_neg h1
theorem rdF13 {m : Mg} {s : Pk.RS} {q : Nat} (h : q = 13) : rdF m s q = some ({ m with D := s.blob.1 }, s.blob.2) := by subst h; rfl
theorem rdFn {m : Mg} {s : Pk.RS} {q : Nat} (h : q < 11) : rdF m s q = some ({ m with n := m.n.set (cl q) s.int.1 }, s.int.2) := by unfold rdF; rw [if_neg (by omega), if_neg (by omega), if_neg (by omega)]
theorem rdF12 {m : Mg} {s : Pk.RS} {q : Nat} (h : q = 12) (h1 : ¬ (s.int.1 < 0 ∨ ((s.int.2.left.length / 24 : Nat) : Int) < s.int.1)) (hb : (rdE s.int.2 s.int.1.toNat).2.bad = false) : rdF m s q = some ({ m with E := (rdE s.int.2 s.int.1.toNat).1 }, (rdE s.int.2 s.int.1.toNat).2) := by
  subst h
  have e : rdEs s = some (rdE s.int.2 s.int.1.toNat) := if_neg (fun q => by rcases q with q | q | q; exact h1 (.inl q); exact h1 (.inr q); rw [hb] at q; cases q)
  show (match rdEs s with | none => none | some r => _) = _
  rw [e]
theorem rdF12n {m : Mg} {s : Pk.RS} {q : Nat} (h : q = 12) (h1 : s.int.1 < 0 ∨ ((s.int.2.left.length / 24 : Nat) : Int) < s.int.1 ∨ (rdE s.int.2 s.int.1.toNat).2.bad = true) : rdF m s q = none := by
  subst h
  have e : rdEs s = none := if_pos h1
  show (match rdEs s with | none => none | some r => _) = _
  rw [e]
/-- the message that bytes are -/
def fin1 : Option (Mg × Pk.RS) → Mg × Int
  | none => (noMg, 4)
  | some (m, s) => if s.err ≠ 0 then (noMg, 4) else if chk m ≠ 0 then (noMg, chk m) else (m, 0)
def n0 (p : List UInt8) : List Int := [(⟨p, false⟩ : Pk.RS).int.1, (⟨p, false⟩ : Pk.RS).int.2.int.1, (⟨p, false⟩ : Pk.RS).int.2.int.2.int.1, 0, 0, 0, 0, 0, 0, 0, 0, 0, 0, 0]
def s3 (p : List UInt8) : Pk.RS := (⟨p, false⟩ : Pk.RS).int.2.int.2.int.2
def got (b : List UInt8) : Mg × Int :=
  if (Frm.get b).2.2 ≠ 0 then (noMg, (Frm.get b).2.2) else if (Frm.get b).2.1 ≠ b.length then (noMg, 2)
  else if (s3 (Frm.get b).1).bad = true then (noMg, 4) else if places ((n0 (Frm.get b).1).getD 0 0) = [] then (noMg, 13)
  else fin1 (readF ⟨n0 (Frm.get b).1, false, [], []⟩ (s3 (Frm.get b).1) (places ((n0 (Frm.get b).1).getD 0 0)))
theorem n0_rng (l : List UInt8) (k : Nat) : rng ((n0 l).getD k 0) := by
  have z : (-9223372036854775808 : Int) ≤ 0 ∧ (0 : Int) ≤ 9223372036854775807 := by omega
  unfold n0
  match k with
  | 0 => exact int_rng _
  | 1 => exact int_rng _
  | 2 => exact int_rng _
  | 3 | 4 | 5 | 6 | 7 | 8 | 9 | 10 | 11 | 12 | 13 => exact z
  | k + 14 => exact z
theorem s3_le (l : List UInt8) : (s3 l).left.length ≤ l.length := by
  have h1 := int_le (⟨l, false⟩ : Pk.RS)
  have h2 := int_le (⟨l, false⟩ : Pk.RS).int.2
  have h3 := int_le (⟨l, false⟩ : Pk.RS).int.2.int.2
  exact Nat.le_trans h3 (Nat.le_trans h2 h1)
theorem set_rng {n : List Int} {a : Nat} {x : Int} (h : ∀ k, rng (n.getD k 0)) (hx : rng x) (k : Nat) : rng ((n.set a x).getD k 0) := by
  simp only [List.getD_eq_getElem?_getD, List.getElem?_set]
  split
  · split
    · exact hx
    · exact ⟨by decide, by decide⟩
  · have := h k
    rwa [List.getD_eq_getElem?_getD] at this
/-- rows in blocks apart from two others -/
theorem ne_of {x y : Option Nat} {T : Nat} (hx : ∀ b, x = some b → b < T) (hy : ∀ b, y = some b → T ≤ b) : x = none ∨ x ≠ y := by
  cases x with
  | none => exact .inl rfl
  | some b => exact .inr fun e => by have := hx b rfl; have := hy b e.symm; omega
theorem grown_nw {a b c : World} {r q : Option Nat} (h : a.grownBy b r) (k : b.grownBy c q) (hq : ∀ i, q = some i → a.heap.size ≤ i) : a.grownBy c r :=
  ⟨k.os.trans h.os, k.tape.trans h.tape, k.output.trans h.output, Nat.le_trans h.size k.size, fun i hi hn => (k.block i (Nat.lt_of_lt_of_le hi h.size) (fun e => by have := hq i e.symm; omega)).trans (h.block i hi hn)⟩
theorem Chg.nw {a b c : World} {B T : Nat} {q : Option Nat} (h : Chg B T a b) (k : b.grownBy c q) (hq : ∀ i, q = some i → a.heap.size ≤ i) : Chg B T a c :=
  ⟨k.os.trans h.os, k.tape.trans h.tape, k.output.trans h.output, Nat.le_trans h.size k.size, fun i hi hn => (k.block i (Nat.lt_of_lt_of_le hi h.size) (fun e => by have := hq i e.symm; omega)).trans (h.block i hi hn)⟩
theorem Chg.row {a b c : World} {B T : Nat} {q : Option Nat} (h : Chg B T a b) (k : b.grownBy c q) (hq : ∀ i, q = some i → B ≤ i ∧ i < T) : Chg B T a c := h.trans (Chg.of k hq)
theorem Bytes.inj {w : World} {v : Value} {l m : List UInt8} (h : Bytes w v l) (k : Bytes w v m) : l = m := by
  obtain ⟨a, c, e, _⟩ := h.shape
  obtain ⟨a2, c2, e2, _⟩ := k.shape
  have hl : l.length = m.length := by rw [e] at e2; injection e2
  apply List.ext_getElem hl
  intro i h1 h2
  have q1 := Bytes.at h (Ext.refl w) h1
  have q2 := Bytes.at k (Ext.refl w) h2
  rw [q1] at q2
  injection q2 with q2
  injection q2 with _ q2
  exact byte_eq q2
/-- bytes that are parts of one row D -/
def SegE (D : Value) (L : List UInt8) (E : List EV) : Prop := ∀ e ∈ E, ∃ lo hi, Seg D e.2 lo hi ∧ hi ≤ L.length ∧ e.1.Data = (L.drop lo).take (hi - lo)
theorem SegE.dat {w : World} {B : Nat} {D : Value} {L : List UInt8} {E : List EV} (h : SegE D L E) (ho : OwnB w B 5 D L) : EDat w E := fun e he => by
  obtain ⟨lo, hi, h1, h2, h3⟩ := h e he
  rw [h3]; exact seg_bytes h1 ho h2
theorem SegE.nil (D : Value) (L : List UInt8) : SegE D L [] := fun e he => by cases he
theorem SegE.app {w : World} {B a1 a2 : Nat} {r D v left : Value} {L l : List UInt8} {s : Pk.RS} {E : List EV} {x y : Int} (h : SegE D L E) (hs : Seg D v a1 a2) (hb : Bytes w v l) (hp : PR w B r D L a2 s left) : SegE D L (E ++ [(⟨x, y, l⟩, v)]) := fun e he => by
  rcases List.mem_append.1 he with he | he
  · exact h e he
  · rw [List.mem_singleton] at he
    subst he
    have hle : a2 ≤ L.length := by have := hp.inn; omega
    exact ⟨a1, a2, hs, hle, Bytes.inj hb (seg_bytes hs hp.own hle)⟩
theorem PR.lt {w : World} {B : Nat} {r D left : Value} {L : List UInt8} {a : Nat} {s : Pk.RS} (h : PR w B r D L a s left) : (∀ b, (asRow r).ownBlock = some b → B ≤ b ∧ b < w.heap.size) ∧ (∀ b, D.ownBlock = some b → B ≤ b ∧ b < w.heap.size) := ⟨fun b hb => h.var.row.lt b hb, fun b hb => h.own.lt b hb⟩
theorem RR.lt {w : World} {B : Nat} {r vb : Value} {L : List UInt8} {a : Nat} {s : Pk.RS} (h : RR w B r vb L a s) : (∀ b, (asRow r).ownBlock = some b → B ≤ b ∧ b < w.heap.size) ∧ (∀ b, vb.ownBlock = some b → B ≤ b ∧ b < w.heap.size) := ⟨fun b hb => h.var.row.lt b hb, fun b hb => h.own.lt b hb⟩
end Go.Proofs.Ytccbpfbcaogcnaa
