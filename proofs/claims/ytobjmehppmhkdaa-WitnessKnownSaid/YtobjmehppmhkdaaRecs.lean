/- Blocks, and writes: rows of records with their bytes. -/
import Derived.Test.YtobjmehppmhkdaaChg
namespace Go.Proofs.Ytobjmehppmhkdaa
open Go Go.RowKit Kf
set_option maxRecDepth 20000
structure Bl where
  No : Int
  Data : List UInt8
theorem Bl.eq_iff {a b : Bl} : a = b ↔ a.No = b.No ∧ a.Data = b.Data := by cases a; cases b; simp [and_assoc]
instance : DecidableEq Bl := fun _ _ => decidable_of_iff _ Bl.eq_iff.symm
instance : Inhabited Bl := ⟨⟨0, []⟩⟩
/-- a session and the row of its bytes -/
abbrev BV : Type := Bl × Value
abbrev BV.c (e : BV) : List Value := [i64 e.1.No, e.2]
theorem BV.c_len (e : BV) : BV.c e = [i64 e.1.No, e.2] ∧ (BV.c e).length = 2 := ⟨rfl, rfl⟩
abbrev BRow (w : World) (v : Value) (E : List BV) : Prop := Row w v E.length 2 (E.flatMap BV.c)
def BDat (w : World) (E : List BV) : Prop := ∀ e ∈ E, Bytes w e.2 e.1.Data
/-- sessions that may be read -/
def Bls (w : World) (v : Value) (l : List Bl) : Prop := ∃ E : List BV, E.map Prod.fst = l ∧ BRow w v E ∧ BDat w E
theorem BRow.el {E : List BV} {k : Nat} (hk : k < E.length) : ((E.flatMap BV.c).drop (k * 2)).take 2 = BV.c E[k] := flat_el (fun e => (BV.c_len e).2) hk
theorem BRow.get {E : List BV} {k : Nat} (hk : k < E.length) {off : Nat} (ho : off < 2) : (E.flatMap BV.c)[k * 2 + off]? = (BV.c E[k])[off]? := flat_get (fun e => (BV.c_len e).2) hk ho
theorem BDat.ext {w w' : World} {E : List BV} (h : BDat w E) (g : Ext w w') : BDat w' E := fun e he => Row.ext (h e he) g
theorem Bls.ext {w w' : World} {v : Value} {l : List Bl} (h : Bls w v l) (g : Ext w w') : Bls w' v l := by
  obtain ⟨E, h1, h2, h3⟩ := h; exact ⟨E, h1, Row.ext h2 g, h3.ext g⟩
theorem BDat.one {w : World} {E : List BV} (h : BDat w E) : ∀ u ∈ E.flatMap BV.c, u.oneCell' = true := by
  intro u hu
  obtain ⟨e, he, hu⟩ := List.mem_flatMap.1 hu
  simp only [BV.c, List.mem_cons, List.not_mem_nil, or_false] at hu
  rcases hu with rfl | rfl
  · rfl
  · exact Row.one (h e he)
theorem BV.c_one {w : World} {e : BV} {l : List UInt8} (h : Bytes w e.2 l) : ∀ u ∈ BV.c e, u.oneCell' = true := by
  intro u hu
  simp only [BV.c, List.mem_cons, List.not_mem_nil, or_false] at hu
  rcases hu with rfl | rfl
  · rfl
  · exact Row.one h
/-- sessions in memory of their own: each row in a block of its own -/
structure BOwn (w : World) (B : Nat) (v : Value) (E : List BV) : Prop where
  row : w.ownsRow B 74 2 v E.length (E.flatMap BV.c)
  data : ∀ e ∈ E, OwnB w B 5 e.2 e.1.Data
  off : ∀ e ∈ E, Apart e.2 v
  pair : E.Pairwise fun a b => Apart a.2 b.2
section Bown
variable {w w' w1 w2 : World} {B B' : Nat} {v v' : Value} {E : List BV} {e : BV}
theorem BOwn.ext (h : BOwn w B v E) (g : Ext w w') : BOwn w' B v E := ⟨own_ext h.row g, fun e he => own_ext (h.data e he) g, h.off, h.pair⟩
theorem BOwn.mono (h : BOwn w B v E) (g : B' ≤ B) : BOwn w B' v E := ⟨own_mono h.row g, fun e he => own_mono (h.data e he) g, h.off, h.pair⟩
theorem BOwn.srow (h : BOwn w B v E) : BRow w v E := Row.of_own h.row
theorem BOwn.sdat (h : BOwn w B v E) : BDat w E := fun e he => Bytes.of_own (h.data e he)
theorem BOwn.sess (h : BOwn w B v E) : Bls w v (E.map Prod.fst) := ⟨E, rfl, h.srow, h.sdat⟩
theorem BOwn.nil (w : World) (B : Nat) : BOwn w B (.slice none 0 0) [] := ⟨World.ownsRow_nil w B 74 2, (fun e he => by cases he), (fun e he => by cases he), List.Pairwise.nil⟩
/-- a session laid in between, its bytes in newer memory -/
theorem BOwn.lay {s : Bl} {dv : Value} {i j : Nat} {F : List BV} (h : BOwn w B v E) (hd : OwnB w1 w.heap.size 5 dv s.Data) (g1 : Ext w w1) (g2 : Ext w1 w2) (hij : i ≤ j) (hF : F = E.take i ++ [(s, dv)] ++ E.drop j)
    (hr : w'.ownsRow B 74 2 v' F.length (F.flatMap BV.c)) (k : w2.grownBy w' v.ownBlock) (hm : Moved w2 v v') (hB : B ≤ w.heap.size) : BOwn w' B v' F := by
  have hz := World.grownBy.size g1
  have hz2 := World.grownBy.size g2
  have hdv : Apart dv v := fun b h1 h2 => by have := (hd.lt b h1).1; have := (h.row.lt b h2).2; omega
  have hin : ∀ e ∈ F, e ∈ E ∨ e = (s, dv) := fun e he => by
    rw [hF] at he
    rcases List.mem_append.1 he with he | he
    · rcases List.mem_append.1 he with he | he
      · exact .inl (List.mem_of_mem_take he)
      · rw [List.mem_singleton] at he; exact .inr he
    · exact .inl (List.mem_of_mem_drop he)
  refine ⟨hr, fun e he => ?_, fun e he => ?_, ?_⟩
  · rcases hin e he with he | he
    · exact (own_ext (own_ext (h.data e he) g1) g2).kept k (h.off e he).ne
    · subst he; exact own_mono ((own_ext hd g2).kept k hdv.ne) hB
  · rcases hin e he with he | he
    · exact Apart.moved (h.off e he) (own_ext (own_ext (h.data e he) g1) g2) hm
    · subst he; exact Apart.moved hdv (own_ext hd g2) hm
  · rw [hF]
    refine pw_lay (fun h => h.symm) h.pair (fun e he b h1 h2 => ?_) hij
    have := ((h.data e he).lt b h1).2
    have := (hd.lt b h2).1
    omega
theorem BOwn.app {s : Bl} {dv : Value} (h : BOwn w B v E) (hd : OwnB w1 w.heap.size 5 dv s.Data) (g1 : Ext w w1) (g2 : Ext w1 w2)
    (hr : w'.ownsRow B 74 2 v' (E.length + 1) (E.flatMap BV.c ++ BV.c (s, dv))) (k : w2.grownBy w' v.ownBlock) (hm : Moved w2 v v') (hB : B ≤ w.heap.size) : BOwn w' B v' (E ++ [(s, dv)]) :=
  h.lay hd g1 g2 (Nat.le_refl E.length) (by simp) (by simpa [List.flatMap_append] using hr) k hm hB
theorem BOwn.set {s : Bl} {dv : Value} {k : Nat} (h : BOwn w B v E) (hd : OwnB w1 w.heap.size 5 dv s.Data) (g1 : Ext w w1) (g2 : Ext w1 w2) (hk : k < E.length)
    (hr : w'.ownsRow B 74 2 v E.length ((E.flatMap BV.c).take (k * 2) ++ BV.c (s, dv) ++ (E.flatMap BV.c).drop (k * 2 + 2))) (g : w2.grownBy w' v.ownBlock) (hB : B ≤ w.heap.size) : BOwn w' B v (E.set k (s, dv)) :=
  h.lay hd g1 g2 (Nat.le_succ k) (by rw [List.set_eq_take_append_cons_drop, if_pos hk]; simp) (by rw [List.length_set, ← flat_set (fun e => (BV.c_len e).2) hk]; exact hr) g (.inl rfl) hB
theorem BOwn.ins {s : Bl} {dv : Value} {i : Nat} (h : BOwn w B v E) (hd : OwnB w1 w.heap.size 5 dv s.Data) (g1 : Ext w w1) (g2 : Ext w1 w2) (hi : i ≤ E.length)
    (hr : w'.ownsRow B 74 2 v' (E.length + 1) ((E.flatMap BV.c).take (i * 2) ++ BV.c (s, dv) ++ (E.flatMap BV.c).drop (i * 2))) (g : w2.grownBy w' v.ownBlock) (hm : Moved w2 v v') (hB : B ≤ w.heap.size) : BOwn w' B v' (E.take i ++ [(s, dv)] ++ E.drop i) :=
  h.lay hd g1 g2 (Nat.le_refl i) rfl (by
    rw [flat_take (fun e => (BV.c_len e).2), flat_drop (fun e => (BV.c_len e).2)] at hr
    rw [show (E.take i ++ [(s, dv)] ++ E.drop i).length = E.length + 1 by simp; omega]
    simpa [List.flatMap_append] using hr) g hm hB

/-- all of it below T -/
def BOwn.below (T : Nat) (v : Value) (E : List BV) : Prop := (∀ b, v.ownBlock = some b → b < T) ∧ ∀ e ∈ E, ∀ b, e.2.ownBlock = some b → b < T
theorem BOwn.under (h : BOwn w B v E) : BOwn.below w.heap.size v E := ⟨fun b hb => (h.row.lt b hb).2, fun e he b hb => ((h.data e he).lt b hb).2⟩
theorem BOwn.chg {B1 T1 : Nat} (h : BOwn w B v E) (k : Chg B1 T1 w w') (hne : T1 ≤ B ∨ ∃ T, BOwn.below T v E ∧ T ≤ B1) : BOwn w' B v E := by
  refine ⟨own_chg h.row k fun b hb => ?_, fun e he => own_chg (h.data e he) k fun b hb => ?_, h.off, h.pair⟩
  · rcases hne with hne | ⟨T, hT, hle⟩
    · have := (h.row.lt b hb).1; omega
    · have := hT.1 b hb; omega
  · rcases hne with hne | ⟨T, hT, hle⟩
    · have := ((h.data e he).lt b hb).1; omega
    · have := hT.2 e he b hb; omega
theorem Bpw_ne {E : List BV} (h : E.Pairwise fun a b => Apart a.2 b.2) {j k : Nat} (hj : j < E.length) (hk : k < E.length) (hne : j ≠ k) : Apart E[j].2 E[k].2 := by
  rw [List.pairwise_iff_getElem] at h
  rcases Nat.lt_or_gt_of_ne hne with h1 | h1
  · exact h j k hj hk h1
  · exact (h k j hk hj h1).symm
/-- a session's bytes are written over -/
theorem BOwn.spoil {k : Nat} {l : List UInt8} (h : BOwn w B v E) (hk : k < E.length) (ho : OwnB w' B 5 E[k].2 l) (g : w.grownBy w' E[k].2.ownBlock) : BOwn w' B v (E.set k ({ E[k].1 with Data := l }, E[k].2)) := by
  refine ⟨?_, fun e he => ?_, fun e he => ?_, pw_set hk h.pair (fun x h => h) (fun x h => h)⟩
  · rw [List.length_set, ← flat_set (fun e => (BV.c_len e).2) hk]
    have hc : BV.c ({ E[k].1 with Data := l }, E[k].2) = BV.c E[k] := rfl
    rw [hc, flat_set (fun e => (BV.c_len e).2) hk]
    have : E.set k E[k] = E := by simp
    rw [this]
    exact h.row.kept g (h.off _ (List.getElem_mem hk)).symm.ne
  · rcases mem_set he with rfl | ⟨j, hj, hne, rfl⟩
    · exact ho
    · exact (h.data _ (List.getElem_mem hj)).kept g (Bpw_ne h.pair hj hk hne).ne
  · rcases mem_set he with rfl | ⟨j, hj, hne, rfl⟩
    · exact h.off E[k] (List.getElem_mem hk)
    · exact h.off _ (List.getElem_mem hj)
/-- a session is written over -/
theorem BOwn.blank {k : Nat} {x : Int} (h : BOwn w B v E) (hk : k < E.length) (hr : w'.ownsRow B 74 2 v E.length ((E.flatMap BV.c).take (k * 2) ++ [i64 x, .slice none 0 0] ++ (E.flatMap BV.c).drop (k * 2 + 2))) (g : w.grownBy w' v.ownBlock) : BOwn w' B v (E.set k (⟨x, []⟩, .slice none 0 0)) := by
  refine ⟨by rw [List.length_set, ← flat_set (fun e => (BV.c_len e).2) hk]; exact hr, fun e he => ?_, fun e he => ?_, pw_set hk h.pair (fun x _ b _ hb => by cases hb) (fun x _ b hb => by cases hb)⟩
  · rcases mem_set he with rfl | ⟨j, hj, hne, rfl⟩
    · exact World.ownsRow_nil _ _ _ _
    · exact (h.data _ (List.getElem_mem hj)).kept g (h.off _ (List.getElem_mem hj)).ne
  · rcases mem_set he with rfl | ⟨j, hj, hne, rfl⟩
    · intro b hb; cases hb
    · exact h.off _ (List.getElem_mem hj)
theorem BOwn.below_set {T k : Nat} {e : BV} (h : BOwn.below T v E) (he : ∀ b, e.2.ownBlock = some b → b < T) : BOwn.below T v (E.set k e) := by
  refine ⟨h.1, fun x hx => ?_⟩
  rcases mem_set hx with rfl | ⟨j, hj, _, rfl⟩
  · exact he
  · exact h.2 _ (List.getElem_mem hj)
end Bown
theorem BOwn.sessE {w : World} {B : Nat} {v : Value} {F : List BV} {l : List Bl} (h : BOwn w B v F) (e : F.map Prod.fst = l) : Bls w v l := ⟨F, e, h.srow, h.sdat⟩
theorem Bls.nil (w : World) : Bls w (.slice none 0 0) [] := ⟨[], rfl, Row.nil w 2, fun e he => by cases he⟩
theorem Bls.le {w : World} {v : Value} {l : List Bl} (h : Bls w v l) : (l.length : Int) ≤ 9223372036854775807 := by
  obtain ⟨E, rfl, re, _⟩ := h
  obtain ⟨_, c, _, h1, h2, _⟩ := re.shape; unfold maxLen at h2; simp only [List.length_map]; omega
abbrev BOwnR (w : World) (B : Nat) (v : Value) (O : List BV) : Prop := w.ownsRow B 74 2 v O.length (O.flatMap BV.c)
theorem BOwnR.nil (w : World) (B : Nat) : BOwnR w B (.slice none 0 0) [] := World.ownsRow_nil _ _ _ _
theorem BOwnR.app {w : World} {B : Nat} {v : Value} {O : List BV} {e : BV} (h : w.ownsRow B 74 2 v (O.length + 1) (O.flatMap BV.c ++ BV.c e)) : BOwnR w B v (O ++ [e]) := by
  unfold BOwnR; rw [List.length_append, List.flatMap_append]; simpa using h
theorem BDat.app {w : World} {O : List BV} {e : BV} (h : BDat w O) (he : Bytes w e.2 e.1.Data) : BDat w (O ++ [e]) := fun x hx => by
  rcases List.mem_append.1 hx with hx | hx
  · exact h x hx
  · rw [List.mem_singleton] at hx; subst hx; exact he
theorem BDat.one1 {w : World} {E : List BV} (h : BDat w E) {k : Nat} (hk : k < E.length) : ∀ u ∈ BV.c E[k], u.oneCell' = true := BV.c_one (h _ (List.getElem_mem hk))
structure Wr where
  Block : Int
  Data : List UInt8
theorem Wr.eq_iff {a b : Wr} : a = b ↔ a.Block = b.Block ∧ a.Data = b.Data := by cases a; cases b; simp [and_assoc]
instance : DecidableEq Wr := fun _ _ => decidable_of_iff _ Wr.eq_iff.symm
instance : Inhabited Wr := ⟨⟨0, []⟩⟩
/-- a session and the row of its bytes -/
abbrev WV : Type := Wr × Value
abbrev WV.c (e : WV) : List Value := [i64 e.1.Block, e.2]
theorem WV.c_len (e : WV) : WV.c e = [i64 e.1.Block, e.2] ∧ (WV.c e).length = 2 := ⟨rfl, rfl⟩
abbrev WRow (w : World) (v : Value) (E : List WV) : Prop := Row w v E.length 2 (E.flatMap WV.c)
def WDat (w : World) (E : List WV) : Prop := ∀ e ∈ E, Bytes w e.2 e.1.Data
/-- sessions that may be read -/
def Wrs (w : World) (v : Value) (l : List Wr) : Prop := ∃ E : List WV, E.map Prod.fst = l ∧ WRow w v E ∧ WDat w E
theorem WRow.el {E : List WV} {k : Nat} (hk : k < E.length) : ((E.flatMap WV.c).drop (k * 2)).take 2 = WV.c E[k] := flat_el (fun e => (WV.c_len e).2) hk
theorem WRow.get {E : List WV} {k : Nat} (hk : k < E.length) {off : Nat} (ho : off < 2) : (E.flatMap WV.c)[k * 2 + off]? = (WV.c E[k])[off]? := flat_get (fun e => (WV.c_len e).2) hk ho
theorem WDat.ext {w w' : World} {E : List WV} (h : WDat w E) (g : Ext w w') : WDat w' E := fun e he => Row.ext (h e he) g
theorem Wrs.ext {w w' : World} {v : Value} {l : List Wr} (h : Wrs w v l) (g : Ext w w') : Wrs w' v l := by
  obtain ⟨E, h1, h2, h3⟩ := h; exact ⟨E, h1, Row.ext h2 g, h3.ext g⟩
theorem WDat.one {w : World} {E : List WV} (h : WDat w E) : ∀ u ∈ E.flatMap WV.c, u.oneCell' = true := by
  intro u hu
  obtain ⟨e, he, hu⟩ := List.mem_flatMap.1 hu
  simp only [WV.c, List.mem_cons, List.not_mem_nil, or_false] at hu
  rcases hu with rfl | rfl
  · rfl
  · exact Row.one (h e he)
theorem WV.c_one {w : World} {e : WV} {l : List UInt8} (h : Bytes w e.2 l) : ∀ u ∈ WV.c e, u.oneCell' = true := by
  intro u hu
  simp only [WV.c, List.mem_cons, List.not_mem_nil, or_false] at hu
  rcases hu with rfl | rfl
  · rfl
  · exact Row.one h
/-- sessions in memory of their own: each row in a block of its own -/
structure WOwn (w : World) (B : Nat) (v : Value) (E : List WV) : Prop where
  row : w.ownsRow B 109 2 v E.length (E.flatMap WV.c)
  data : ∀ e ∈ E, OwnB w B 5 e.2 e.1.Data
  off : ∀ e ∈ E, Apart e.2 v
  pair : E.Pairwise fun a b => Apart a.2 b.2
section Wown
variable {w w' w1 w2 : World} {B B' : Nat} {v v' : Value} {E : List WV} {e : WV}
theorem WOwn.ext (h : WOwn w B v E) (g : Ext w w') : WOwn w' B v E := ⟨own_ext h.row g, fun e he => own_ext (h.data e he) g, h.off, h.pair⟩
theorem WOwn.mono (h : WOwn w B v E) (g : B' ≤ B) : WOwn w B' v E := ⟨own_mono h.row g, fun e he => own_mono (h.data e he) g, h.off, h.pair⟩
theorem WOwn.srow (h : WOwn w B v E) : WRow w v E := Row.of_own h.row
theorem WOwn.sdat (h : WOwn w B v E) : WDat w E := fun e he => Bytes.of_own (h.data e he)
theorem WOwn.sess (h : WOwn w B v E) : Wrs w v (E.map Prod.fst) := ⟨E, rfl, h.srow, h.sdat⟩
theorem WOwn.nil (w : World) (B : Nat) : WOwn w B (.slice none 0 0) [] := ⟨World.ownsRow_nil w B 109 2, (fun e he => by cases he), (fun e he => by cases he), List.Pairwise.nil⟩
/-- a session laid in between, its bytes in newer memory -/
theorem WOwn.lay {s : Wr} {dv : Value} {i j : Nat} {F : List WV} (h : WOwn w B v E) (hd : OwnB w1 w.heap.size 5 dv s.Data) (g1 : Ext w w1) (g2 : Ext w1 w2) (hij : i ≤ j) (hF : F = E.take i ++ [(s, dv)] ++ E.drop j)
    (hr : w'.ownsRow B 109 2 v' F.length (F.flatMap WV.c)) (k : w2.grownBy w' v.ownBlock) (hm : Moved w2 v v') (hB : B ≤ w.heap.size) : WOwn w' B v' F := by
  have hz := World.grownBy.size g1
  have hz2 := World.grownBy.size g2
  have hdv : Apart dv v := fun b h1 h2 => by have := (hd.lt b h1).1; have := (h.row.lt b h2).2; omega
  have hin : ∀ e ∈ F, e ∈ E ∨ e = (s, dv) := fun e he => by
    rw [hF] at he
    rcases List.mem_append.1 he with he | he
    · rcases List.mem_append.1 he with he | he
      · exact .inl (List.mem_of_mem_take he)
      · rw [List.mem_singleton] at he; exact .inr he
    · exact .inl (List.mem_of_mem_drop he)
  refine ⟨hr, fun e he => ?_, fun e he => ?_, ?_⟩
  · rcases hin e he with he | he
    · exact (own_ext (own_ext (h.data e he) g1) g2).kept k (h.off e he).ne
    · subst he; exact own_mono ((own_ext hd g2).kept k hdv.ne) hB
  · rcases hin e he with he | he
    · exact Apart.moved (h.off e he) (own_ext (own_ext (h.data e he) g1) g2) hm
    · subst he; exact Apart.moved hdv (own_ext hd g2) hm
  · rw [hF]
    refine pw_lay (fun h => h.symm) h.pair (fun e he b h1 h2 => ?_) hij
    have := ((h.data e he).lt b h1).2
    have := (hd.lt b h2).1
    omega
theorem WOwn.app {s : Wr} {dv : Value} (h : WOwn w B v E) (hd : OwnB w1 w.heap.size 5 dv s.Data) (g1 : Ext w w1) (g2 : Ext w1 w2)
    (hr : w'.ownsRow B 109 2 v' (E.length + 1) (E.flatMap WV.c ++ WV.c (s, dv))) (k : w2.grownBy w' v.ownBlock) (hm : Moved w2 v v') (hB : B ≤ w.heap.size) : WOwn w' B v' (E ++ [(s, dv)]) :=
  h.lay hd g1 g2 (Nat.le_refl E.length) (by simp) (by simpa [List.flatMap_append] using hr) k hm hB
theorem WOwn.set {s : Wr} {dv : Value} {k : Nat} (h : WOwn w B v E) (hd : OwnB w1 w.heap.size 5 dv s.Data) (g1 : Ext w w1) (g2 : Ext w1 w2) (hk : k < E.length)
    (hr : w'.ownsRow B 109 2 v E.length ((E.flatMap WV.c).take (k * 2) ++ WV.c (s, dv) ++ (E.flatMap WV.c).drop (k * 2 + 2))) (g : w2.grownBy w' v.ownBlock) (hB : B ≤ w.heap.size) : WOwn w' B v (E.set k (s, dv)) :=
  h.lay hd g1 g2 (Nat.le_succ k) (by rw [List.set_eq_take_append_cons_drop, if_pos hk]; simp) (by rw [List.length_set, ← flat_set (fun e => (WV.c_len e).2) hk]; exact hr) g (.inl rfl) hB
theorem WOwn.ins {s : Wr} {dv : Value} {i : Nat} (h : WOwn w B v E) (hd : OwnB w1 w.heap.size 5 dv s.Data) (g1 : Ext w w1) (g2 : Ext w1 w2) (hi : i ≤ E.length)
    (hr : w'.ownsRow B 109 2 v' (E.length + 1) ((E.flatMap WV.c).take (i * 2) ++ WV.c (s, dv) ++ (E.flatMap WV.c).drop (i * 2))) (g : w2.grownBy w' v.ownBlock) (hm : Moved w2 v v') (hB : B ≤ w.heap.size) : WOwn w' B v' (E.take i ++ [(s, dv)] ++ E.drop i) :=
  h.lay hd g1 g2 (Nat.le_refl i) rfl (by
    rw [flat_take (fun e => (WV.c_len e).2), flat_drop (fun e => (WV.c_len e).2)] at hr
    rw [show (E.take i ++ [(s, dv)] ++ E.drop i).length = E.length + 1 by simp; omega]
    simpa [List.flatMap_append] using hr) g hm hB

/-- all of it below T -/
def WOwn.below (T : Nat) (v : Value) (E : List WV) : Prop := (∀ b, v.ownBlock = some b → b < T) ∧ ∀ e ∈ E, ∀ b, e.2.ownBlock = some b → b < T
theorem WOwn.under (h : WOwn w B v E) : WOwn.below w.heap.size v E := ⟨fun b hb => (h.row.lt b hb).2, fun e he b hb => ((h.data e he).lt b hb).2⟩
theorem WOwn.chg {B1 T1 : Nat} (h : WOwn w B v E) (k : Chg B1 T1 w w') (hne : T1 ≤ B ∨ ∃ T, WOwn.below T v E ∧ T ≤ B1) : WOwn w' B v E := by
  refine ⟨own_chg h.row k fun b hb => ?_, fun e he => own_chg (h.data e he) k fun b hb => ?_, h.off, h.pair⟩
  · rcases hne with hne | ⟨T, hT, hle⟩
    · have := (h.row.lt b hb).1; omega
    · have := hT.1 b hb; omega
  · rcases hne with hne | ⟨T, hT, hle⟩
    · have := ((h.data e he).lt b hb).1; omega
    · have := hT.2 e he b hb; omega
theorem Wpw_ne {E : List WV} (h : E.Pairwise fun a b => Apart a.2 b.2) {j k : Nat} (hj : j < E.length) (hk : k < E.length) (hne : j ≠ k) : Apart E[j].2 E[k].2 := by
  rw [List.pairwise_iff_getElem] at h
  rcases Nat.lt_or_gt_of_ne hne with h1 | h1
  · exact h j k hj hk h1
  · exact (h k j hk hj h1).symm
/-- a session's bytes are written over -/
theorem WOwn.spoil {k : Nat} {l : List UInt8} (h : WOwn w B v E) (hk : k < E.length) (ho : OwnB w' B 5 E[k].2 l) (g : w.grownBy w' E[k].2.ownBlock) : WOwn w' B v (E.set k ({ E[k].1 with Data := l }, E[k].2)) := by
  refine ⟨?_, fun e he => ?_, fun e he => ?_, pw_set hk h.pair (fun x h => h) (fun x h => h)⟩
  · rw [List.length_set, ← flat_set (fun e => (WV.c_len e).2) hk]
    have hc : WV.c ({ E[k].1 with Data := l }, E[k].2) = WV.c E[k] := rfl
    rw [hc, flat_set (fun e => (WV.c_len e).2) hk]
    have : E.set k E[k] = E := by simp
    rw [this]
    exact h.row.kept g (h.off _ (List.getElem_mem hk)).symm.ne
  · rcases mem_set he with rfl | ⟨j, hj, hne, rfl⟩
    · exact ho
    · exact (h.data _ (List.getElem_mem hj)).kept g (Wpw_ne h.pair hj hk hne).ne
  · rcases mem_set he with rfl | ⟨j, hj, hne, rfl⟩
    · exact h.off E[k] (List.getElem_mem hk)
    · exact h.off _ (List.getElem_mem hj)
/-- a session is written over -/
theorem WOwn.blank {k : Nat} {x : Int} (h : WOwn w B v E) (hk : k < E.length) (hr : w'.ownsRow B 109 2 v E.length ((E.flatMap WV.c).take (k * 2) ++ [i64 x, .slice none 0 0] ++ (E.flatMap WV.c).drop (k * 2 + 2))) (g : w.grownBy w' v.ownBlock) : WOwn w' B v (E.set k (⟨x, []⟩, .slice none 0 0)) := by
  refine ⟨by rw [List.length_set, ← flat_set (fun e => (WV.c_len e).2) hk]; exact hr, fun e he => ?_, fun e he => ?_, pw_set hk h.pair (fun x _ b _ hb => by cases hb) (fun x _ b hb => by cases hb)⟩
  · rcases mem_set he with rfl | ⟨j, hj, hne, rfl⟩
    · exact World.ownsRow_nil _ _ _ _
    · exact (h.data _ (List.getElem_mem hj)).kept g (h.off _ (List.getElem_mem hj)).ne
  · rcases mem_set he with rfl | ⟨j, hj, hne, rfl⟩
    · intro b hb; cases hb
    · exact h.off _ (List.getElem_mem hj)
theorem WOwn.below_set {T k : Nat} {e : WV} (h : WOwn.below T v E) (he : ∀ b, e.2.ownBlock = some b → b < T) : WOwn.below T v (E.set k e) := by
  refine ⟨h.1, fun x hx => ?_⟩
  rcases mem_set hx with rfl | ⟨j, hj, _, rfl⟩
  · exact he
  · exact h.2 _ (List.getElem_mem hj)
end Wown
theorem WOwn.sessE {w : World} {B : Nat} {v : Value} {F : List WV} {l : List Wr} (h : WOwn w B v F) (e : F.map Prod.fst = l) : Wrs w v l := ⟨F, e, h.srow, h.sdat⟩
theorem Wrs.nil (w : World) : Wrs w (.slice none 0 0) [] := ⟨[], rfl, Row.nil w 2, fun e he => by cases he⟩
theorem Wrs.le {w : World} {v : Value} {l : List Wr} (h : Wrs w v l) : (l.length : Int) ≤ 9223372036854775807 := by
  obtain ⟨E, rfl, re, _⟩ := h
  obtain ⟨_, c, _, h1, h2, _⟩ := re.shape; unfold maxLen at h2; simp only [List.length_map]; omega
abbrev WOwnR (w : World) (B : Nat) (v : Value) (O : List WV) : Prop := w.ownsRow B 109 2 v O.length (O.flatMap WV.c)
theorem WOwnR.nil (w : World) (B : Nat) : WOwnR w B (.slice none 0 0) [] := World.ownsRow_nil _ _ _ _
theorem WOwnR.app {w : World} {B : Nat} {v : Value} {O : List WV} {e : WV} (h : w.ownsRow B 109 2 v (O.length + 1) (O.flatMap WV.c ++ WV.c e)) : WOwnR w B v (O ++ [e]) := by
  unfold WOwnR; rw [List.length_append, List.flatMap_append]; simpa using h
theorem WDat.app {w : World} {O : List WV} {e : WV} (h : WDat w O) (he : Bytes w e.2 e.1.Data) : WDat w (O ++ [e]) := fun x hx => by
  rcases List.mem_append.1 hx with hx | hx
  · exact h x hx
  · rw [List.mem_singleton] at hx; subst hx; exact he
theorem WDat.one1 {w : World} {E : List WV} (h : WDat w E) {k : Nat} (hk : k < E.length) : ∀ u ∈ WV.c E[k], u.oneCell' = true := WV.c_one (h _ (List.getElem_mem hk))
end Go.Proofs.Ytobjmehppmhkdaa
