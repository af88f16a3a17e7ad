/- Directories: a map and its sessions; what becomes of them. -/
import Derived.Test.YtpimnlgfhpnjnaaRnP
import Derived.Test.YtpimnlgfhpnjnaaCov
import Derived.Test.YtpimnlgfhpnjnaaSesRn
import Derived.Test.YtpimnlgfhpnjnaaOpK
namespace Go.Proofs.Ytpimnlgfhpnjnaa
open Go Go.RowKit Kf
set_option maxRecDepth 20000
structure Dr where
  m : Mp
  S : List Se.Ses
theorem Dr.eq_iff {a b : Dr} : a = b ↔ a.m = b.m ∧ a.S = b.S := by cases a; cases b; simp
instance : DecidableEq Dr := fun _ _ => decidable_of_iff _ Dr.eq_iff.symm
abbrev Dr.c (d : Dr) (v u : Value) : List Value := [v, i64 d.m.E, i64 d.m.M.Epoch, i64 d.m.M.From, i64 d.m.M.To, i64 d.m.M.Lo, i64 d.m.M.Hi, u]
/-- a directory that may be read -/
structure DAt (w : World) (v u : Value) (d : Dr) : Prop where
  R : Rgs w v d.m.R
  S : Se.Sess w u d.S
theorem DAt.ext {w w' : World} {v u : Value} {d : Dr} (h : DAt w v u d) (g : Ext w w') : DAt w' v u d := ⟨Row.ext h.R g, h.S.ext g⟩
theorem sess_one {w : World} {v : Value} {l : List Se.Ses} (h : Se.Sess w v l) : v.oneCell' = true := by obtain ⟨E, _, h, _⟩ := h; exact Row.one h
theorem Dr.c_one {w : World} {v u : Value} {l : List Rg} (d : Dr) (h : Rgs w v l) (k : u.oneCell' = true) : ∀ x ∈ d.c v u, x.oneCell' = true := by
  have := rgs_v1 h
  intro x hx
  simp only [List.mem_cons, List.not_mem_nil, or_false] at hx
  rcases hx with rfl | rfl | rfl | rfl | rfl | rfl | rfl | rfl <;> first | rfl | exact this | exact k
theorem DAt.ones {w : World} {v u : Value} {d : Dr} (h : DAt w v u d) : ∀ x ∈ d.c v u, x.oneCell' = true := d.c_one h.R (sess_one h.S)
/-! ### Memory of their own -/
structure SOwnT (w : World) (B T : Nat) (v : Value) (F : List Se.SV) : Prop where
  own : Se.SOwn w B v F
  top : Se.SOwn.below T v F
section
variable {w w' : World} {B T B' T' : Nat} {v u : Value} {F : List Se.SV} {m : Mp}
theorem SOwnT.of (h : Se.SOwn w B v F) : SOwnT w B w.heap.size v F := ⟨h, h.under⟩
theorem SOwnT.ext (h : SOwnT w B T v F) (g : Ext w w') : SOwnT w' B T v F := ⟨h.own.ext g, h.top⟩
theorem SOwnT.kept {row : Option Nat} (h : SOwnT w B T v F) (k : w.grownBy w' row) (hne : ∀ g, row = some g → g < B ∨ T ≤ g) : SOwnT w' B T v F :=
  ⟨⟨((⟨h.own.row, h.top.1⟩ : OwnT w B T 55 4 v F.length (F.flatMap Se.SV.c)).kept k hne).own, fun e he => ((⟨h.own.data e he, h.top.2 e he⟩ : OwnT w B T 5 1 e.2 e.1.Data.length _).kept k hne).own, h.own.off, h.own.pair⟩, h.top⟩
theorem SOwnT.keptO {g' : Nat} (h : SOwnT w B T v F) (k : w.grownBy w' (some g')) (hne : g' < B ∨ T ≤ g') : SOwnT w' B T v F := h.kept k (fun g e => by injection e with e; omega)
theorem SOwnT.mono (h : SOwnT w B T v F) (hB : B' ≤ B) (hT : T ≤ T') : SOwnT w B' T' v F := ⟨h.own.mono hB, fun b hb => by have := h.top.1 b hb; omega, fun e he b hb => by have := h.top.2 e he b hb; omega⟩
theorem SOwnT.sess (h : SOwnT w B T v F) : Se.Sess w v (F.map Prod.fst) := h.own.sess
theorem SOwnT.rd (h : SOwnT w B T v F) : Se.SRow w v F := h.own.srow
theorem SOwnT.chg {B1 T1 : Nat} (h : SOwnT w B T v F) (k : Chg B1 T1 w w') (hne : T1 ≤ B ∨ T ≤ B1) : SOwnT w' B T v F :=
  ⟨h.own.chg (B1 := B1) (T1 := T1) ⟨k.os, k.tape, k.output, k.size, k.block⟩ (by rcases hne with q | q; exact .inl q; exact .inr ⟨T, h.top, q⟩), h.top⟩
theorem Kf.OwnT.chg {B1 T1 n sz : Nat} {e : TypeId} {cs : List Value} (h : OwnT w B T e sz v n cs) (k : Chg B1 T1 w w') (hne : T1 ≤ B ∨ T ≤ B1) : OwnT w' B T e sz v n cs :=
  ⟨own_chg h.own k fun b hb => by have h1 := (h.own.lt b hb).1; have h2 := h.top b hb; omega, h.top⟩
theorem ownT_up {n sz : Nat} {e : TypeId} {cs : List Value} (h : OwnT w B T e sz v n cs) (hB : B' ≤ B) (hT : T ≤ T') : OwnT w B' T' e sz v n cs := ⟨own_mono h.own hB, fun b hb => by have := h.top b hb; omega⟩
abbrev RgT (w : World) (B T : Nat) (v : Value) (l : List Rg) : Prop := OwnT w B T 41 4 v l.length (l.flatMap Rg.c)
abbrev ByT (w : World) (B T : Nat) (v : Value) (l : List UInt8) : Prop := OwnT w B T 5 1 v l.length (l.map u8)
/-- a directory in memory of its own -/
structure DOwn (w : World) (B T : Nat) (v u : Value) (m : Mp) (F : List Se.SV) : Prop where
  rng : RgT w B T v m.R
  ses : SOwnT w B T u F
  off : Apart v u ∧ ∀ e ∈ F, Apart v e.2
theorem DOwn.ext (h : DOwn w B T v u m F) (g : Ext w w') : DOwn w' B T v u m F := ⟨h.rng.ext g, h.ses.ext g, h.off⟩
theorem DOwn.keptO {g' : Nat} (h : DOwn w B T v u m F) (k : w.grownBy w' (some g')) (hne : g' < B ∨ T ≤ g') : DOwn w' B T v u m F := ⟨h.rng.keptO k hne, h.ses.keptO k hne, h.off⟩
theorem DOwn.kept {row : Option Nat} (h : DOwn w B T v u m F) (k : w.grownBy w' row) (hne : ∀ g, row = some g → g < B ∨ T ≤ g) : DOwn w' B T v u m F := ⟨h.rng.kept k hne, h.ses.kept k hne, h.off⟩
theorem DOwn.chg {B1 T1 : Nat} (h : DOwn w B T v u m F) (k : Chg B1 T1 w w') (hne : T1 ≤ B ∨ T ≤ B1) : DOwn w' B T v u m F := ⟨h.rng.chg k hne, h.ses.chg k hne, h.off⟩
theorem DOwn.mono (h : DOwn w B T v u m F) (hB : B' ≤ B) (hT : T ≤ T') : DOwn w B' T' v u m F := ⟨ownT_up h.rng hB hT, h.ses.mono hB hT, h.off⟩
theorem DOwn.rd (h : DOwn w B T v u m F) : DAt w v u ⟨m, F.map Prod.fst⟩ := ⟨h.rng.rd, h.ses.sess⟩
theorem DOwn.at {d : Dr} (h : DOwn w B T v u d.m F) (e : F.map Prod.fst = d.S) : DAt w v u d := ⟨h.rng.rd, e ▸ h.ses.sess⟩
theorem apart_T {B1 T1 B2 T2 e1 e2 n1 n2 s1 s2 : Nat} {w1 w2 : World} {a b : Value} {xs ys : List Value} (h : OwnT w1 B1 T1 e1 s1 a n1 xs) (k : OwnT w2 B2 T2 e2 s2 b n2 ys) (hle : T1 ≤ B2 ∨ T2 ≤ B1) : Apart a b := fun i hi hj => by
  have h1 := (h.own.lt i hi).1; have h2 := h.top i hi; have k1 := (k.own.lt i hj).1; have k2 := k.top i hj; omega
theorem apart_S {B1 T1 B2 T2 e1 n1 s1 : Nat} {w1 w2 : World} {a : Value} {xs : List Value} (h : OwnT w1 B1 T1 e1 s1 a n1 xs) (k : SOwnT w2 B2 T2 u F) (hle : T1 ≤ B2 ∨ T2 ≤ B1) : Apart a u ∧ ∀ e ∈ F, Apart a e.2 :=
  ⟨apart_T h (⟨k.own.row, k.top.1⟩ : OwnT w2 B2 T2 55 4 u F.length _) hle, fun e he => apart_T h (⟨k.own.data e he, k.top.2 e he⟩ : OwnT w2 B2 T2 5 1 e.2 _ _) hle⟩
theorem chg_se {B1 T1 : Nat} (k : Se.Chg B1 T1 w w') : Chg B1 T1 w w' := ⟨k.os, k.tape, k.output, k.size, k.block⟩
theorem SOwnT.apart_row (h : SOwnT w B T u F) (ho : Apart v u ∧ ∀ e ∈ F, Apart v e.2) (k : w.grownBy w' v.ownBlock) : SOwnT w' B T u F :=
  ⟨⟨h.own.row.kept k ho.1.symm.ne, fun e he => (h.own.data e he).kept k (ho.2 e he).symm.ne, h.own.off, h.own.pair⟩, h.top⟩
end
/-! ### What becomes of a directory -/
def doneF (m : Mp) (e : Int) : Mp × Int := if doneNo m e = true then (Mp.zero, 6) else (⟨runs (newR m.R m.M e) 64, m.E, Mv.zero⟩, 0)
theorem doneF_ref (m : Mp) (e : Int) : RefPost m e (doneF m e).1 (doneF m e).2 := by
  unfold doneF
  by_cases h : doneNo m e = true
  · rw [if_pos h]; exact .inl ⟨h, rfl, rfl⟩
  · rw [if_neg h]; exact .inr ⟨by simpa using h, rfl, rfl⟩
theorem ref_doneF {m m' : Mp} {e c : Int} (h : RefPost m e m' c) : m' = (doneF m e).1 ∧ c = (doneF m e).2 := by
  unfold doneF
  rcases h with ⟨h1, h2, h3⟩ | ⟨h1, h2, h3⟩
  · rw [if_pos h1]; exact ⟨h2, h3⟩
  · rw [if_neg (by rw [h1]; decide)]; exact ⟨h3, h2⟩
theorem post_doneF {m m' : Mp} {e c : Int} (hE : -9223372036854775808 ≤ m.E ∧ m.E ≤ 9223372036854775807) (hc : checkB m = true) (h : DonePost m e m' c) : m' = (doneF m e).1 ∧ c = (doneF m e).2 := done_same hE hc h (doneF_ref m e)
def opMv (m : Mp) (n : List Int) : Mv := ⟨m.M.Epoch, n.getD 11 0, n.getD 12 0, n.getD 6 0, n.getD 7 0⟩
/-- a map behind an operation -/
def turnF (m : Mp) (n : List Int) : Mp × Int :=
  if n.getD 0 0 = 9 then (if 0 < m.M.Epoch ∧ opMv m n = m.M then (m, 0) else planM m (opMv m n))
  else if n.getD 5 0 ≤ m.E ∧ ¬ (0 < m.M.Epoch ∧ n.getD 5 0 = m.M.Epoch) then (m, 0) else doneF m (n.getD 5 0)
def turnD (m : Mp) (n : List Int) : Mp := if (turnF m n).2 = 0 then (turnF m n).1 else m
def appF (d : Dr) (n : List Int) : Dr × (Int × List UInt8) :=
  if n.getD 0 0 ≠ 9 ∧ n.getD 0 0 ≠ 10 then (d, (13, []))
  else if (Se.askS d.S (n.getD 1 0) (n.getD 2 0)).2 = 7 then (d, (Se.askS d.S (n.getD 1 0) (n.getD 2 0)).1)
  else if (Se.askS d.S (n.getD 1 0) (n.getD 2 0)).2 ≠ 0 then (d, ((Se.askS d.S (n.getD 1 0) (n.getD 2 0)).2, []))
  else (⟨turnD d.m n, Se.noteS d.S ⟨n.getD 1 0, n.getD 2 0, (turnF d.m n).2, mpB (turnD d.m n)⟩⟩, ((turnF d.m n).2, mpB (turnD d.m n)))
abbrev In1 (x : Int) : Prop := -9223372036854775808 ≤ x ∧ x ≤ 9223372036854775807
/-- a map that may be -/
structure Good (m : Mp) : Prop where
  ok : checkB m = true
  E : -9223372036854775808 ≤ m.E ∧ m.E ≤ 9223372036854775807
theorem Good.epoch {m : Mp} (h : Good m) : 0 ≤ m.M.Epoch := by
  by_cases hM : m.M = Mv.zero
  · rw [hM]; exact Int.le_refl 0
  · have := (check_moved h.E h.ok hM)
    have h1 := this.epoch
    have h2 := this.val.pos
    omega
theorem Good.len {m : Mp} (h : Good m) : m.R.length ≤ 4 := val_len h.ok
theorem good_runs {m : Mp} (hM : Moved m) : checkB ⟨runs (newR m.R m.M m.E) 64, m.E, Mv.zero⟩ = true := by
  have hs := List.pairwise_mergeSort (le := fun (a b : Rg) => decide (a.Lo ≤ b.Lo)) (fun a b c h1 h2 => by simp only [decide_eq_true_eq] at *; omega) (fun a b => by simp only [Bool.or_eq_true, decide_eq_true_eq]; omega) (doneU m.R m.M m.E)
  have hL : DoneL m.R m.M m.E ((doneU m.R m.M m.E).mergeSort fun (a b : Rg) => decide (a.Lo ≤ b.Lo)) := ⟨List.mergeSort_perm _ _, hs.imp fun h => by simpa using h⟩
  rw [← hM.runs hL]; exact hM.done hL
theorem turn_good {m : Mp} (h : Good m) (n : List Int) : (turnF m n).2 = 0 → Good (turnF m n).1 := by
  unfold turnF
  split
  · split
    · exact fun _ => h
    · intro q
      obtain ⟨h1, h2, h3, _⟩ := plan_next h.E h.ok q
      exact ⟨h1, h2, h3⟩
  · split
    · exact fun _ => h
    · intro q
      unfold doneF at q ⊢
      split at q
      · exact absurd q (by decide)
      · rename_i hn
        obtain ⟨hM, he⟩ := moved_of h.E h.ok (Bool.eq_false_iff.2 hn)
        rw [if_neg hn, he]
        exact ⟨good_runs hM, h.E⟩
theorem turnD_good {m : Mp} (h : Good m) (n : List Int) : Good (turnD m n) := by
  unfold turnD
  split
  · exact turn_good h n (by assumption)
  · exact h
theorem app_good {d : Dr} (h : Good d.m) (n : List Int) : Good (appF d n).1.m := by
  unfold appF
  repeat' split
  all_goals first | exact h | exact turnD_good h n
theorem sess_eq {w : World} {u : Value} {l l' : List Se.Ses} (h : Se.Sess w u l) (e : l = l') : Se.Sess w u l' := e ▸ h
theorem ones2 {u : Value} (c : Int) (h : u.oneCell' = true) : ∀ x ∈ [i64 c, u], x.oneCell' = true := by
  intro x hx
  simp only [List.mem_cons, List.not_mem_nil, or_false] at hx
  rcases hx with rfl | rfl
  · rfl
  · exact h
def Far (dv v u : Value) (F : List Se.SV) : Prop := Apart dv v ∧ Apart dv u ∧ ∀ e ∈ F, Apart dv e.2
theorem DOwn.keptA {w w' : World} {B T : Nat} {v u dv : Value} {m : Mp} {F : List Se.SV} (h : DOwn w B T v u m F) (k : w.grownBy w' dv.ownBlock) (hf : Far dv v u F) : DOwn w' B T v u m F :=
  ⟨⟨h.rng.own.kept k hf.1.symm.ne, h.rng.top⟩, ⟨⟨h.ses.own.row.kept k hf.2.1.symm.ne, fun e he => (h.ses.own.data e he).kept k (hf.2.2 e he).symm.ne, h.ses.own.off, h.ses.own.pair⟩, h.ses.top⟩, h.off⟩
theorem far_nil {v u : Value} {F : List Se.SV} : Far nilS v u F := ⟨fun b hb => (by cases hb), fun b hb => (by cases hb), fun e _ b hb => (by cases hb)⟩
theorem nilT (w : World) (B T : Nat) : ByT w B T nilS [] := ⟨World.ownsRow_nil _ _ _ _, fun b hb => by cases hb⟩
/-- what Apply tells: a directory and a result in new memory -/
def AppPost (w w' : World) (d : Dr) (n : List Int) (r : Value) : Prop := ∃ v2 u2 dv F, r = .tuple #[agg ((appF d n).1.c v2 u2), agg [i64 (appF d n).2.1, dv]] ∧ F.map Prod.fst = (appF d n).1.S ∧ DOwn w' w.heap.size w'.heap.size v2 u2 (appF d n).1.m F ∧ ByT w' w.heap.size w'.heap.size dv (appF d n).2.2 ∧ Far dv v2 u2 F
theorem AppPost.mk {w w' : World} {d d' : Dr} {n : List Int} {r v2 u2 dv : Value} {F : List Se.SV} {x : Int × List UInt8} (ha : appF d n = (d', x)) (hr : r = .tuple #[agg (d'.c v2 u2), agg [i64 x.1, dv]]) (hF : F.map Prod.fst = d'.S) (hD : DOwn w' w.heap.size w'.heap.size v2 u2 d'.m F) (hB : ByT w' w.heap.size w'.heap.size dv x.2) (hf : Far dv v2 u2 F) : AppPost w w' d n r := by
  unfold AppPost; rw [ha]; exact ⟨v2, u2, dv, F, hr, hF, hD, hB, hf⟩
section
variable {d : Dr} {n : List Int}
theorem app_bad (h : n.getD 0 0 ≠ 9 ∧ n.getD 0 0 ≠ 10) : appF d n = (d, (13, [])) := if_pos h
theorem app_twice (h : ¬ (n.getD 0 0 ≠ 9 ∧ n.getD 0 0 ≠ 10)) (k : (Se.askS d.S (n.getD 1 0) (n.getD 2 0)).2 = 7) : appF d n = (d, (Se.askS d.S (n.getD 1 0) (n.getD 2 0)).1) := by
  unfold appF; rw [if_neg h, if_pos k]
theorem app_err (h : ¬ (n.getD 0 0 ≠ 9 ∧ n.getD 0 0 ≠ 10)) (k : ¬ (Se.askS d.S (n.getD 1 0) (n.getD 2 0)).2 = 7) (j : ¬ (Se.askS d.S (n.getD 1 0) (n.getD 2 0)).2 = 0) : appF d n = (d, ((Se.askS d.S (n.getD 1 0) (n.getD 2 0)).2, [])) := by
  unfold appF; rw [if_neg h, if_neg k, if_pos j]
theorem app_new (h : ¬ (n.getD 0 0 ≠ 9 ∧ n.getD 0 0 ≠ 10)) (j : (Se.askS d.S (n.getD 1 0) (n.getD 2 0)).2 = 0) : appF d n = (⟨turnD d.m n, Se.noteS d.S ⟨n.getD 1 0, n.getD 2 0, (turnF d.m n).2, mpB (turnD d.m n)⟩⟩, ((turnF d.m n).2, mpB (turnD d.m n))) := by
  unfold appF; rw [if_neg h, if_neg (by omega), if_neg (by omega)]
end
theorem app_len (d : Dr) (n : List Int) : (appF d n).1.S.length ≤ d.S.length + 1 := by
  unfold appF
  repeat' split
  all_goals first | exact Nat.le_succ _ | exact Se.noteS_len.1
theorem app_data {d : Dr} (hg : Good d.m) (n : List Int) (h : ∀ s ∈ d.S, s.Data.length ≤ 4096) : ∀ s ∈ (appF d n).1.S, s.Data.length ≤ 4096 := by
  unfold appF
  repeat' split
  all_goals first
    | exact h
    | (intro s hs
       rcases Se.noteS_mem hs with rfl | hs
       · have := (turnD_good hg n).len
         show (mpB (turnD d.m n)).length ≤ 4096
         rw [mpB_len]; omega
       · exact h s hs)
/-- what was so in world w0 is so still -/
structure Since (w0 w : World) : Prop where
  x : Ext w0 w
section
variable {w0 w w' : World}
theorem Since.ext (h : Since w0 w) (g : Ext w w') : Since w0 w' := ⟨Ext.trans h.x g⟩
theorem Since.keptO {g' : Nat} (h : Since w0 w) (k : w.grownBy w' (some g')) (hne : w0.heap.size ≤ g') : Since w0 w' := ⟨Ext.store h.x k hne⟩
theorem Since.kept {row : Option Nat} (h : Since w0 w) (k : w.grownBy w' row) (hne : ∀ g, row = some g → w0.heap.size ≤ g) : Since w0 w' := ⟨grown_trans h.x k hne⟩
theorem Since.chg {B T : Nat} (h : Since w0 w) (k : Chg B T w w') (hne : w0.heap.size ≤ B) : Since w0 w' := ⟨Chg.ext h.x k hne⟩
end
/-- operations that may be read -/
def OpR (w : World) (cs : List Value) (o : Op.Od) : Prop := ∃ vP vR vW vD, cs = Op.oc o.n vP vR vW vD ∧ Op.OpAt w vP vR vW vD o
def Ops (w : World) (v : Value) (l : List Op.Od) : Prop := Recs OpR 17 w v l
structure DrIn (d : Dr) : Prop where
  m : MpIn d.m
  S : ∀ s ∈ d.S, In1 s.Client ∧ In1 s.Seq ∧ In1 s.Code
end Go.Proofs.Ytpimnlgfhpnjnaa
