/- The invariant of the table: messages, acceptors, coordinators. -/
import Derived.Test.YtjmddkaokmdkbaaLw
import Derived.Test.YtjmddkaokmdkbaaTbB
namespace Go.Proofs.Ytjmddkaokmdkbaa
open Go Go.RowKit Kf
set_option maxRecDepth 20000
abbrev ent (x : Tb) (a p : Int) : Acc := (findA (x.kept a.toNat) 5 p).1
def Sm (z : Int) : Prop := -100000 ≤ z ∧ z ≤ 100000
/-- a promise that still binds -/
def PX (g : Gh) (x : Tb) (p b : Int) (e : P3) : Prop := PF g p b e ∧ 1 ≤ e.1 ∧ e.1 ≤ x.many ∧ b ≤ (ent x e.1 p).Promised
def MK (g : Gh) (x : Tb) (m : Msg) : Prop :=
  (m.Kind = 8 ∧ 1 ≤ m.To ∧ m.To ≤ x.many ∧ 1 ≤ m.From ∧ m.From ≤ 3 ∧ 0 < m.Ballot) ∨
  (m.Kind = 10 ∧ 1 ≤ m.To ∧ m.To ≤ x.many ∧ 0 ≤ m.Ballot ∧ (m.Value = 1 ∨ m.Value = 2) ∧ g.V m.Part m.Ballot = m.Value) ∨
  (m.Kind = 9 ∧ 1 ≤ m.To ∧ m.To ≤ 3 ∧ (m.Ok = true → PX g x m.Part m.Ballot (m.From, m.Index, m.Value))) ∨
  (m.Kind = 11 ∧ 1 ≤ m.To ∧ m.To ≤ 3 ∧ (m.Ok = true → g.D m.From m.Part m.Ballot ∧ g.V m.Part m.Ballot = m.Value ∧ m.Value ≠ 0))
structure MI (g : Gh) (x : Tb) (m : Msg) : Prop where
  txn : m.Txn = 5
  part : m.Part ∈ x.parts
  sm : ∀ z ∈ m.ints, Sm z
  kind : MK g x m
structure CI (g : Gh) (x : Tb) (k : Nat) (c : CC) : Prop where
  me : c.me = (k : Int) + 1
  txn : c.txn = 5
  nac : c.nac = x.many
  parts : c.parts = x.parts
  A : ∀ p b v f, f ∈ c.A (k3 p b v) → g.D f p b ∧ g.V p b = v ∧ v ≠ 0
  ch : ∀ p, c.ch p = 0 ∨ Chosen x.many g p (c.ch p)
  run : c.st = true → ∃ s : Int, 1 ≤ s ∧ s ≤ x.starts ∧ c.num = 8 * s + k + 1 ∧ ∀ p, (∀ e ∈ c.pr p, PX g x p c.num e) ∧ (c.po p ≤ 0 → g.V p c.num = 0)
structure EN (g : Gh) (x : Tb) (a p : Int) : Prop where
  p0 : 0 ≤ (ent x a p).Promised
  b0 : 0 ≤ (ent x a p).Ballot
  le : (ent x a p).Ballot ≤ (ent x a p).Promised
  sm : Sm (ent x a p).Promised
  v : (ent x a p).Value = 0 ∨ (ent x a p).Value = 1 ∨ (ent x a p).Value = 2
  d : (ent x a p).Value ≠ 0 → g.D a p (ent x a p).Ballot ∧ g.V p (ent x a p).Ballot = (ent x a p).Value
structure XI (g : Gh) (x : Tb) : Prop where
  many : ∃ a : Nat, a < 4 ∧ x.many = 1 + 2 * (a : Int)
  parts : ∃ np, 1 ≤ np ∧ np ≤ 4 ∧ x.parts = psN np
  votes : x.votes.length = x.parts.length ∧ ∀ v ∈ x.votes, v = 1 ∨ v = 2
  v0 : ∀ k, k < x.parts.length → g.V (x.parts.getD k 0) 0 = x.votes.getD k 0
  v12 : ∀ p b, g.V p b = 0 ∨ g.V p b = 1 ∨ g.V p b = 2
  one : ∀ p b, g.V p b = 1 → g.V p 0 = 1
  neg : ∀ p b, g.V p b ≠ 0 → 0 ≤ b ∧ b ≤ 8 * x.starts + 3
  safe : ∀ p b, g.V p b ≠ 0 → 0 < b → ∃ l : List P3, (l.map Prod.fst).Nodup ∧ (∀ e ∈ l, PX g x p b e) ∧ x.many < 2 * (l.length : Int) ∧ g.V p b = pickV l
  dv : ∀ a p b, g.D a p b → g.V p b ≠ 0 ∧ 1 ≤ a ∧ a ≤ x.many ∧ (0 < b → x.above = true)
  ac : ∀ a p b, g.D a p b → ((ent x a p).Value = 1 ∨ (ent x a p).Value = 2) ∧ b ≤ (ent x a p).Ballot
  en : ∀ a p, 1 ≤ a → a ≤ x.many → EN g x a p
  st : 0 ≤ x.starts
  co : ∀ k, k < 3 → CI g x k (x.co k) ∧ (x.co k).ok
  ms : ∀ m ∈ x.post, MI g x m
  bad : x.bad = false
  val : x.value = 0 ∨ (x.value = 1 ∧ ∀ p ∈ x.parts, Chosen x.many g p 1) ∨ (x.value = 2 ∧ ∃ p ∈ x.parts, Chosen x.many g p 2)
theorem XI.many7 {g : Gh} {x : Tb} (h : XI g x) : 1 ≤ x.many ∧ x.many ≤ 7 := by obtain ⟨a, h1, h2⟩ := h.many; omega
theorem XI.core {g : Gh} {x : Tb} (h : XI g x) : Core x.many g := by
  refine ⟨by have := h.many7; omega, fun p b hv hb => ?_, fun a p b hd => (h.dv a p b hd).1, fun p b hv => (h.neg p b hv).1⟩
  obtain ⟨l, h1, h2, h3, h4⟩ := h.safe p b hv hb
  exact ⟨l, h1, fun e he => ⟨(h2 e he).2.1, (h2 e he).2.2.1, (h2 e he).1⟩, h3, h4⟩
/-- the table goes on -/
structure Goes (g : Gh) (x : Tb) (g' : Gh) (x' : Tb) : Prop where
  le : Gle g g'
  many : x'.many = x.many
  parts : x'.parts = x.parts
  votes : x'.votes = x.votes
  starts : x.starts ≤ x'.starts
  above : x.above = true → x'.above = true
  prom : ∀ a p, (ent x a p).Promised ≤ (ent x' a p).Promised
  dnew : ∀ a p b, g'.D a p b → g.D a p b ∨ ((ent x a p).Promised ≤ b ∧ 1 ≤ a ∧ a ≤ x.many ∧ g'.V p b ≠ 0 ∧ (0 < b → x'.above = true))
  vnew : ∀ p b, g'.V p b ≠ 0 → g.V p b ≠ 0 ∨ (0 < b ∧ b ≤ 8 * x'.starts + 3 ∧ ∃ l : List P3, (l.map Prod.fst).Nodup ∧ (∀ e ∈ l, PX g x p b e) ∧ x.many < 2 * (l.length : Int) ∧ g'.V p b = pickV l)
section
variable {g g' : Gh} {x x' : Tb}
theorem PX.go {p b : Int} {e : P3} (h : PX g x p b e) (k : Goes g x g' x') : PX g' x' p b e := by
  obtain ⟨h1, h2, h3, h4⟩ := h
  refine ⟨h1.mono k.le fun b' hb hd => ?_, h2, by rw [k.many]; exact h3, Int.le_trans h4 (k.prom _ _)⟩
  rcases k.dnew _ _ _ hd with q | q
  · exact q
  · omega
theorem MK.go {m : Msg} (h : MK g x m) (k : Goes g x g' x') : MK g' x' m := by
  unfold MK at *
  rw [k.many]
  rcases h with h | ⟨h1, h2, h3, h4, h5, h6⟩ | ⟨h1, h2, h3, h4⟩ | ⟨h1, h2, h3, h4⟩
  · exact .inl h
  · exact .inr (.inl ⟨h1, h2, h3, h4, h5, by rw [k.le.V _ _ (by omega)]; exact h6⟩)
  · exact .inr (.inr (.inl ⟨h1, h2, h3, fun q => (h4 q).go k⟩))
  · refine .inr (.inr (.inr ⟨h1, h2, h3, fun q => ?_⟩))
    obtain ⟨d, v, z⟩ := h4 q
    exact ⟨k.le.D _ _ _ d, by rw [k.le.V _ _ (by omega)]; exact v, z⟩
theorem MI.go {m : Msg} (h : MI g x m) (k : Goes g x g' x') : MI g' x' m := ⟨h.txn, by rw [k.parts]; exact h.part, h.sm, h.kind.go k⟩
theorem CI.go {i : Nat} {c : CC} (h : CI g x i c) (k : Goes g x g' x') (hv : c.st = true → ∀ p, c.po p ≤ 0 → g.V p c.num = 0 → g'.V p c.num = 0) : CI g' x' i c := by
  refine ⟨h.me, h.txn, by rw [k.many]; exact h.nac, by rw [k.parts]; exact h.parts, fun p b v f hf => ?_, fun p => ?_, fun hs => ?_⟩
  · obtain ⟨a, b, z⟩ := h.A p b v f hf
    exact ⟨k.le.D _ _ _ a, by rw [k.le.V _ _ (by omega)]; exact b, z⟩
  · rcases h.ch p with q | q
    · exact .inl q
    · rw [k.many]; exact .inr (q.mono k.le)
  · obtain ⟨s, s1, s2, s3, s4⟩ := h.run hs
    exact ⟨s, s1, Int.le_trans s2 k.starts, s3, fun p => ⟨fun e he => ((s4 p).1 e he).go k, fun hp => hv hs p hp ((s4 p).2 hp)⟩⟩
theorem XI.next (h : XI g x) (k : Goes g x g' x') (hac : ∀ a p b, g'.D a p b → ((ent x' a p).Value = 1 ∨ (ent x' a p).Value = 2) ∧ b ≤ (ent x' a p).Ballot) (hen : ∀ a p, 1 ≤ a → a ≤ x.many → EN g' x' a p)
    (hco : ∀ i, i < 3 → CI g' x' i (x'.co i) ∧ (x'.co i).ok) (hms : ∀ m ∈ x'.post, MI g' x' m) (hbad : x'.bad = false) (hval : x'.value = x.value) : XI g' x' := by
  have old : ∀ p b, g.V p b ≠ 0 → g'.V p b = g.V p b := k.le.V
  have hst := k.starts
  refine ⟨by rw [k.many]; exact h.many, by rw [k.parts]; exact h.parts, by rw [k.parts, k.votes]; exact h.votes, fun i hi => ?_, fun p b => ?_, fun p b hv => ?_, fun p b hv => ?_, fun p b hv hb => ?_, fun a p b hd => ?_, hac, by rw [k.many]; exact hen, by have := h.st; omega, hco, hms, hbad, ?_⟩
  · rw [k.parts] at hi ⊢
    rw [k.votes]
    have h0 := h.v0 i hi
    have hm := h.votes.2 (x.votes.getD i 0) (by rw [List.getD_eq_getElem?_getD, List.getElem?_eq_getElem (by rw [h.votes.1]; exact hi)]; exact List.getElem_mem _)
    rw [old _ _ (by omega)]; exact h0
  · by_cases hz : g'.V p b = 0
    · exact .inl hz
    · rcases k.vnew p b hz with q | ⟨_, _, l, _, _, _, q⟩
      · rw [old p b q]; exact h.v12 p b
      · rw [q]; exact .inr (pickV_12 l)
  · rcases k.vnew p b (by omega) with q | ⟨_, _, l, _, l2, _, q⟩
    · rw [old p b q] at hv
      have := h.one p b hv
      rw [old p 0 (by omega)]; exact this
    · rcases pickV_cases l with ⟨_, q2⟩ | ⟨e, e1, e2, e3, _⟩
      · omega
      · have hp := ((l2 e e1).1.2 e2).2.1
        have := h.one p e.2.1 (by omega)
        rw [old p 0 (by omega)]; exact this
  · rcases k.vnew p b hv with q | ⟨q1, q2, _⟩
    · have := h.neg p b q; omega
    · omega
  · rcases k.vnew p b hv with q | ⟨_, _, l, l1, l2, l3, q⟩
    · obtain ⟨l, l1, l2, l3, l4⟩ := h.safe p b q hb
      exact ⟨l, l1, fun e he => (l2 e he).go k, by rw [k.many]; exact l3, by rw [old p b q]; exact l4⟩
    · exact ⟨l, l1, fun e he => (l2 e he).go k, by rw [k.many]; exact l3, q⟩
  · rcases k.dnew a p b hd with q | ⟨_, q1, q2, q3, q4⟩
    · obtain ⟨q1, q2, q3, q4⟩ := h.dv a p b q
      exact ⟨by rw [old p b q1]; exact q1, q2, by rw [k.many]; exact q3, fun hb => k.above (q4 hb)⟩
    · exact ⟨q3, q1, by rw [k.many]; exact q2, q4⟩
  · rw [hval, k.many, k.parts]
    rcases h.val with q | ⟨q, q2⟩ | ⟨q, p, hp, q2⟩
    · exact .inl q
    · exact .inr (.inl ⟨q, fun p hp => (q2 p hp).mono k.le⟩)
    · exact .inr (.inr ⟨q, p, hp, q2.mono k.le⟩)
theorem Goes.same (e1 : x'.many = x.many) (e2 : x'.parts = x.parts) (e3 : x'.votes = x.votes) (e4 : x.starts ≤ x'.starts) (e5 : x'.above = x.above) (e6 : x'.kept = x.kept) : Goes g x g x' :=
  ⟨Gle.refl g, e1, e2, e3, e4, fun h => by rw [e5]; exact h, fun a p => by unfold ent; rw [e6]; exact Int.le_refl _, fun _ _ _ h => .inl h, fun _ _ h => .inl h⟩
theorem XI.same (h : XI g x) (e1 : x'.many = x.many) (e2 : x'.parts = x.parts) (e3 : x'.votes = x.votes) (e4 : x.starts ≤ x'.starts) (e5 : x'.above = x.above) (e6 : x'.kept = x.kept) (e7 : x'.bad = x.bad) (e8 : x'.value = x.value)
    (hco : ∀ i, i < 3 → CI g x' i (x'.co i) ∧ (x'.co i).ok) (hms : ∀ m ∈ x'.post, MI g x' m) : XI g x' := by
  refine h.next (Goes.same e1 e2 e3 e4 e5 e6) (fun a p b hd => ?_) (fun a p h1 h2 => ?_) hco hms (by rw [e7]; exact h.bad) e8
  · unfold ent; rw [e6]; exact h.ac a p b hd
  · have q := h.en a p h1 h2
    exact ⟨by unfold ent; rw [e6]; exact q.p0, by unfold ent; rw [e6]; exact q.b0, by unfold ent; rw [e6]; exact q.le, by unfold ent; rw [e6]; exact q.sm, by unfold ent; rw [e6]; exact q.v, by unfold ent; rw [e6]; exact q.d⟩
theorem XI.setPost (h : XI g x) {l : List Msg} (hl : ∀ m ∈ l, MI g x m) : XI g { x with post := l } := by
  have k : Goes g x g { x with post := l } := Goes.same rfl rfl rfl (Int.le_refl _) rfl rfl
  exact h.same rfl rfl rfl (Int.le_refl _) rfl rfl rfl rfl (fun i hi => ⟨(h.co i hi).1.go k fun _ _ _ q => q, (h.co i hi).2⟩) (fun m hm => (hl m hm).go k)
theorem XI.less (h : XI g x) (i : Nat) : XI g (x.less i) := h.setPost fun m hm => by
  rcases List.mem_append.1 hm with q | q
  · exact h.ms m (List.mem_of_mem_take q)
  · exact h.ms m (List.mem_of_mem_drop q)
theorem XI.push (h : XI g x) {l : List Msg} (hl : ∀ m ∈ l, MI g x m) : XI g { x with post := x.post ++ l } := h.setPost fun m hm => by
  rcases List.mem_append.1 hm with q | q
  · exact h.ms m q
  · exact hl m q
theorem part_sm (h : XI g x) {p : Int} (hp : p ∈ x.parts) : 1 ≤ p ∧ p ≤ 4 := by
  obtain ⟨np, h1, h2, h3⟩ := h.parts
  rw [h3] at hp
  obtain ⟨i, hi, rfl⟩ := List.mem_map.1 hp
  have := List.mem_range.1 hi
  omega
theorem XI.vote (h : XI g x) {k : Nat} (hk : k < x.parts.length) : XI g (x.vote k) := h.push fun m hm => by
  obtain ⟨i, hi, rfl⟩ := List.mem_map.1 hm
  have hi := List.mem_range.1 hi
  have hm7 := h.many7
  have hp : x.parts.getD k 0 ∈ x.parts := by rw [List.getD_eq_getElem?_getD, List.getElem?_eq_getElem hk]; exact List.getElem_mem _
  have hps := part_sm h hp
  have hv : x.votes.getD k 0 = 1 ∨ x.votes.getD k 0 = 2 := h.votes.2 _ (by rw [List.getD_eq_getElem?_getD, List.getElem?_eq_getElem (by rw [h.votes.1]; exact hk)]; exact List.getElem_mem _)
  refine ⟨rfl, hp, fun z hz => ?_, .inr (.inl ⟨rfl, ?_, ?_, Int.le_refl _, hv, h.v0 k hk⟩)⟩
  · have hk3 : k % 3 < 3 := Nat.mod_lt _ (by omega)
    simp only [voteM, Msg.ints, List.mem_cons, List.not_mem_nil, or_false] at hz
    unfold Sm
    omega
  · show 1 ≤ (i : Int) + 1; omega
  · show (i : Int) + 1 ≤ x.many; omega
theorem XI.made (h : XI g x) {k : Nat} (hk : k < 3) : XI g (x.made k) := by
  have k' : Goes g x g (x.made k) := Goes.same rfl rfl rfl (Int.le_refl _) rfl rfl
  obtain ⟨np, h1, h2, h3⟩ := h.parts
  obtain ⟨a, h4, h5⟩ := h.many
  refine h.same rfl rfl rfl (Int.le_refl _) rfl rfl rfl rfl (fun i hi => ?_) (fun m hm => (h.ms m hm).go k')
  show CI g (x.made k) i (updN x.co k _ i) ∧ (updN x.co k _ i).ok
  by_cases e : i = k
  · subst e
    rw [updN_at]
    exact ⟨⟨rfl, rfl, rfl, rfl, (fun p b v f hf => by cases hf), (fun p => .inl rfl), (fun hs => by cases hs)⟩, (Rel.new (by rw [h5, h3]; exact nw_ok hi h1 h2 h4)).ok⟩
  · rw [updN_ne e]
    exact ⟨(h.co i hi).1.go k' fun _ _ _ q => q, (h.co i hi).2⟩
theorem XI.start (h : XI g x) {k : Nat} (hk : k < 3) (hs : x.starts ≤ 1000) : XI g (x.start k) := by
  have k' : Goes g x g (x.start k) := Goes.same rfl rfl rfl (by show x.starts ≤ x.starts + 1; omega) rfl rfl
  have hc := h.co k hk
  have hst := h.st
  have hm7 := h.many7
  refine h.same rfl rfl rfl (by show x.starts ≤ x.starts + 1; omega) rfl rfl rfl rfl (fun i hi => ?_) (fun m hm => ?_)
  · show CI g (x.start k) i (updN x.co k _ i) ∧ (updN x.co k _ i).ok
    by_cases e : i = k
    · subst e
      rw [updN_at]
      have q := hc.1.go k' fun _ _ _ q => q
      refine ⟨⟨q.me, q.txn, q.nac, q.parts, q.A, q.ch, fun _ => ⟨x.starts + 1, by omega, Int.le_refl _, rfl, fun p => ⟨(fun e he => by cases he), fun _ => ?_⟩⟩⟩, hc.2.started _⟩
      show g.V p (8 * (x.starts + 1) + (i : Int) + 1) = 0
      apply Classical.byContradiction
      intro hz
      have := (h.neg _ _ hz).2
      omega
    · rw [updN_ne e]
      exact ⟨(h.co i hi).1.go k' fun _ _ _ q => q, (h.co i hi).2⟩
  · rcases List.mem_append.1 hm with q | q
    · exact (h.ms m q).go k'
    · obtain ⟨p, hp, hm2⟩ := List.mem_flatMap.1 q
      rw [hc.1.parts] at hp
      have hps := part_sm h hp
      by_cases hz : (x.co k).ch p = 0
      · rw [if_pos hz] at hm2
        obtain ⟨i, hi, rfl⟩ := List.mem_map.1 hm2
        have hi := List.mem_range.1 hi
        have hn : ((x.co k).started (8 * (x.starts + 1) + (k : Int) + 1)).nac = x.many := hc.1.nac
        rw [hn] at hi
        have e1 : ((x.co k).started (8 * (x.starts + 1) + (k : Int) + 1)).me = (k : Int) + 1 := hc.1.me
        have e2 : ((x.co k).started (8 * (x.starts + 1) + (k : Int) + 1)).txn = 5 := hc.1.txn
        have e3 : ((x.co k).started (8 * (x.starts + 1) + (k : Int) + 1)).num = 8 * (x.starts + 1) + (k : Int) + 1 := rfl
        refine ⟨e2, hp, fun z hz => ?_, .inl ⟨rfl, ?_, ?_, ?_, ?_, ?_⟩⟩
        · simp only [asks, Msg.ints, List.mem_cons, List.not_mem_nil, or_false, e1, e2, e3] at hz
          unfold Sm
          omega
        · show 1 ≤ (i : Int) + 1; omega
        · show (i : Int) + 1 ≤ x.many; omega
        · show 1 ≤ (x.co k).me; rw [hc.1.me]; omega
        · show (x.co k).me ≤ 3; rw [hc.1.me]; omega
        · show 0 < 8 * (x.starts + 1) + (k : Int) + 1; omega
      · rw [if_neg hz] at hm2; cases hm2
end
end Go.Proofs.Ytjmddkaokmdkbaa
