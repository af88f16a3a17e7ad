/- Maps in blocks of their own: made, looked up, written, counted. -/
import Derived.Test.YtobjmehppmhkdaaFlat
namespace Go.Proofs.Ytobjmehppmhkdaa.Kf
open Go Go.RowKit
/-- the place of a key among keys -/
def idxK {κ : Type} [DecidableEq κ] (k : κ) : List κ → Option Nat
  | [] => none
  | a :: l => if a = k then some 0 else (idxK k l).map (· + 1)
/-- what a map has at a key -/
def getM {κ α : Type} [DecidableEq κ] (l : List (κ × α)) (k : κ) : Option α := match l with
  | [] => none
  | p :: l => if p.1 = k then some p.2 else getM l k
/-- a map with a value at a key -/
def putM {κ α : Type} [DecidableEq κ] (l : List (κ × α)) (k : κ) (v : α) : List (κ × α) := match l with
  | [] => [(k, v)]
  | p :: l => if p.1 = k then (k, v) :: l else p :: putM l k v
theorem getM_put {κ α : Type} [DecidableEq κ] (l : List (κ × α)) (k k' : κ) (v : α) : getM (putM l k v) k' = if k = k' then some v else getM l k' := by
  induction l with
  | nil => rfl
  | cons p l ih =>
    unfold putM
    by_cases h : p.1 = k
    · rw [if_pos h]
      unfold getM
      by_cases h2 : k = k'
      · simp [h2]
      · rw [if_neg h2, if_neg h2]
        conv => rhs; unfold getM
        rw [if_neg (by rw [h]; exact h2)]
        cases l <;> rfl
    · rw [if_neg h]
      conv => lhs; unfold getM
      rw [ih]
      by_cases h2 : k = k'
      · subst h2; simp [h]
      · rw [if_neg h2]
        conv => rhs; unfold getM
        simp only [if_neg h2]
theorem keys_put {κ α : Type} [DecidableEq κ] (l : List (κ × α)) (k : κ) (v : α) : (putM l k v).map Prod.fst = if k ∈ l.map Prod.fst then l.map Prod.fst else l.map Prod.fst ++ [k] := by
  induction l with
  | nil => rfl
  | cons p l ih =>
    unfold putM
    by_cases h : p.1 = k
    · rw [if_pos h, if_pos (by simp [h])]; simp [h]
    · rw [if_neg h, List.map_cons, ih]
      by_cases h2 : k ∈ l.map Prod.fst
      · rw [if_pos h2, if_pos (by rw [List.map_cons]; exact List.mem_cons_of_mem _ h2)]; rfl
      · rw [if_neg h2, if_neg (by rw [List.map_cons, List.mem_cons]; rintro (e | e); exact h e.symm; exact h2 e)]; rfl
theorem getM_none {κ α : Type} [DecidableEq κ] {l : List (κ × α)} {k : κ} : getM l k = none ↔ k ∉ l.map Prod.fst := by
  induction l with
  | nil => simp [getM]
  | cons p l ih =>
    unfold getM
    by_cases h : p.1 = k
    · simp [h]
    · rw [if_neg h, ih, List.map_cons, List.mem_cons]
      constructor
      · rintro q (e | e); exact h e.symm; exact q e
      · exact fun q e => q (.inr e)
/-- a map's block -/
structure MapB {κ : Type} (enc : κ → Value) (w : World) (g : Nat) (l : List (κ × Value)) : Prop where
  heap : ∃ es clock, w.heap[g]? = some (.map es clock) ∧ es.toList.map (fun e => (e.key, e.val)) = l.map fun p => (enc p.1, p.2)
section mapb
variable {κ : Type} {enc : κ → Value} {w w' : World} {g g' : Nat} {l : List (κ × Value)} {row : Option Nat}
theorem MapB.lt (h : MapB enc w g l) : g < w.heap.size := by obtain ⟨_, _, h, _⟩ := h.heap; exact (Array.getElem?_eq_some_iff.1 h).1
theorem MapB.kept (h : MapB enc w g l) (k : w.grownBy w' row) (hne : ∀ b, row = some b → b ≠ g) : MapB enc w' g l := by
  obtain ⟨es, c, h1, h2⟩ := h.heap
  exact ⟨es, c, (k.block g h.lt (fun e => hne g e.symm rfl)).trans h1, h2⟩
theorem MapB.ext (h : MapB enc w g l) (k : Ext w w') : MapB enc w' g l := h.kept k (fun b e => by cases e)
theorem MapB.keptO (h : MapB enc w g l) (k : w.grownBy w' (some g')) (hne : g' ≠ g) : MapB enc w' g l := h.kept k (fun b e => by injection e with e; omega)
end mapb
/-- a kind of keys that can be told apart -/
structure KeyK {κ : Type} [DecidableEq κ] (P : Program) (kt : TypeId) (enc : κ → Value) : Prop where
  check : ∀ b k w, (Instr.checkKey b 10000 kt (enc k)).run P w = .ok () w
  find : ∀ k (l : List (κ × Value)) (es : List MapEntry) w, es.map (fun e => (e.key, e.val)) = l.map (fun p => (enc p.1, p.2)) →
    (Instr.findKey kt (enc k) es).run P w = .ok ((idxK k (l.map Prod.fst)).bind fun i => (getM l k).map fun v => (i, v)) w
  bits : ∀ k, Instr.sameBits 10000 (enc k) (enc k) = true
theorem findNow_int {t : TypeDesc} (ht : t = .int .i64) (k : Int) : ∀ (l : List (Int × Value)) (es : List MapEntry) (i : Nat), es.map (fun e => (e.key, e.val)) = l.map (fun p => (i64 p.1, p.2)) →
    Instr.findNow t (i64 k) es i = some ((idxK k (l.map Prod.fst)).bind fun j => (getM l k).map fun v => (i + j, v))
  | [], [], i, _ => rfl
  | [], _ :: _, _, h => by simp at h
  | _ :: _, [], _, h => by simp at h
  | p :: l, e :: es, i, h => by
    subst ht
    simp only [List.map_cons, List.cons.injEq, Prod.mk.injEq] at h
    obtain ⟨⟨h1, h2⟩, h3⟩ := h
    unfold Instr.findNow
    rw [h1]
    simp only [Instr.sameNow, if_true]
    by_cases hk : p.1 = k
    · subst hk
      simp [idxK, getM, h2]
    · have : (k == p.1) = false := by simpa using fun e => hk e.symm
      rw [this]
      simp only
      rw [findNow_int rfl k l es (i + 1) h3]
      simp only [idxK, getM, List.map_cons, if_neg hk]
      cases idxK k (l.map Prod.fst) with
      | none => rfl
      | some j => simp [Nat.add_assoc, Nat.add_comm 1 j]
theorem int_keys {P : Program} {kt : TypeId} (h : P.underlying kt = some (.int .i64)) : KeyK P kt i64 := by
  refine ⟨fun b k w => ?_, fun k l es w hl => ?_, fun k => ?_⟩
  · rw [show (10000 : Nat) = 9999 + 1 from rfl, Instr.checkKey]
    simp [run_underlying h, Result.andThen]
  · simp only [Instr.findKey, Sem.run_bind, run_underlying h, Result.andThen_ok]
    rw [findNow_int rfl k l es 0 hl]
    simp
  · rw [show (10000 : Nat) = 9999 + 1 from rfl]; simp [Instr.sameBits]
theorem map_key_at {κ : Type} {enc : κ → Value} {l : List (κ × Value)} {es : List MapEntry} (h : es.map (fun e => (e.key, e.val)) = l.map fun p => (enc p.1, p.2)) {i : Nat} (hi : i < l.length) : ∃ e, es[i]? = some e ∧ e.key = enc l[i].1 := by
  have hl : es.length = l.length := by have := congrArg List.length h; simpa using this
  have he : i < es.length := by omega
  refine ⟨es[i], List.getElem?_eq_getElem he, ?_⟩
  have := congrArg (fun z => z[i]?) h
  simp only [List.getElem?_map, List.getElem?_eq_getElem he, List.getElem?_eq_getElem hi, Option.map_some, Option.some.injEq, Prod.mk.injEq] at this
  exact this.1
theorem idxK_some {κ α : Type} [DecidableEq κ] : ∀ (l : List (κ × α)) (k : κ) (i : Nat), idxK k (l.map Prod.fst) = some i → ∃ hi : i < l.length, l[i].1 = k ∧ ∃ v, getM l k = some v
  | [], _, _, h => by simp [idxK] at h
  | p :: l, k, i, h => by
    simp only [List.map_cons, idxK] at h
    by_cases hk : p.1 = k
    · rw [if_pos hk] at h
      injection h with h; subst h
      exact ⟨by simp, hk, p.2, by simp [getM, hk]⟩
    · rw [if_neg hk] at h
      cases hj : idxK k (l.map Prod.fst) with
      | none => rw [hj] at h; cases h
      | some j =>
        rw [hj] at h
        injection h with h; subst h
        obtain ⟨h1, h2, v, h3⟩ := idxK_some l k j hj
        exact ⟨by simp; omega, by simpa using h2, v, by simp [getM, hk, h3]⟩
theorem idxK_none {κ α : Type} [DecidableEq κ] {l : List (κ × α)} {k : κ} (h : idxK k (l.map Prod.fst) = none) : getM l k = none := by
  induction l with
  | nil => rfl
  | cons p l ih =>
    simp only [List.map_cons, idxK] at h
    by_cases hk : p.1 = k
    · rw [if_pos hk] at h; cases h
    · rw [if_neg hk] at h
      simp only [getM, if_neg hk]
      exact ih (by cases hj : idxK k (l.map Prod.fst) with | none => rfl | some j => rw [hj] at h; cases h)
theorem putM_at {κ α : Type} [DecidableEq κ] : ∀ (l : List (κ × α)) (k : κ) (v : α) (i : Nat), idxK k (l.map Prod.fst) = some i → putM l k v = l.set i (k, v)
  | [], _, _, _, h => by simp [idxK] at h
  | p :: l, k, v, i, h => by
    simp only [List.map_cons, idxK] at h
    unfold putM
    by_cases hk : p.1 = k
    · rw [if_pos hk] at h ⊢
      injection h with h; subst h; rfl
    · rw [if_neg hk] at h ⊢
      cases hj : idxK k (l.map Prod.fst) with
      | none => rw [hj] at h; cases h
      | some j =>
        rw [hj] at h
        injection h with h; subst h
        rw [putM_at l k v j hj]; rfl
theorem putM_new {κ α : Type} [DecidableEq κ] {l : List (κ × α)} {k : κ} (v : α) (h : idxK k (l.map Prod.fst) = none) : putM l k v = l ++ [(k, v)] := by
  induction l with
  | nil => rfl
  | cons p l ih =>
    simp only [List.map_cons, idxK] at h
    unfold putM
    by_cases hk : p.1 = k
    · rw [if_pos hk] at h; cases h
    · rw [if_neg hk] at h ⊢
      rw [ih (by cases hj : idxK k (l.map Prod.fst) with | none => rfl | some j => rw [hj] at h; cases h)]; rfl
abbrev mp_ (g : Nat) : Value := .map (some g)
section ops
variable {κ : Type} [DecidableEq κ] {enc : κ → Value} {P : Program} {N : Nat} {Q : Post} {f : Fr} {w : World} {k : Fr → World → Prop} {d : Nat} {dst : Option Tmp} {ty t kt et t' : TypeId} {pos : String} {aft : Array Edge} {gd : Option (Nat × Bool)} {x y m : Operand} {g : Nat} {l : List (κ × Value)} {a : κ} {u z : Value}
omit [DecidableEq κ] in
theorem OW.makeMap (h : ∀ g w', g = w.heap.size → g < w'.heap.size → MapB enc w' g [] → Ext w w' → k (put f d (mp_ g)) w') (hd : d < N) : OW P N ⟨some d, .makeMap t none, ty, pos, aft, gd⟩ Q k f w := by
  refine OW.val rfl hd (v := mp_ w.heap.size) (w' := w.alloc (.map #[] 0)) ?_ (h _ _ rfl (by simp) ⟨#[], 0, by show (w.heap.push _)[w.heap.size]? = _; simp, rfl⟩ (Ext.alloc _ _))
  simp [execOp, Instr.makeMap, newObj, Sem.run, Result.andThen]
theorem run_lookM (K : KeyK P kt enc) (hm : MapB enc w g l) (ht : P.underlying t = some (.map kt et)) (hz : ∀ w, (zeroValue et).run P w = .ok z w) : (Instr.lookup t (mp_ g) (enc a) false).run P w = .ok ((getM l a).getD z) w := by
  obtain ⟨es, c, h1, h2⟩ := hm.heap
  have hf := K.find a l es.toList w h2
  have hg : (getObj g).run P w = .ok (.map es c) w := by simp [getObj, Sem.run, h1]
  simp only [Instr.lookup, Sem.run_bind, run_underlying ht, Result.andThen_ok, hg, Sem.run_pure, K.check]
  rw [hf]
  simp only [Result.andThen_ok]
  cases hi : idxK a (l.map Prod.fst) with
  | none =>
    rw [idxK_none hi]
    simp [hz]
  | some i =>
    obtain ⟨_, _, v, hv⟩ := idxK_some l a i hi
    rw [hv]
    simp
theorem X.lookM (K : KeyK P kt enc) (hm : MapB enc w g l) (ht : P.underlying t = some (.map kt et)) (hz : ∀ w, (zeroValue et).run P w = .ok z w) (hx : ev f x = mp_ g) (hy : ev f y = enc a) (hr : (getM l a).getD z = u) :
    (execOp (ev f) ⟨dst, .lookup t x y false, ty, pos, aft, gd⟩).run P w = .ok (.value u) w := by
  subst hr
  simp only [execOp, hx, hy]
  rw [Sem.run_bind, run_lookM K hm ht hz]
  rfl
theorem X.lookMN (K : KeyK P kt enc) (ht : P.underlying t = some (.map kt et)) (hz : ∀ w, (zeroValue et).run P w = .ok z w) (hx : ev f x = .map none) (hy : ev f y = enc a) :
    (execOp (ev f) ⟨dst, .lookup t x y false, ty, pos, aft, gd⟩).run P w = .ok (.value z) w := by
  simp only [execOp, hx, hy]
  rw [Sem.run_bind]
  have hf := K.find a [] [] w rfl
  have : (Instr.lookup t (.map none) (enc a) false).run P w = .ok z w := by
    simp only [Instr.lookup, Sem.run_bind, run_underlying ht, Result.andThen_ok, Sem.run_pure, K.check]
    rw [hf]
    simp [idxK, hz, Result.andThen]
  rw [this]
  rfl
omit [DecidableEq κ] in
theorem X.lenM (hm : MapB enc w g l) (ht : P.underlying t = some (.map kt et)) (hx : ev f x = mp_ g) {n : Nat} (hn : l.length = n) :
    (execOp (ev f) ⟨dst, .call ⟨.builtin .len, #[x], #[t]⟩, ty, pos, aft, gd⟩).run P w = .ok (.value (i64 (n : Int))) w := by
  obtain ⟨es, c, h1, h2⟩ := hm.heap
  have hl : es.size = n := by have := congrArg List.length h2; simp at this; omega
  have hg : (getObj g).run P w = .ok (.map es c) w := by simp [getObj, Sem.run, h1]
  simp [execOp, resolve, invoke, builtin, hx, Builtin.len_, run_underlying ht, hg, Result.andThen, goInt, hl]
theorem X.lenMN (ht : P.underlying t = some (.map kt et)) (hx : ev f x = .map none) :
    (execOp (ev f) ⟨dst, .call ⟨.builtin .len, #[x], #[t]⟩, ty, pos, aft, gd⟩).run P w = .ok (.value (i64 0)) w := by
  simp [execOp, resolve, invoke, builtin, hx, Builtin.len_, run_underlying ht, Result.andThen, goInt]
theorem OW.putM (K : KeyK P kt enc) (hm : MapB enc w g l) (ht : P.underlying t = some (.map kt et)) (hx : ev f m = mp_ g) (hy : ev f x = enc a) (hv : ev f y = u)
    (h : ∀ w', MapB enc w' g (putM l a u) → w.grownBy w' (some g) → k f w') : OW P N ⟨none, .mapUpdate t m x y, ty, pos, aft, gd⟩ Q k f w := by
  obtain ⟨es, c, h1, h2⟩ := hm.heap
  have hlt := hm.lt
  have hf := K.find a l es.toList w h2
  have hg : (getObj g).run P w = .ok (.map es c) w := by simp [getObj, Sem.run, h1]
  have hgrow : ∀ o : Obj, w.grownBy { w with heap := w.heap.setIfInBounds g o } (some g) := fun o => by
    refine ⟨rfl, rfl, rfl, by simp, fun i hi hn => ?_⟩
    simp only [Array.getElem?_setIfInBounds]
    rw [if_neg (fun e => hn (by rw [e]))]
  cases hi : idxK a (l.map Prod.fst) with
  | none =>
    refine OW.skip (w' := { w with heap := w.heap.setIfInBounds g (.map (es.push { key := enc a, val := u, born := c }) (c + 1)) }) rfl ?_ (h _ ⟨_, _, by simp only [Array.getElem?_setIfInBounds]; simp [hlt]; exact ⟨rfl, rfl⟩, ?_⟩ (hgrow _))
    · rw [hi] at hf
      simp only [execOp, hx, hy, hv, Sem.run_bind, Instr.mapUpdate, run_underlying ht, Result.andThen_ok, hg, K.check]
      rw [hf]
      simp [setObj, Sem.run, Result.andThen, h1]
    · rw [putM_new u hi]
      simp [h2]
  | some i =>
    obtain ⟨hil, hik, v, hgv⟩ := idxK_some l a i hi
    obtain ⟨e, he, hek⟩ := map_key_at h2 hil
    refine OW.skip (w' := { w with heap := w.heap.setIfInBounds g (.map (es.modify i fun e => { e with key := enc a, val := u }) c) }) rfl ?_ (h _ ⟨_, _, by simp only [Array.getElem?_setIfInBounds]; simp [hlt]; exact ⟨rfl, rfl⟩, ?_⟩ (hgrow _))
    · rw [hi, hgv] at hf
      have hea : es[i]? = some e := by simpa using he
      have hst : (Instr.keyThatStays (((es[i]?).map (·.key)).getD (enc a)) (enc a)).run P w = .ok (enc a) w := by
        rw [hea]
        simp only [Option.map_some, Option.getD_some, hek, hik]
        unfold Instr.keyThatStays
        rw [if_pos (K.bits a)]; rfl
      simp only [execOp, hx, hy, hv, Sem.run_bind, Instr.mapUpdate, run_underlying ht, Result.andThen_ok, hg, K.check]
      rw [hf]
      simp only [Option.bind_some, Option.map_some, Result.andThen_ok, Sem.run_bind, hst]
      simp [setObj, Sem.run, Result.andThen, h1]
    · rw [putM_at l a u i hi]
      apply List.ext_getElem?
      intro j
      have hj := congrArg (fun z => z[j]?) h2
      simp only [List.getElem?_map] at hj
      by_cases hji : j = i
      · subst hji
        have hlen : es.size = l.length := by have := congrArg List.length h2; simpa using this
        simp [hil, show es[j]? = some e by simpa using he]
      · rw [List.getElem?_map, List.getElem?_map, List.getElem?_set_ne (fun e => hji e.symm), ← hj]
        have hji2 : ¬ i = j := fun q => hji q.symm
        simp [hji2]
theorem run_equal_map_nil {a : Option Nat} (ht : P.underlying t = some (.map kt et)) : (Op.equal t (.map a) (.map none)).run P w = .ok a.isNone w := by
  unfold Op.equal
  rw [show Op.maxDepth = 9999 + 1 from rfl, Op.equalIn]
  simp only [Sem.run_bind, run_underlying ht, Result.andThen]
  cases a <;> rfl
theorem X.eqlMN {o : Option Nat} (hx : ev f x = .map o) (hy : ev f y = .map none) (ht : P.underlying t = some (.map kt et)) : (execOp (ev f) ⟨dst, .binOp .eql t x y t', ty, pos, aft, gd⟩).run P w = .ok (.value (.bool o.isNone)) w := by
  simp [execOp, hx, hy, eqGuard, binOp, run_equal_map_nil ht]
/-- a struct of numbers as a key -/
abbrev encL (l : List Int) : Value := .agg (l.map i64).toArray
end ops
section skey
/-- keys of n numbers -/
abbrev KeyN (n : Nat) : Type := { l : List Int // l.length = n }
abbrev encN {n : Nat} (k : KeyN n) : Value := .agg (k.1.map i64).toArray
theorem sameBits_agg : ∀ (l : List Int), (((l.map i64).toArray).toList.zip ((l.map i64).toArray).toList).all (fun (x, y) => Instr.sameBits 9999 x y) = true
  | [] => rfl
  | a :: l => by
    have := sameBits_agg l
    simp only [List.map_cons, List.zip_cons_cons, List.all_cons, Bool.and_eq_true] at this ⊢
    exact ⟨by rw [show (9999 : Nat) = 9998 + 1 from rfl]; simp [Instr.sameBits], this⟩
theorem checkFields {P : Program} {w : World} {n : Nat} {na : List Int} {b : Bool} {d : Nat} (ha : na.length = n) : ∀ (fs : List Field), (fs.all fun f => f.name != "_" && Nat.blt f.offset n && (match P.underlying f.type with | some (.int .i64) => true | _ => false)) = true →
    (forIn (m := Sem) fs PUnit.unit fun f _ => do
      if f.name ≠ "_" then do
        Instr.checkKey b (d + 1) f.type (← Go.part f.type (na.map i64).toArray f.offset)
        pure (ForInStep.yield PUnit.unit)
      else pure (ForInStep.yield PUnit.unit)).run P w = .ok PUnit.unit w
  | [], _ => by simp
  | f :: fs, h => by
    simp only [List.all_cons, Bool.and_eq_true, bne_iff_ne] at h
    obtain ⟨⟨⟨h1, h2⟩, h3⟩, h4⟩ := h
    have h2 : f.offset < n := by simpa [Nat.blt_eq] using h2
    have hu : P.underlying f.type = some (.int .i64) := by
      split at h3 <;> simp_all
    have hagg : (isAgg f.type).run P w = .ok false w := by simp [isAgg, run_underlying hu]
    have ih := checkFields (P := P) (w := w) (b := b) (d := d) ha fs h4
    have pa : (Go.part f.type (na.map i64).toArray f.offset).run P w = .ok (i64 (na.getD f.offset 0)) w := by
      simp [Go.part, hagg, Result.andThen, List.getElem?_eq_getElem (show f.offset < na.length by omega)]
    have hc : (Instr.checkKey b (d + 1) f.type (i64 (na.getD f.offset 0))).run P w = .ok () w := by
      rw [Instr.checkKey]; simp [run_underlying hu, Result.andThen]
    simp only [List.forIn_cons, if_pos h1, Sem.run_bind, pa, hc, Result.andThen_ok, Sem.run_pure]
    exact ih
theorem findAsk {P : Program} {w : World} {kt : TypeId} {n : Nat} (hf : flatB P kt n = true) (hu : P.underlying kt = some (.struct (P.fieldsOf kt))) (ho : offs P kt = List.range n) (k : KeyN n) : ∀ (l : List (KeyN n × Value)) (es : List MapEntry) (i : Nat), es.map (fun e => (e.key, e.val)) = l.map (fun p => (encN p.1, p.2)) →
    (Instr.findAsking kt (encN k) es i).run P w = .ok ((idxK k (l.map Prod.fst)).bind fun j => (getM l k).map fun v => (i + j, v)) w
  | [], [], i, _ => rfl
  | [], _ :: _, _, h => by simp at h
  | _ :: _, [], _, h => by simp at h
  | p :: l, e :: es, i, h => by
    simp only [List.map_cons, List.cons.injEq, Prod.mk.injEq] at h
    obtain ⟨⟨h1, h2⟩, h3⟩ := h
    have he : (Op.equal kt (encN k) e.key).run P w = .ok (decide (p.1 = k)) w := by
      rw [h1]
      have := run_equal_flat (P := P) (w := w) hf hu k.2 p.1.2
      unfold Op.equal
      rw [show Op.maxDepth = 10000 from rfl, this, ho]
      congr 1
      rw [Bool.eq_iff_iff, List.all_eq_true, decide_eq_true_iff]
      constructor
      · intro q
        refine Subtype.ext (List.ext_getElem (by rw [p.1.2, k.2]) fun j hj1 hj2 => ?_)
        have := q j (List.mem_range.2 (by have := k.2; omega))
        simp only [beq_iff_eq, List.getD_eq_getElem?_getD, List.getElem?_eq_getElem hj1, List.getElem?_eq_getElem hj2, Option.getD_some] at this
        exact this.symm
      · rintro e j _; rw [e]; simp
    simp only [Instr.findAsking, Sem.run_bind, he, Result.andThen_ok]
    by_cases hk : p.1 = k
    · rw [decide_eq_true hk]
      simp [idxK, getM, hk, h2]
    · rw [decide_eq_false hk]
      simp only [Bool.false_eq_true, if_false]
      rw [findAsk hf hu ho k l es (i + 1) h3]
      simp only [idxK, getM, List.map_cons, if_neg hk]
      cases idxK k (l.map Prod.fst) with
      | none => rfl
      | some j => simp [Nat.add_assoc, Nat.add_comm 1 j]
theorem struct_keys {P : Program} {kt : TypeId} {n : Nat} (hf : flatB P kt n = true) (hu : P.underlying kt = some (.struct (P.fieldsOf kt))) (ho : offs P kt = List.range n) : KeyK P kt (encN (n := n)) := by
  refine ⟨fun b k w => ?_, fun k l es w hl => ?_, fun k => ?_⟩
  · have h2 := hf
    simp only [flatB, Bool.and_eq_true, Bool.not_eq_true'] at h2
    rw [show (10000 : Nat) = 9998 + 1 + 1 from rfl, Instr.checkKey]
    have := checkFields (P := P) (w := w) (b := b) (d := 9998) k.2 _ h2.2
    simp only [Sem.run_bind, run_underlying hu, Result.andThen_ok]
    simp at this ⊢
    rw [this]
    rfl
  · have hnow : Instr.findNow (.struct (P.fieldsOf kt)) (encN k) es 0 = some none ∧ es = [] ∨ Instr.findNow (.struct (P.fieldsOf kt)) (encN k) es 0 = none := by
      cases es with
      | nil => exact .inl ⟨rfl, rfl⟩
      | cons e es => right; rfl
    simp only [Instr.findKey, Sem.run_bind, run_underlying hu, Result.andThen_ok]
    rcases hnow with ⟨h, rfl⟩ | h
    · rw [h]
      cases l with
      | nil => rfl
      | cons p l => simp at hl
    · rw [h]
      have := findAsk (P := P) (w := w) hf hu ho k l es 0 hl
      simpa using this
  · rw [show (10000 : Nat) = 9999 + 1 from rfl]
    simp only [Instr.sameBits, Bool.and_eq_true, beq_self_eq_true, true_and]
    exact sameBits_agg k.1
end skey
end Go.Proofs.Ytobjmehppmhkdaa.Kf
