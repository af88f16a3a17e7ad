/- Rows of things of a fixed number of cells; copy, reslices, appends of noughts. -/
import Derived.Test.YtobjmehppmhkdaaObj
import Derived.Test.YtobjmehppmhkdaaBits
namespace Go.Proofs.Ytobjmehppmhkdaa.Kf
open Go Go.RowKit

section flat
variable {α : Type} {enc : α → List Value} {sz : Nat}
theorem flat_len (h : ∀ a, (enc a).length = sz) : ∀ l : List α, (l.flatMap enc).length = l.length * sz
  | [] => by simp
  | a :: l => by simp only [List.flatMap_cons, List.length_append, h, flat_len h l, List.length_cons, Nat.add_mul, Nat.one_mul]; omega
theorem flat_drop (h : ∀ a, (enc a).length = sz) : ∀ (l : List α) (k : Nat), (l.flatMap enc).drop (k * sz) = (l.drop k).flatMap enc
  | l, 0 => by simp
  | [], k + 1 => by simp
  | a :: l, k + 1 => by
    rw [List.flatMap_cons, show (k + 1) * sz = (enc a).length + k * sz from by rw [h, Nat.add_mul, Nat.one_mul, Nat.add_comm], List.drop_append, List.drop_of_length_le (by omega)]
    simp only [Nat.add_sub_cancel_left, List.nil_append, List.drop_succ_cons]
    exact flat_drop h l k
theorem flat_take (h : ∀ a, (enc a).length = sz) : ∀ (l : List α) (k : Nat), (l.flatMap enc).take (k * sz) = (l.take k).flatMap enc
  | l, 0 => by simp
  | [], k + 1 => by simp
  | a :: l, k + 1 => by
    rw [List.flatMap_cons, show (k + 1) * sz = (enc a).length + k * sz from by rw [h, Nat.add_mul, Nat.one_mul, Nat.add_comm], List.take_append, List.take_of_length_le (by omega)]
    simp only [Nat.add_sub_cancel_left, List.take_succ_cons, List.flatMap_cons]
    rw [flat_take h l k]
theorem flat_el (h : ∀ a, (enc a).length = sz) {l : List α} {k : Nat} (hk : k < l.length) : ((l.flatMap enc).drop (k * sz)).take sz = enc l[k] := by
  rw [flat_drop h, List.drop_eq_getElem_cons hk, List.flatMap_cons, List.take_append_of_le_length (by rw [h]; omega), List.take_of_length_le (by rw [h]; omega)]
theorem flat_get (h : ∀ a, (enc a).length = sz) {l : List α} {k off : Nat} (hk : k < l.length) (ho : off < sz) : (l.flatMap enc)[k * sz + off]? = (enc l[k])[off]? := by
  rw [← flat_el h hk, List.getElem?_take, if_pos ho, List.getElem?_drop]
theorem flat_set (h : ∀ a, (enc a).length = sz) {l : List α} {k : Nat} (hk : k < l.length) (a : α) : (l.flatMap enc).take (k * sz) ++ enc a ++ (l.flatMap enc).drop (k * sz + sz) = (l.set k a).flatMap enc := by
  rw [flat_take h, show k * sz + sz = (k + 1) * sz from by rw [Nat.add_mul, Nat.one_mul], flat_drop h, List.set_eq_take_append_cons_drop, if_pos hk]
  simp [List.flatMap_append]
theorem flat_one {l : List α} (h : ∀ a, ∀ u ∈ enc a, u.oneCell' = true) : ∀ u ∈ l.flatMap enc, u.oneCell' = true := by
  intro u hu
  obtain ⟨a, _, ha⟩ := List.mem_flatMap.1 hu
  exact h a u ha
end flat
theorem made_flat (z : Array Value) (h : 0 < z.size) : ∀ n : Nat, (madeCells z (n * z.size)).toList = (List.replicate n ()).flatMap fun _ => z.toList
  | 0 => by simp [madeCells]
  | n + 1 => by
    have ih := made_flat z h n
    have e : (madeCells z ((n + 1) * z.size)).toList = (madeCells z (n * z.size)).toList ++ z.toList := by
      apply List.ext_getElem?
      intro i
      simp only [madeCells, Array.toList_map, Array.toList_range, List.getElem?_map]
      rw [show (n + 1) * z.size = n * z.size + z.size from by rw [Nat.add_mul, Nat.one_mul]]
      have hr : ∀ q, (List.range q)[i]? = if i < q then some i else none := fun q => by
        split
        · rw [List.getElem?_range ‹_›]
        · rw [List.getElem?_eq_none (by simp; omega)]
      by_cases h1 : i < n * z.size
      · rw [hr, if_pos (by omega), List.getElem?_append_left (by simpa using h1), List.getElem?_map, hr, if_pos h1]
      · by_cases h2 : i < n * z.size + z.size
        · rw [hr, if_pos h2, List.getElem?_append_right (by simp; omega)]
          simp only [Option.map_some, List.length_map, List.length_range]
          have hm : i % z.size = i - n * z.size := by
            have : i = (i - n * z.size) + z.size * n := by rw [Nat.mul_comm z.size n]; omega
            conv => lhs; rw [this]
            rw [Nat.add_mul_mod_self_left, Nat.mod_eq_of_lt (by omega)]
          rw [hm, List.getElem?_eq_getElem (by simp; omega)]
          simp [getElem!_pos, show i - n * z.size < z.size by omega]
        · rw [hr, if_neg h2, List.getElem?_eq_none (by simp; omega)]
          rfl
    rw [e, ih, List.replicate_succ']
    simp [List.flatMap_append]

/-- 'append(s, make([]T, m)...)' where the room does not do -/
theorem run_append_make {P : Program} (w : World) (t t2 ty e : TypeId) {k2 kd : IntKind} (i : TypeInfo) (z : Value) (ht : P.underlying t = some (.slice e)) (ht2 : P.underlying t2 = some (.int k2)) (hi : P.info? e = some i) (hz : i.zero = some z)
    (b : Option Addr) (n cap : Nat) (olds : List Value) (hlo : olds.length = n * i.size) (holds : ∀ a, b = some a → ∀ j v, olds[j]? = some v → w.cell? (a.add j) = some v) (hb : b = none → n = 0)
    (m : Nat) (hm : 0 < m * i.size) (hg : cap < n + m) (h63 : ((n + m : Nat) : Int) ≤ 9223372036854775807) (hfit : Builtin.nextslicecap (n + m) cap * i.bytes ≤ 281474976710656) (hfit2 : m * i.bytes ≤ 281474976710656) :
    (Builtin.append_ #[t, t2] ty #[.slice b n cap, .int kd (m : Int)]).run P w =
      .ok (.slice (some ⟨w.heap.size, 0, none⟩) (n + m) (grownCap w (n + m) cap e))
        (w.drew.alloc (.cells (olds.toArray ++ Builtin.zeroCells z.cells m ++ Builtin.zeroCells z.cells (grownCap w (n + m) cap e - (n + m))) e)) := by
  have hn : ¬ (n + m ≤ cap) := by omega
  have h63' : ¬ (9223372036854775807 < ((n : Int) + (m : Int))) := by omega
  have h48' : ¬ (281474976710656 < Builtin.nextslicecap (n + m) cap * i.bytes) := by omega
  have h48 : ¬ (281474976710656 < (m : Int) * (i.bytes : Int)) := by rw [← Int.natCast_mul]; omega
  have hwr : IntKind.i64.wrap (m : Int) = (m : Int) := w64 (by omega)
  have hneg : ¬ ((m : Int) < 0) := by omega
  have hm0 : m ≠ 0 := by rintro rfl; simp at hm
  have hi0 : m * i.size ≠ 0 := by omega
  have hfo : (Builtin.firstCells i.size n (.slice b n cap)).run P w.drew = .ok olds.toArray w.drew := by
    cases b with
    | none => rw [hb rfl] at hlo; have h0 : olds = [] := List.eq_nil_of_length_eq_zero (by simpa using hlo); subst h0; simp [Builtin.firstCells]
    | some a => exact run_firstCells_some (P := P) w.drew i.size n a n cap olds hlo (by simpa using holds a rfl)
  simp [Builtin.append_, run_underlying ht, run_underlying ht2, sizeOf, typeInfo, zeroValue, hi, hz, asInt, asIntOf, hwr, hneg, h48, hn, h63', h48', hm0, hi0, Question.forced, hfo, newRow, grownCap, Result.andThen]
/-- two rows in blocks of their own do not overlap -/
theorem X.overlapsF {P : Program} {f : Fr} {w : World} {dst : Option Tmp} {ty t tR e : TypeId} {pos : String} {aft : Array Edge} {x y : Operand} {gd : Option (Nat × Bool)} {K : FuncId} {ats : Array TypeId} {u v d : Value} {n m sz sz2 B B2 j : Nat} {cs ds : List Value}
    (hcall : ∀ as : Array Value, (callFunc K as).run P w = ((Extern.SlicesOverlaps.overlaps #[t, t] #[tR] as).run P w).andThen fun v w' => .ok (.value v) w')
    (ht : P.underlying t = some (.slice e)) (hs : ∀ w, (sizeOf e).run P w = .ok sz w)
    (h1 : w.ownsRow B2 e sz2 u m cs) (h2 : w.ownsRow B e sz v n ds) (hap : Apart u v) (hm : 0 < m) (hn : j < n) (hsz : 0 < sz) (hd : d = part v j n sz) (hx : ev f x = u) (hy : ev f y = d) :
    (execOp (ev f) ⟨dst, .call ⟨.value (.func K), #[x, y], ats⟩, ty, pos, aft, gd⟩).run P w = .ok (.value (.bool false)) w := by
  rcases h1.2 with ⟨rfl, rfl⟩ | ⟨b1, cap1, cur1, rfl, hB1, hg1, hnc1, hcm1, hcs1, htake1⟩
  · omega
  rcases h2.2 with ⟨rfl, rfl⟩ | ⟨b2, cap2, cur2, rfl, hB2, hg2, hnc2, hcm2, hcs2, htake2⟩
  · omega
  have hne : b1 ≠ b2 := fun e => hap b1 rfl (by rw [e]; rfl)
  have hdv : d = .slice (some ⟨b2, j * sz, none⟩) (n - j) (cap2 - j) := by
    rw [hd]
    simp only [Kf.part, sliced]
    rw [if_neg (by omega)]
    simp [Addr.add_lit]
  have hc2 : cur2.size ≠ 0 := by
    have : n * sz ≤ cap2 * sz := Nat.mul_le_mul_right _ hnc2
    have : sz ≤ n * sz := Nat.le_mul_of_pos_left _ (by omega)
    omega
  have hov := Lib.run_overlaps_apart (P := P) w t tR e ht sz hs ⟨b1, 0, none⟩ ⟨b2, j * sz, none⟩ m cap1 (n - j) (cap2 - j) hne e e cur1.size cur2.size (by simp [World.shape?, hg1]) (by simp [World.shape?, hg2]) hc2 (by simp [World.frozen?, hg1]) (by simp [World.frozen?, hg1])
  have hev : ev f (.func K) = .func (.func K) #[] #[] := rfl
  simp [execOp, resolve, Deferred.ofValue, hev, invoke, hx, hy, hdv, hcall, hov, Result.andThen]
/-- a reslice into the room behind the elements -/
theorem X.slHc {P : Program} {f : Fr} {w : World} {dst : Option Tmp} {ty t e : TypeId} {pos : String} {aft : Array Edge} {x z : Operand} {gd : Option (Nat × Bool)} {b n c m sz : Nat} {kd : IntKind}
    (hx : ev f x = .slice (some ⟨b, 0, none⟩) n c) (hz : ev f z = .int kd (m : Int)) (hm : m ≤ c) (hc : 0 < c) (ht : P.underlying t = some (.slice e)) (hs : ∀ w, (sizeOf e).run P w = .ok sz w) :
    (execOp (ev f) ⟨dst, .slice t x none (some z) none, ty, pos, aft, gd⟩).run P w = .ok (.value (.slice (some ⟨b, 0, none⟩) m c)) w := by
  have he : P.elem t = e := by simp [Program.elem, ht]
  have ht' : P.underlying t = some (.slice (P.elem t)) := by rw [he]; exact ht
  simp only [execOp, hx, hz, Option.map_some, Option.map_none]
  simp [run_sliceAt_slice w t _ _ _ _ ht', run_slice_h w t (some ⟨b, 0, none⟩) n c ht' kd m (by omega) (by omega), he, hs, Result.andThen, sliced, Addr.add_lit, show ¬ c = 0 by omega]
/-- what stands behind an insertion -/
theorem ins_new {xs news zs : List Value} {n i sz : Nat} (hx : xs.length = n * sz) (hn : news.length = 1 * sz) (hi : i ≤ n) (hz : zs.length = (n + 1 - i) * sz) {L : List Value} (hL : L = (xs.take (i * sz) ++ zs).take (i * sz) ++ news ++ (xs.take (i * sz) ++ zs).drop ((i + 1) * sz)) :
    L.take ((i + 1) * sz) ++ (xs.drop (i * sz)).take ((n - i) * sz) ++ L.drop ((i + 1 + (n - i)) * sz) = xs.take (i * sz) ++ news ++ xs.drop (i * sz) := by
  have h1 : i * sz ≤ n * sz := Nat.mul_le_mul_right _ hi
  have h2 : (i + 1) * sz = i * sz + sz := by rw [Nat.add_mul, Nat.one_mul]
  have h3 : (n + 1 - i) * sz = n * sz + sz - i * sz := by rw [Nat.sub_mul, Nat.add_mul, Nat.one_mul]
  have h4 : (n - i) * sz = n * sz - i * sz := Nat.sub_mul _ _ _
  have h5 : (i + 1 + (n - i)) * sz = n * sz + sz := by rw [show i + 1 + (n - i) = n + 1 by omega, Nat.add_mul, Nat.one_mul]
  have htl : (xs.take (i * sz)).length = i * sz := by simp; omega
  have e0 : (xs.take (i * sz) ++ zs).take (i * sz) = xs.take (i * sz) := List.take_left' htl
  rw [e0] at hL
  have hLl : L.length = n * sz + sz := by rw [hL]; simp; omega
  have e1 : (xs.drop (i * sz)).take ((n - i) * sz) = xs.drop (i * sz) := List.take_of_length_le (by simp; omega)
  have e2 : L.drop ((i + 1 + (n - i)) * sz) = [] := List.drop_of_length_le (by omega)
  have e3 : L.take ((i + 1) * sz) = xs.take (i * sz) ++ news := by rw [hL]; exact List.take_left' (by simp; omega)
  rw [e1, e2, e3, List.append_nil]
theorem place_src {xs ys : List Value} {n i sz : Nat} (hx : xs.length = n * sz) (hy : ys.length = 1 * sz) (hi : i < n) : (((xs ++ ys).drop (i * sz)).take ((n + 1 - i) * sz)).take ((n - i) * sz) = xs.drop (i * sz) := by
  have h1 : i * sz + sz ≤ n * sz := by rw [← Nat.succ_mul]; exact Nat.mul_le_mul_right _ hi
  have h3 : (n + 1 - i) * sz = n * sz + sz - i * sz := by rw [Nat.sub_mul, Nat.add_mul, Nat.one_mul]
  have h4 : (n - i) * sz = n * sz - i * sz := Nat.sub_mul _ _ _
  rw [List.take_take, h3, h4, Nat.min_eq_left (by omega), List.drop_append_of_le_length (by omega), List.take_left' (by simp; omega)]
theorem ins_place {xs ys news : List Value} {n i sz : Nat} (hx : xs.length = n * sz) (hy : ys.length = 1 * sz) (hn : news.length = 1 * sz) (hi : i < n) {L : List Value}
    (hL : L = (xs ++ ys).take ((i + 1) * sz) ++ (((xs ++ ys).drop (i * sz)).take ((n + 1 - i) * sz)).take ((n - i) * sz) ++ (xs ++ ys).drop ((i + 1 + (n - i)) * sz)) :
    L.take (i * sz) ++ news ++ L.drop ((i + 1) * sz) = xs.take (i * sz) ++ news ++ xs.drop (i * sz) := by
  have h1 : i * sz + sz ≤ n * sz := by rw [← Nat.succ_mul]; exact Nat.mul_le_mul_right _ hi
  have h2 : (i + 1) * sz = i * sz + sz := by rw [Nat.add_mul, Nat.one_mul]
  have h5 : (i + 1 + (n - i)) * sz = n * sz + sz := by rw [show i + 1 + (n - i) = n + 1 by omega, Nat.add_mul, Nat.one_mul]
  have e1 := place_src hx hy hi
  rw [e1, h5, List.drop_of_length_le (show (xs ++ ys).length ≤ n * sz + sz by simp; omega), List.append_nil, List.take_append_of_le_length (by omega)] at hL
  have hl : (xs.take ((i + 1) * sz)).length = (i + 1) * sz := by simp; omega
  rw [hL, List.take_append_of_le_length (by omega), List.take_take, Nat.min_eq_left (by omega), List.drop_left' hl]
section own
variable {w w' : World} {B e n sz : Nat} {v : Value} {xs : List Value}
/-- with more of its room -/
theorem own_more (ho : w.ownsRow B e sz v n xs) (m : Nat) (hm : n + m ≤ capOf v) (hn : 0 < capOf v) : ∃ ys b c, v = .slice (some ⟨b, 0, none⟩) n c ∧ n + m ≤ c ∧ 0 < c ∧ ys.length = m * sz ∧ w.ownsRow B e sz (.slice (some ⟨b, 0, none⟩) (n + m) c) (n + m) (xs ++ ys) := by
  rcases ho.2 with ⟨rfl, rfl⟩ | ⟨b, cap, cur, rfl, hB, hg, hnc, hcm, hcs, htake⟩
  · simp [capOf] at hn
  simp only [capOf] at hm hn
  have hl := ho.1
  have hle : n * sz + m * sz ≤ cap * sz := by rw [← Nat.add_mul]; exact Nat.mul_le_mul_right _ hm
  refine ⟨(cur.toList.drop (n * sz)).take (m * sz), b, cap, rfl, hm, hn, by simp; omega, ?_, .inr ⟨b, cap, cur, rfl, hB, hg, hm, hcm, hcs, ?_⟩⟩
  · rw [Nat.add_mul]; simp; omega
  · rw [Nat.add_mul, List.take_add, htake]
theorem cap_part (ho : w.ownsRow B e sz v n xs) (i : Nat) : capOf (part v 0 i sz) = capOf v := by
  rcases ho.2 with ⟨rfl, rfl⟩ | ⟨b, cap, cur, rfl, _⟩
  · simp [capOf, part, sliced]
  · simp [capOf, part, sliced]
theorem own_cap (ho : w.ownsRow B e sz v n xs) : n ≤ capOf v ∧ capOf v ≤ maxLen := by
  rcases ho.2 with ⟨rfl, rfl⟩ | ⟨b, cap, cur, rfl, hB, hg, hnc, hcm, hcs, htake⟩
  · simp [capOf, maxLen]
  · exact ⟨hnc, hcm⟩
end own

section mem
variable {P : Program} {N : Nat} {Q : Post} {f : Fr} {w : World} {k : Fr → World → Prop} {d : Nat} {ty t e : TypeId} {pos : String} {aft : Array Edge} {gd : Option (Nat × Bool)} {x y : Operand} {u v p z : Value} {n m sz B off g j : Nat} {cs ds xs news : List Value}
/-- 'copy' of m elements into an own row, from place j on -/
theorem OW.copyAt {dv : Value} {ms : Nat} {news0 : List Value} {i : TypeInfo} (ho : w.ownsRow B e sz v n xs) (hsz : 0 < sz) (hr : Row w u ms sz news0) (hn0 : news = news0.take (m * sz)) (h1 : ∀ u ∈ news, u.oneCell' = true) (hd0 : dv = part v j n sz) (hmin : Nat.min ms (n - j) = m) (hp : 0 < m) (hx : ev f x = dv) (hy : ev f y = u)
    (ht : P.underlying t = some (.slice e)) (hi : P.info? e = some i) (hsize : i.size = sz)
    (h : ∀ w', w'.ownsRow B e sz v n (xs.take (j * sz) ++ news ++ xs.drop ((j + m) * sz)) → w.grownBy w' v.ownBlock → k (put f d (.int .i64 (m : Int))) w') (hd : d < N) : OW P N ⟨some d, .call ⟨.builtin .copy, #[x, y], #[t, t]⟩, ty, pos, aft, gd⟩ Q k f w := by
  have hmin' : m ≤ ms ∧ m ≤ n - j := ⟨hmin ▸ Nat.min_le_left _ _, hmin ▸ Nat.min_le_right _ _⟩
  obtain ⟨hms, hmn⟩ := hmin'
  rcases ho.2 with ⟨rfl, rfl⟩ | ⟨b, cap, cur, rfl, hB, hg, hnc, hcm, hcs, htake⟩
  · omega
  obtain ⟨a, c, rfl, hmc, _, ha⟩ := hr.shape
  have hj : j + m ≤ n := by omega
  obtain ⟨b2, o2, rfl⟩ := ha (by omega)
  have hl0 := hr.len
  have hl : news.length = m * sz := by
    have : m * sz ≤ ms * sz := Nat.mul_le_mul_right _ hms
    rw [hn0]; simp; omega
  have hxl := ho.1
  have hle : (j + m) * sz ≤ n * sz := Nat.mul_le_mul_right _ hj
  have hle2 : n * sz ≤ cap * sz := Nat.mul_le_mul_right _ hnc
  have hjm : (j + m) * sz = j * sz + m * sz := Nat.add_mul _ _ _
  have hdv : dv = .slice (some ⟨b, j * sz, none⟩) (n - j) (cap - j) := by
    rw [hd0]
    simp only [Kf.part, sliced]
    rw [if_neg (by omega)]
    simp [Addr.add_lit]
  have hcell : ∀ q x, news[q]? = some x → w.cell? ((⟨b2, o2, none⟩ : Addr).add q) = some x := fun q x hq => by
    refine hr.cell q x ?_
    rw [hn0, List.getElem?_take] at hq
    split at hq
    · exact hq
    · cases hq
  have hlc := run_loadCells_list (P := P) w ⟨b2, o2, none⟩ news hcell
  rw [hl] at hlc
  have hst := run_storeCells_at P b (j * sz) e news 0 cur w hg (by rw [hl]; omega) h1
  simp only [Nat.add_zero] at hst
  refine OW.val rfl hd (v := .int .i64 (m : Int)) (w' := w.setRow b (cur.toList.take (j * sz) ++ news ++ cur.toList.drop (j * sz + news.length)).toArray) ?_ (h _ ⟨?_, .inr ⟨b, cap, _, rfl, hB, setRow_heap w b cur _ e _ hg, hnc, hcm, ?_, ?_⟩⟩ (by simpa [Value.ownBlock] using grown_setRow))
  · simp [execOp, resolve, invoke, builtin, hx, hy, hdv, Builtin.copy_, run_underlying ht, Builtin.lenOf, Builtin.firstCells, sizeOf, typeInfo, hi, hsize, hmin, hlc, hst, Result.andThen, goInt]
  · simp; omega
  · simp; omega
  · rw [List.toList_toArray, hl, ← hjm, ← htake, List.take_append, List.take_append]
    simp only [List.take_take, List.length_take, Array.length_toList, List.length_append, hl]
    rw [Nat.min_eq_left (show j * sz ≤ cur.size by omega), Nat.min_eq_right (show j * sz ≤ n * sz by omega), Nat.min_eq_left (show j * sz ≤ n * sz by omega), List.take_of_length_le (show news.length ≤ n * sz - j * sz by omega), List.drop_take, hjm]
/-- 'append(s, make([]T, m)...)' -/
theorem OW.appendMake {i : TypeInfo} {bytes : Nat} {kd : IntKind} (ho : w.ownsRow B e sz v n xs) (hx : ev f x = v) (hy : ev f y = .int kd (m : Int)) {t2 : TypeId} {k2 : IntKind} (ht2 : P.underlying t2 = some (.int k2))
    (ht : P.underlying t = some (.slice e)) (hi : P.info? e = some i) (hz : i.zero = some z) (hsize : i.size = sz) (hby : i.bytes = bytes) (hzs : z.cells.size = sz) (hsz : 0 < sz)
    (h63 : n + m ≤ maxLen) (hbytes : (n + m) * bytes ≤ 140737488355328) (hm : 0 < m) (hcap : capOf v < n + m)
    (h : ∀ v' w', w'.ownsRow w.heap.size e sz v' (n + m) (xs ++ (madeCells z.cells (m * sz)).toList) → Ext w w' → k (put f d v') w') (hd : d < N) : OW P N ⟨some d, .call ⟨.builtin .append, #[x, y], #[t, t2]⟩, ty, pos, aft, gd⟩ Q k f w := by
  subst hsize
  subst hby
  have hl := ho.1
  have hzc : ∀ q, Builtin.zeroCells z.cells q = madeCells z.cells (q * i.size) := fun q => by unfold Builtin.zeroCells madeCells; rw [hzs]
  have key : ∀ (b : Option Addr) (cap : Nat), v = .slice b n cap → (∀ a, b = some a → ∀ j u, xs[j]? = some u → w.cell? (a.add j) = some u) → (b = none → n = 0) → OW P N ⟨some d, .call ⟨.builtin .append, #[x, y], #[t, t2]⟩, ty, pos, aft, gd⟩ Q k f w := by
    intro b cap hv hc hb
    subst hv
    simp only [capOf] at hcap
    have hge := grownCap_ge w (n + m) cap e
    have hcm : grownCap w (n + m) cap e ≤ maxLen := grownCap_le_maxLen w (n + m) cap e h63
    have hmb : m * i.bytes ≤ 281474976710656 := by have : m * i.bytes ≤ (n + m) * i.bytes := Nat.mul_le_mul_right _ (by omega); omega
    have hrun := run_append_make (P := P) w t t2 ty e (k2 := k2) (kd := kd) i z ht ht2 hi hz b n cap xs hl hc hb m (Nat.mul_pos hm hsz) hcap (by unfold maxLen at h63; omega) (growslice_fits hcap hbytes) hmb
    refine OW.val rfl hd (v := .slice (some ⟨w.heap.size, 0, none⟩) (n + m) (grownCap w (n + m) cap e)) (w' := w.drew.alloc (.cells (xs.toArray ++ Builtin.zeroCells z.cells m ++ Builtin.zeroCells z.cells (grownCap w (n + m) cap e - (n + m))) e)) ?_ (h _ _ ⟨?_, .inr ⟨w.heap.size, _, _, rfl, Nat.le_refl _, heap_alloc_new w.drew _, hge, hcm, ?_, ?_⟩⟩ ⟨rfl, rfl, rfl, by simp, fun k hk _ => heap_alloc_old w.drew _ hk⟩)
    · simp [execOp, resolve, invoke, builtin, hx, hy, hrun]
    · simp [hl, size_madeCells, Nat.add_mul]
    · simp only [Array.size_append, List.size_toArray, size_zeroCells, hzs, hl, ← Nat.add_mul]
      congr 1
      omega
    · simp only [hzc, Array.toList_append, List.append_assoc]
      rw [← List.append_assoc]
      refine List.take_left' ?_
      simp [hl, size_madeCells, Nat.add_mul]
  rcases ho.2 with ⟨rfl, rfl⟩ | ⟨b, cap, cur, rfl, _⟩
  · exact key none 0 rfl (fun a ha => by cases ha) (fun _ => rfl)
  · exact key _ _ rfl (fun a ha => by injection ha with ha; subst ha; exact ho.cells (g := b) rfl) (fun h => by cases h)
end mem
end Go.Proofs.Ytobjmehppmhkdaa.Kf
