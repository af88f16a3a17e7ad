/- For AcceptorKnown: its lists, and rows of rows. -/
import Derived.Test.YtgbkgkicgaikdaaAccP
namespace Go.Proofs.Ytgbkgkicgaikdaa
open Go Go.RowKit Kf

theorem own_sz {w : World} {B sz n : Nat} {e : TypeId} {v : Value} {xs : List Value} (h : w.ownsRow B e sz v n xs) : v.cells.size = 1 := by
  rcases h.2 with ⟨rfl, _⟩ | ⟨g, cap, cur, rfl, _⟩ <;> rfl
theorem flat_ones {vs : List Value} (h : ∀ v ∈ vs, v.oneCell' = true) : (vs.flatMap fun v => v.cells.toList) = vs := by
  induction vs with
  | nil => rfl
  | cons v vs ih =>
    rw [List.flatMap_cons, ih fun u hu => h u (List.mem_cons_of_mem _ hu), cells_one (h v (by simp))]; rfl
abbrev nums : List Int := [-9223372036854775808, -1, 0, 1, 2, 3, 4, 5, 6, 1099511627776, 9223372036854775807]
theorem nums_in (j : Nat) : -9223372036854775808 ≤ nums.getD j 0 ∧ nums.getD j 0 ≤ 9223372036854775807 := by
  by_cases h : j < nums.length
  · have hm : nums.getD j 0 ∈ nums := by rw [List.getD_eq_getElem?_getD, List.getElem?_eq_getElem h]; exact List.getElem_mem h
    have : ∀ x ∈ nums, -9223372036854775808 ≤ x ∧ x ≤ 9223372036854775807 := by decide
    exact this _ hm
  · rw [List.getD_eq_getElem?_getD, List.getElem?_eq_none (by omega)]; decide
theorem wrap_in64 (x : Int) : -9223372036854775808 ≤ IntKind.i64.wrap x ∧ IntKind.i64.wrap x ≤ 9223372036854775807 := by
  rw [IntKind.wrap_i64]; omega
theorem votes_from {w : World} {v : Value} {l : List Acc} (h : Votes w v l) (i : Nat) (hi : i ≤ l.length) : Votes w (Kf.part v i l.length 5) (l.drop i) := by
  have := Row.part h i l.length hi (Nat.le_refl _)
  rw [flat_drop Acc.c_len] at this
  unfold Votes
  rw [List.length_drop]
  have e : ((l.drop i).flatMap Acc.c).take ((l.length - i) * 5) = (l.drop i).flatMap Acc.c := List.take_of_length_le (by rw [flat_len Acc.c_len, List.length_drop]; exact Nat.le_refl _)
  rw [e] at this
  exact this
theorem vote_in64 {k f b x : Int} (hk : -9223372036854775808 ≤ k ∧ k ≤ 9223372036854775807) (hf : -9223372036854775808 ≤ f ∧ f ≤ 9223372036854775807) (hb : -9223372036854775808 ≤ b ∧ b ≤ 9223372036854775807) (hx : -9223372036854775808 ≤ x ∧ x ≤ 9223372036854775807) : In64 (voteM k f b x).ints := by
  intro y hy; simp [Msg.ints] at hy; omega
abbrev oddM (t p : Int) : Msg := ⟨10, 0, 0, 0, 0, 0, 0, 0, 0, t, p, 0, 2, 0, false, [], []⟩
theorem odd_in64 {t p : Int} (ht : -9223372036854775808 ≤ t ∧ t ≤ 9223372036854775807) (hp : -9223372036854775808 ≤ p ∧ p ≤ 9223372036854775807) : In64 (oddM t p).ints := by
  intro y hy; simp [Msg.ints] at hy; omega
abbrev fullM (b : Int) : Msg := ⟨8, 2, 0, 0, 0, 0, 0, 0, 0, 5, 2, b, 0, 0, false, [], []⟩
theorem full_in64 {b : Int} (hb : -9223372036854775808 ≤ b ∧ b ≤ 9223372036854775807) : In64 (fullM b).ints := by
  intro y hy; simp [Msg.ints] at hy; omega
theorem known_takes {w : World} {v : Value} {l : List Acc} {id : Int} {m : Msg} (hv : Votes w v l) (hid : -9223372036854775808 ≤ id ∧ id ≤ 9223372036854775807) (hm : In64 m.ints) (he : m.Entries = []) (hd : m.Data = []) :
    FnOk Try.prog 3 [v, i64 id, agg (m.c nilS nilS)] w (fun r w' => r = .bool true ∧ Ext w w') :=
  acceptorTakes_walk v l id m nilS nilS w hv hid (by rw [he]; exact Recs.nil) (by rw [hd]; exact Bytes.nil w) hm
end Go.Proofs.Ytgbkgkicgaikdaa
