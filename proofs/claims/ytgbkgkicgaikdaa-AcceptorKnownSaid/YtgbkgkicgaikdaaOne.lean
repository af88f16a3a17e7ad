/- The rounds of AcceptorOne, and a round's step in the law. -/
import Derived.Test.YtgbkgkicgaikdaaAccO
namespace Go.Proofs.Ytgbkgkicgaikdaa
open Go Go.RowKit Kf

structure Rnd where
  Ask : Int
  Send : Int
  Free : Bool
abbrev Rnd.c (r : Rnd) : List Go.Value := [.int .u8 r.Ask, .int .u8 r.Send, .bool r.Free]
theorem Rnd.c_len (r : Rnd) : r.c.length = 3 := rfl
theorem Rnd.c_one (r : Rnd) : ∀ u ∈ r.c, u.oneCell' = true := by simp [Rnd.c, Go.Value.oneCell']
abbrev Rnds (w : World) (v : Value) (l : List Rnd) : Prop := Row w v l.length 3 (l.flatMap Rnd.c)
theorem Rnds.el {l : List Rnd} {k : Nat} (hk : k < l.length) : ((l.flatMap Rnd.c).drop (k * 3)).take 3 = l[k].c := flat_el Rnd.c_len hk
theorem Rnds.get {l : List Rnd} {k : Nat} (hk : k < l.length) {off : Nat} (ho : off < 3) : (l.flatMap Rnd.c)[k * 3 + off]? = l[k].c[off]? := flat_get Rnd.c_len hk ho

/-- what each ballot puts forward -/
def valOf (cm : Bool) (P : List Int) (b : Nat) : Int := if b = 0 then freeV cm else P.getD (b - 1) 0
theorem valOf_succ (cm : Bool) (P : List Int) (b : Nat) : valOf cm P (b + 1) = P.getD b 0 := rfl
theorem valOf_set {cm : Bool} {P : List Int} {k : Nat} {v : Int} (hk : k < P.length) : valOf cm (P.set k v) (k + 1) = v ∧ ∀ b, b ≠ k + 1 → valOf cm (P.set k v) b = valOf cm P b := by
  refine ⟨by rw [valOf_succ]; simp [hk], fun b hb => ?_⟩
  unfold valOf
  by_cases h0 : b = 0
  · rw [if_pos h0, if_pos h0]
  · rw [if_neg h0, if_neg h0]
    have : ¬ k = b - 1 := by omega
    simp [this]
theorem one_start {n m : Nat} {cm : Bool} : PInv n 0 0 (valOf cm (List.replicate m 0)) (stA (List.replicate 7 [])) 0 := by
  refine PInv.start (fun b => ?_) (fun j _ => ?_)
  · unfold valOf
    split
    · exact .inr (freeV_12 cm)
    · left; rw [List.getD_eq_getElem?_getD, List.getElem?_replicate]; split <;> rfl
  · unfold stA
    have : (List.replicate 7 ([] : List Acc)).getD j [] = [] := by rw [List.getD_eq_getElem?_getD, List.getElem?_replicate]; split <;> rfl
    rw [this]; exact ⟨rfl, rfl, rfl⟩
section steps
variable {n na ns : Nat} {cm : Bool} {P : List Int} {L L' : List (List Acc)} {ch v x b : Int}
theorem PInv.ballot0 (h : PInv n na ns (valOf cm P) (stA L) ch) : ∀ j, j < n → 0 ≤ (stA L j).Ballot := fun j hj => (h.low j hj).1
theorem one_ask (h : PInv n na ns (valOf cm P) (stA L) ch) (hn : n ≤ 7) (hk : na < P.length) (hS : Served (prepS ((na : Int) + 1)) (bitB x) n L L')
    (hv : if n < 2 * cnt (qAsk x ((na : Int) + 1) L) n then ∃ free best, (free = 1 ∨ free = 2) ∧ BestV (stA L) (qAsk x ((na : Int) + 1) L) n free best v else v = 0) : PInv n (na + 1) ns (valOf cm (P.set na v)) (stA L') ch := by
  refine h.ask (q := bitB x) (fun j hj => ?_) hv (valOf_set hk).1 (valOf_set hk).2
  rw [hS j (by omega)]
  by_cases hb : bitB x j = true
  · rw [if_pos ⟨hj, hb⟩, if_pos hb]
  · rw [if_neg (fun e => hb e.2), if_neg hb]
theorem one_send {b : Nat} (h : PInv n na ns (valOf cm P) (stA L) ch) (hn : n ≤ 7) (hb : ns ≤ b) (hba : b ≤ na) (hvb : valOf cm P b = v) (hv : v ≠ 0) (hS : Served (propS (b : Int) v) (bitB x) n L L') :
    (n < 2 * cnt (qSend x (b : Int) L) n → (ch = 0 ∨ ch = v) ∧ PInv n na (b + 1) (valOf cm P) (stA L') v) ∧ (¬ n < 2 * cnt (qSend x (b : Int) L) n → PInv n na (b + 1) (valOf cm P) (stA L') ch) := by
  refine h.send (q := bitB x) hb hba hvb hv (fun j hj => ?_)
  rw [hS j (by omega)]
  by_cases hq : bitB x j = true
  · rw [if_pos ⟨hj, hq⟩, if_pos hq]
  · rw [if_neg (fun e => hq e.2), if_neg hq]
theorem one_12 {b : Nat} (h : PInv n na ns (valOf cm P) (stA L) ch) (h0 : P.getD b 0 ≠ 0) : P.getD b 0 = 1 ∨ P.getD b 0 = 2 := by
  have := h.v12 (b + 1)
  rw [valOf_succ] at this
  exact this.resolve_left h0
theorem made7 : (madeCells #[Value.slice none 0 0] (7 * 1)).toList = List.replicate 7 (.slice none 0 0) := by kernel_rfl
end steps
end Go.Proofs.Ytgbkgkicgaikdaa
