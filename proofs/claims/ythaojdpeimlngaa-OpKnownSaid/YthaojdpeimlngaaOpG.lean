/- The walk of Get's parts. -/
import Derived.Test.YthaojdpeimlngaaOpP
import Derived.Test.YthaojdpeimlngaaGet
namespace Go.Proofs.Ythaojdpeimlngaa
open Go Go.RowKit Kf
set_option maxRecDepth 20000

theorem getLit_ok (g off gr : Nat) (cs : List Value) (r D left : Value) (L : List UInt8) (a B : Nat) (s : Pk.RS) (w : World) (hO : Blk w g 26 cs) (hoff : off < cs.length) (hr : Blk w gr 76 [r]) (hp : PR w B r D L a s left) (hne : g ≠ gr)
    (hap : ∀ b, (asRow r).ownBlock = some b → b ≠ g ∧ b ≠ gr) (hapD : ∀ b, D.ownBlock = some b → b ≠ g) :
    FnOk Try.prog 61 [.pointer (some ⟨g, off, none⟩), at_ gr] w (fun _ w' => Blk w' g 26 (cs.set off (i64 s.int.1)) ∧ Blk w' gr 76 [r] ∧ (∃ a' left', PR w' B r D L a' s.int.2 left') ∧ ∃ wm, w.grownBy wm (asRow r).ownBlock ∧ wm.grownBy w' (some g)) := by
  refine FnOk.enter (rs := []) Try.func61 rfl Try.ntmps61 Try.results61 rfl rfl ?_
  refine WF.region ?_
  refine WL.va rfl rfl rfl (X.move rfl) ?_
  refine WL.va rfl rfl rfl (X.loadO hr (Ext.refl _) rfl rfl Try.isAgg76) ?_
  refine WL.c rfl rfl rfl (X.call Try.call60 (evl_cons rfl evl_nil)) (rInt_ok r D left L a s _ B hp) ?_
  rintro v2 w1 ⟨rfl, ⟨a2, left2, hp2⟩, hx3⟩
  have := World.grownBy.size hx3
  replace hr := hr.keptR hx3 (fun b hb => by have := hap b hb; omega)
  replace hO := hO.keptR hx3 (fun b hb => by have := hap b hb; omega)
  have hwm := hx3
  refine WL.va rfl rfl rfl (X.nilCheck rfl) ?_
  refine WL.op rfl (OW.storeO hO hoff rfl rfl rfl Try.sizeOf3 ?_)
  intro w4 hO hx6
  have := World.grownBy.size hx6
  replace hr := hr.keptO hx6 (by omega)
  have hgo := hx6
  refine WL.nil ?_
  refine fin_n ?_
  exact ⟨hO, hr, ⟨_, _, hp2.kept hgo (.inr fun e => (hap _ e).1 rfl) (.inr fun e => hapD _ e rfl)⟩, _, hwm, hgo⟩

end Go.Proofs.Ythaojdpeimlngaa
