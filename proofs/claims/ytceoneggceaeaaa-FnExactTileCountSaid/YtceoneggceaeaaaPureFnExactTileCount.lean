/- The program's TileCount returns what the reference's TileCount returns, for all arguments. No condition. -/
import Derived.Test.YtceoneggceaeaaaPFnExactTileCountx1
namespace Go.Proofs.Ytceoneggceaeaaa.Pure
open Go.RowKit Go.Proofs.Ytceoneggceaeaaa.PFnExactTileCount Go.Proofs.YtceoneggceaeaaaW.PrintWords Go.Proofs.YtceoneggceaeaaaW.PrintLast

theorem FnExactTileCount : laws_FnExactTileCount.Pure := by
  intro w h _ _
  refine ⟨1, ?_⟩
  have e : wrap64 (wrap64 (w + 4) - 1) = wrap64 (w + 3) := by unfold wrap64; omega
  have e' : wrap64 (wrap64 (h + 4) - 1) = wrap64 (h + 3) := by unfold wrap64; omega
  unfold laws_FnExactTileCount.f spec_TileCount.f impl_TileCount.f impl_TileCount.j0 impl_isSide.f impl_inRange.f spec_l01In.f impl_tilesAlong.f
  by_cases a : w ≥ 1 <;> by_cases b : w ≤ 12 <;> by_cases c : h ≥ 1 <;> by_cases d : h ≤ 12 <;> simp [a, b, c, d, e, e']

end Go.Proofs.Ytceoneggceaeaaa.Pure
