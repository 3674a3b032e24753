import Derived.Test.YtapchldnmkfkoaaAmShPfa
import Derived.Test.YtapchldnmkfkoaaAmShPfb
import Derived.Test.YtapchldnmkfkoaaAmShPfc
set_option linter.unusedVariables false
set_option linter.unusedSimpArgs false
set_option linter.unusedSectionVars false
namespace Go.Proofs.Ytapchldnmkfkoaa.Am
open Go Go.Proofs
set_option maxRecDepth 100000
set_option linter.unusedSimpArgs false
set_option linter.unusedVariables false
set_option maxHeartbeats 4000000
theorem laws_szColorS_ok (hm : Try.prog.follows .mixedOrders = true) : Sound Try.prog 49 laws_szColorS_x := laws_szColorS_ok0 hm
theorem laws_szSurface_ok (hm : Try.prog.follows .mixedOrders = true) : Sound Try.prog 9 laws_szSurface_x := laws_szSurface_ok0 hm (laws_szColorS_ok hm)
theorem laws_toColor_ok (hm : Try.prog.follows .mixedOrders = true) : Sound Try.prog 111 laws_toColor_x := laws_toColor_ok0 hm
theorem laws_toColorS_ok (hm : Try.prog.follows .mixedOrders = true) : Sound Try.prog 52 laws_toColorS_x := laws_toColorS_ok0 hm (laws_toColor_ok hm)
theorem laws_toSurface_ok (hm : Try.prog.follows .mixedOrders = true) : Sound Try.prog 11 laws_toSurface_x := laws_toSurface_ok0 hm (laws_toColorS_ok hm)
theorem spec_l01In_ok (hm : Try.prog.follows .mixedOrders = true) : Sound Try.prog 71 spec_l01In_x := spec_l01In_ok0 hm
theorem spec_ColorOk_ok (hm : Try.prog.follows .mixedOrders = true) : Sound Try.prog 152 spec_ColorOk_x := spec_ColorOk_ok0 hm (spec_l01In_ok hm)
theorem spec_LaidOk_ok (hm : Try.prog.follows .mixedOrders = true) : Sound Try.prog 109 spec_LaidOk_x := spec_LaidOk_ok0 hm (spec_ColorOk_ok hm)
theorem spec_SurfaceOk_ok (hm : Try.prog.follows .mixedOrders = true) : Sound Try.prog 50 spec_SurfaceOk_x := spec_SurfaceOk_ok0 hm (spec_l01In_ok hm) (spec_LaidOk_ok hm)
theorem spec_l01Figure_ok (hm : Try.prog.follows .mixedOrders = true) : Sound Try.prog 110 spec_l01Figure_x := spec_l01Figure_ok0 hm
theorem spec_Hex_ok (hm : Try.prog.follows .mixedOrders = true) : Sound Try.prog 51 spec_Hex_x := spec_Hex_ok0 hm (spec_l01Figure_ok hm)
theorem spec_ShowFrame_ok (hm : Try.prog.follows .mixedOrders = true) : Sound Try.prog 10 spec_ShowFrame_x := spec_ShowFrame_ok0 hm (spec_SurfaceOk_ok hm) (spec_Hex_ok hm)
theorem impl_inRange_ok (hm : Try.prog.follows .mixedOrders = true) : Sound Try.prog 75 impl_inRange_x := impl_inRange_ok0 hm
theorem impl_isSide_ok (hm : Try.prog.follows .mixedOrders = true) : Sound Try.prog 112 impl_isSide_x := impl_isSide_ok0 hm (impl_inRange_ok hm)
theorem impl_isByte_ok (hm : Try.prog.follows .mixedOrders = true) : Sound Try.prog 139 impl_isByte_x := impl_isByte_ok0 hm (impl_inRange_ok hm)
theorem impl_ColorOk_ok (hm : Try.prog.follows .mixedOrders = true) : Sound Try.prog 153 impl_ColorOk_x := impl_ColorOk_ok0 hm (impl_isByte_ok hm)
theorem impl_LaidOk_ok (hm : Try.prog.follows .mixedOrders = true) : Sound Try.prog 113 impl_LaidOk_x := impl_LaidOk_ok0 hm (impl_ColorOk_ok hm)
theorem impl_SurfaceOk_ok (hm : Try.prog.follows .mixedOrders = true) : Sound Try.prog 53 impl_SurfaceOk_x := impl_SurfaceOk_ok0 hm (impl_isSide_ok hm) (impl_LaidOk_ok hm)
theorem impl_Hex_ok (hm : Try.prog.follows .mixedOrders = true) : Sound Try.prog 54 impl_Hex_x := impl_Hex_ok0 hm
theorem impl_ShowFrame_ok (hm : Try.prog.follows .mixedOrders = true) : Sound Try.prog 12 impl_ShowFrame_x := impl_ShowFrame_ok0 hm (impl_SurfaceOk_ok hm) (impl_Hex_ok hm)
theorem laws_eqColor_ok (hm : Try.prog.follows .mixedOrders = true) : Sound Try.prog 115 laws_eqColor_x := laws_eqColor_ok0 hm
theorem laws_eqColorS_ok (hm : Try.prog.follows .mixedOrders = true) : Sound Try.prog 58 laws_eqColorS_x := laws_eqColorS_ok0 hm (laws_eqColor_ok hm)
theorem laws_eqSurface_ok (hm : Try.prog.follows .mixedOrders = true) : Sound Try.prog 13 laws_eqSurface_x := laws_eqSurface_ok0 hm (laws_eqColorS_ok hm)
theorem laws_FnExactShowFrame_ok (hm : Try.prog.follows .mixedOrders = true) : Sound Try.prog 3 laws_FnExactShowFrame_x := laws_FnExactShowFrame_ok0 hm (laws_szSurface_ok hm) (laws_toSurface_ok hm) (spec_ShowFrame_ok hm) (impl_ShowFrame_ok hm) (laws_eqSurface_ok hm)
end Go.Proofs.Ytapchldnmkfkoaa.Am
