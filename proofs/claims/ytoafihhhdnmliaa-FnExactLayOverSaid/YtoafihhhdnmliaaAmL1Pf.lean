import Derived.Test.YtoafihhhdnmliaaAmL1Pfa
import Derived.Test.YtoafihhhdnmliaaAmL1Pfb
set_option linter.unusedVariables false
set_option linter.unusedSimpArgs false
set_option linter.unusedSectionVars false
namespace Go.Proofs.Ytoafihhhdnmliaa.Am
open Go Go.Proofs
set_option maxRecDepth 100000
set_option linter.unusedSimpArgs false
set_option linter.unusedVariables false
set_option maxHeartbeats 4000000
theorem laws_szColorS_ok (hm : Try.prog.follows .mixedOrders = true) : Sound Try.prog 140 laws_szColorS_x := laws_szColorS_ok0 hm
theorem laws_szSurface_ok (hm : Try.prog.follows .mixedOrders = true) : Sound Try.prog 61 laws_szSurface_x := laws_szSurface_ok0 hm (laws_szColorS_ok hm)
theorem laws_toColor_ok (hm : Try.prog.follows .mixedOrders = true) : Sound Try.prog 145 laws_toColor_x := laws_toColor_ok0 hm
theorem laws_toColorS_ok (hm : Try.prog.follows .mixedOrders = true) : Sound Try.prog 141 laws_toColorS_x := laws_toColorS_ok0 hm (laws_toColor_ok hm)
theorem laws_toSurface_ok (hm : Try.prog.follows .mixedOrders = true) : Sound Try.prog 62 laws_toSurface_x := laws_toSurface_ok0 hm (laws_toColorS_ok hm)
theorem spec_l14Copy_ok (hm : Try.prog.follows .mixedOrders = true) : Sound Try.prog 113 spec_l14Copy_x := spec_l14Copy_ok0 hm
theorem spec_l01In_ok (hm : Try.prog.follows .mixedOrders = true) : Sound Try.prog 73 spec_l01In_x := spec_l01In_ok0 hm
theorem spec_ColorOk_ok (hm : Try.prog.follows .mixedOrders = true) : Sound Try.prog 193 spec_ColorOk_x := spec_ColorOk_ok0 hm (spec_l01In_ok hm)
theorem spec_LaidOk_ok (hm : Try.prog.follows .mixedOrders = true) : Sound Try.prog 121 spec_LaidOk_x := spec_LaidOk_ok0 hm (spec_ColorOk_ok hm)
theorem spec_SurfaceOk_ok (hm : Try.prog.follows .mixedOrders = true) : Sound Try.prog 82 spec_SurfaceOk_x := spec_SurfaceOk_ok0 hm (spec_l01In_ok hm) (spec_LaidOk_ok hm)
theorem spec_Clamp_ok (hm : Try.prog.follows .mixedOrders = true) : Sound Try.prog 194 spec_Clamp_x := spec_Clamp_ok0 hm
theorem spec_FloorDiv_ok (hm : Try.prog.follows .mixedOrders = true) : Sound Try.prog 195 spec_FloorDiv_x := spec_FloorDiv_ok0 hm
theorem spec_RoundDiv_ok (hm : Try.prog.follows .mixedOrders = true) : Sound Try.prog 124 spec_RoundDiv_x := spec_RoundDiv_ok0 hm (spec_FloorDiv_ok hm)
theorem spec_Times255_ok (hm : Try.prog.follows .mixedOrders = true) : Sound Try.prog 123 spec_Times255_x := spec_Times255_ok0 hm (spec_Clamp_ok hm) (spec_RoundDiv_ok hm)
theorem spec_Fade_ok (hm : Try.prog.follows .mixedOrders = true) : Sound Try.prog 43 spec_Fade_x := spec_Fade_ok0 hm (spec_LaidOk_ok hm) (spec_l01In_ok hm) (spec_Times255_ok hm)
theorem spec_l13Part_ok (hm : Try.prog.follows .mixedOrders = true) : Sound Try.prog 122 spec_l13Part_x := spec_l13Part_ok0 hm (spec_Times255_ok hm) (spec_RoundDiv_ok hm)
theorem spec_Blend_ok (hm : Try.prog.follows .mixedOrders = true) : Sound Try.prog 42 spec_Blend_x := spec_Blend_ok0 hm (spec_LaidOk_ok hm) (spec_l13Part_ok hm)
theorem spec_LayOver_ok (hm : Try.prog.follows .mixedOrders = true) : Sound Try.prog 36 spec_LayOver_x := spec_LayOver_ok0 hm (spec_l14Copy_ok hm) (spec_SurfaceOk_ok hm) (spec_Fade_ok hm) (spec_Blend_ok hm)
theorem slices_Clone_Color_ok (hm : Try.prog.follows .mixedOrders = true) : Sound Try.prog 172 slices_Clone_Color_x := slices_Clone_Color_ok0 hm
theorem impl_copySurface_ok (hm : Try.prog.follows .mixedOrders = true) : Sound Try.prog 103 impl_copySurface_x := impl_copySurface_ok0 hm (slices_Clone_Color_ok hm)
theorem impl_inRange_ok (hm : Try.prog.follows .mixedOrders = true) : Sound Try.prog 76 impl_inRange_x := impl_inRange_ok0 hm
theorem impl_isSide_ok (hm : Try.prog.follows .mixedOrders = true) : Sound Try.prog 102 impl_isSide_x := impl_isSide_ok0 hm (impl_inRange_ok hm)
theorem impl_isByte_ok (hm : Try.prog.follows .mixedOrders = true) : Sound Try.prog 178 impl_isByte_x := impl_isByte_ok0 hm (impl_inRange_ok hm)
theorem impl_ColorOk_ok (hm : Try.prog.follows .mixedOrders = true) : Sound Try.prog 180 impl_ColorOk_x := impl_ColorOk_ok0 hm (impl_isByte_ok hm)
theorem impl_LaidOk_ok (hm : Try.prog.follows .mixedOrders = true) : Sound Try.prog 112 impl_LaidOk_x := impl_LaidOk_ok0 hm (impl_ColorOk_ok hm)
theorem impl_SurfaceOk_ok (hm : Try.prog.follows .mixedOrders = true) : Sound Try.prog 34 impl_SurfaceOk_x := impl_SurfaceOk_ok0 hm (impl_isSide_ok hm) (impl_LaidOk_ok hm)
theorem impl_Surface_box_ok (hm : Try.prog.follows .mixedOrders = true) : Sound Try.prog 105 impl_Surface_box_x := impl_Surface_box_ok0 hm
theorem impl_Empty_ok (hm : Try.prog.follows .mixedOrders = true) : Sound Try.prog 158 impl_Empty_x := impl_Empty_ok0 hm
theorem impl_MeetBox_ok (hm : Try.prog.follows .mixedOrders = true) : Sound Try.prog 157 impl_MeetBox_x := impl_MeetBox_ok0 hm (impl_Empty_ok hm)
theorem impl_Clamp_ok (hm : Try.prog.follows .mixedOrders = true) : Sound Try.prog 219 impl_Clamp_x := impl_Clamp_ok0 hm
theorem impl_FloorDiv_ok (hm : Try.prog.follows .mixedOrders = true) : Sound Try.prog 220 impl_FloorDiv_x := impl_FloorDiv_ok0 hm
theorem impl_RoundDiv_ok (hm : Try.prog.follows .mixedOrders = true) : Sound Try.prog 177 impl_RoundDiv_x := impl_RoundDiv_ok0 hm (impl_FloorDiv_ok hm)
theorem impl_Times255_ok (hm : Try.prog.follows .mixedOrders = true) : Sound Try.prog 176 impl_Times255_x := impl_Times255_ok0 hm (impl_Clamp_ok hm) (impl_RoundDiv_ok hm)
theorem impl_Fade_1_ok (hm : Try.prog.follows .mixedOrders = true) : Sound Try.prog 179 impl_Fade_1_x := impl_Fade_1_ok0 hm (impl_Times255_ok hm)
theorem impl_each_ok (hm : Try.prog.follows .mixedOrders = true) : Sound Try.prog 174 impl_each_x := impl_each_ok0 hm (impl_Fade_1_ok hm)
theorem impl_Fade_ok (hm : Try.prog.follows .mixedOrders = true) : Sound Try.prog 108 impl_Fade_x := impl_Fade_ok0 hm (impl_isByte_ok hm) (impl_LaidOk_ok hm) (impl_each_ok hm)
theorem impl_isMode_ok (hm : Try.prog.follows .mixedOrders = true) : Sound Try.prog 173 impl_isMode_x := impl_isMode_ok0 hm (impl_inRange_ok hm)
theorem impl_Blend_1_ok (hm : Try.prog.follows .mixedOrders = true) : Sound Try.prog 175 impl_Blend_1_x := impl_Blend_1_ok0 hm (impl_Times255_ok hm) (impl_RoundDiv_ok hm)
theorem impl_each_2_ok (hm : Try.prog.follows .mixedOrders = true) : Sound Try.prog 174 impl_each_2_x := impl_each_2_ok0 hm (impl_Blend_1_ok hm)
theorem impl_Blend_ok (hm : Try.prog.follows .mixedOrders = true) : Sound Try.prog 107 impl_Blend_x := impl_Blend_ok0 hm (impl_isMode_ok hm) (impl_LaidOk_ok hm) (impl_each_2_ok hm)
theorem impl_LayOver_1_ok (hm : Try.prog.follows .mixedOrders = true) : Sound Try.prog 106 impl_LayOver_1_x := impl_LayOver_1_ok0 hm (impl_Fade_ok hm) (impl_Blend_ok hm)
theorem impl_Surface_paint_ok (hm : Try.prog.follows .mixedOrders = true) : Sound Try.prog 104 impl_Surface_paint_x := impl_Surface_paint_ok0 hm (impl_Surface_box_ok hm) (impl_MeetBox_ok hm) (impl_LayOver_1_ok hm)
theorem impl_LayOver_ok (hm : Try.prog.follows .mixedOrders = true) : Sound Try.prog 31 impl_LayOver_x := impl_LayOver_ok0 hm (impl_copySurface_ok hm) (impl_SurfaceOk_ok hm) (impl_Surface_box_ok hm) (impl_Surface_paint_ok hm)
theorem laws_eqColor_ok (hm : Try.prog.follows .mixedOrders = true) : Sound Try.prog 202 laws_eqColor_x := laws_eqColor_ok0 hm
theorem laws_eqColorS_ok (hm : Try.prog.follows .mixedOrders = true) : Sound Try.prog 142 laws_eqColorS_x := laws_eqColorS_ok0 hm (laws_eqColor_ok hm)
theorem laws_eqSurface_ok (hm : Try.prog.follows .mixedOrders = true) : Sound Try.prog 63 laws_eqSurface_x := laws_eqSurface_ok0 hm (laws_eqColorS_ok hm)
theorem laws_markColorS_ok (hm : Try.prog.follows .mixedOrders = true) : Sound Try.prog 143 laws_markColorS_x := laws_markColorS_ok0 hm
theorem laws_markSurface_ok (hm : Try.prog.follows .mixedOrders = true) : Sound Try.prog 64 laws_markSurface_x := laws_markSurface_ok0 hm (laws_markColorS_ok hm)
theorem laws_heldColorS_ok (hm : Try.prog.follows .mixedOrders = true) : Sound Try.prog 144 laws_heldColorS_x := laws_heldColorS_ok0 hm
theorem laws_heldSurface_ok (hm : Try.prog.follows .mixedOrders = true) : Sound Try.prog 65 laws_heldSurface_x := laws_heldSurface_ok0 hm (laws_heldColorS_ok hm)
theorem laws_FnExactLayOver_ok (hm : Try.prog.follows .mixedOrders = true) : Sound Try.prog 10 laws_FnExactLayOver_x := laws_FnExactLayOver_ok0 hm (laws_szSurface_ok hm) (laws_toSurface_ok hm) (spec_LayOver_ok hm) (impl_LayOver_ok hm) (laws_eqSurface_ok hm) (laws_markSurface_ok hm) (laws_heldSurface_ok hm)
end Go.Proofs.Ytoafihhhdnmliaa.Am
