import Derived.Test.YtoafihhhdnmliaaAmO1Pfa
import Derived.Test.YtoafihhhdnmliaaAmO1Pfb
import Derived.Test.YtoafihhhdnmliaaAmO1Pfc
set_option linter.unusedVariables false
set_option linter.unusedSimpArgs false
set_option linter.unusedSectionVars false
namespace Go.Proofs.Ytoafihhhdnmliaa.Am
open Go Go.Proofs
set_option maxRecDepth 100000
set_option linter.unusedSimpArgs false
set_option linter.unusedVariables false
set_option maxHeartbeats 4000000
theorem laws_big_ok (hm : Try.prog.follows .mixedOrders = true) : Sound Try.prog 28 laws_big_x := laws_big_ok0 hm
theorem spec_l01New_ok (hm : Try.prog.follows .mixedOrders = true) : Sound Try.prog 101 spec_l01New_x := spec_l01New_ok0 hm
theorem spec_l01Byte_ok (hm : Try.prog.follows .mixedOrders = true) : Sound Try.prog 109 spec_l01Byte_x := spec_l01Byte_ok0 hm
theorem spec_l01Below_ok (hm : Try.prog.follows .mixedOrders = true) : Sound Try.prog 110 spec_l01Below_x := spec_l01Below_ok0 hm (spec_l01Byte_ok hm)
theorem spec_l01In_ok (hm : Try.prog.follows .mixedOrders = true) : Sound Try.prog 73 spec_l01In_x := spec_l01In_ok0 hm
theorem spec_SurfaceNew_ok (hm : Try.prog.follows .mixedOrders = true) : Sound Try.prog 170 spec_SurfaceNew_x := spec_SurfaceNew_ok0 hm (spec_l01In_ok hm)
theorem spec_l01Once_ok (hm : Try.prog.follows .mixedOrders = true) : Sound Try.prog 184 spec_l01Once_x := spec_l01Once_ok0 hm (spec_l01Below_ok hm)
theorem spec_Empty_ok (hm : Try.prog.follows .mixedOrders = true) : Sound Try.prog 84 spec_Empty_x := spec_Empty_ok0 hm
theorem spec_PointOk_ok (hm : Try.prog.follows .mixedOrders = true) : Sound Try.prog 196 spec_PointOk_x := spec_PointOk_ok0 hm (spec_l01In_ok hm)
theorem spec_RectPath_ok (hm : Try.prog.follows .mixedOrders = true) : Sound Try.prog 225 spec_RectPath_x := spec_RectPath_ok0 hm (spec_Empty_ok hm) (spec_PointOk_ok hm)
theorem spec_l01PickInt_ok (hm : Try.prog.follows .mixedOrders = true) : Sound Try.prog 171 spec_l01PickInt_x := spec_l01PickInt_ok0 hm (spec_l01Below_ok hm)
theorem spec_NeedOf_ok (hm : Try.prog.follows .mixedOrders = true) : Sound Try.prog 224 spec_NeedOf_x := spec_NeedOf_ok0 hm (spec_l01In_ok hm)
theorem spec_l04Point_ok (hm : Try.prog.follows .mixedOrders = true) : Sound Try.prog 186 spec_l04Point_x := spec_l04Point_ok0 hm (spec_l01Below_ok hm)
theorem spec_l06Path_ok (hm : Try.prog.follows .mixedOrders = true) : Sound Try.prog 183 spec_l06Path_x := spec_l06Path_ok0 hm (spec_l01Once_ok hm) (spec_l01Below_ok hm) (spec_RectPath_ok hm) (spec_l01PickInt_ok hm) (spec_NeedOf_ok hm) (spec_l04Point_ok hm)
theorem spec_PathOk_ok (hm : Try.prog.follows .mixedOrders = true) : Sound Try.prog 204 spec_PathOk_x := spec_PathOk_ok0 hm (spec_NeedOf_ok hm) (spec_PointOk_ok hm)
theorem spec_Clamp_ok (hm : Try.prog.follows .mixedOrders = true) : Sound Try.prog 194 spec_Clamp_x := spec_Clamp_ok0 hm
theorem spec_FloorDiv_ok (hm : Try.prog.follows .mixedOrders = true) : Sound Try.prog 195 spec_FloorDiv_x := spec_FloorDiv_ok0 hm
theorem spec_RoundDiv_ok (hm : Try.prog.follows .mixedOrders = true) : Sound Try.prog 124 spec_RoundDiv_x := spec_RoundDiv_ok0 hm (spec_FloorDiv_ok hm)
theorem spec_QuadAt_ok (hm : Try.prog.follows .mixedOrders = true) : Sound Try.prog 222 spec_QuadAt_x := spec_QuadAt_ok0 hm (spec_PointOk_ok hm) (spec_Clamp_ok hm) (spec_RoundDiv_ok hm)
theorem spec_CubicAt_ok (hm : Try.prog.follows .mixedOrders = true) : Sound Try.prog 223 spec_CubicAt_x := spec_CubicAt_ok0 hm (spec_PointOk_ok hm) (spec_Clamp_ok hm) (spec_RoundDiv_ok hm)
theorem spec_FlatOf_ok (hm : Try.prog.follows .mixedOrders = true) : Sound Try.prog 182 spec_FlatOf_x := spec_FlatOf_ok0 hm (spec_PathOk_ok hm) (spec_NeedOf_ok hm) (spec_QuadAt_ok hm) (spec_CubicAt_ok hm)
theorem spec_l11Box_ok (hm : Try.prog.follows .mixedOrders = true) : Sound Try.prog 148 spec_l11Box_x := spec_l11Box_ok0 hm (spec_Empty_ok hm) (spec_l01In_ok hm)
theorem spec_l10Near_ok (hm : Try.prog.follows .mixedOrders = true) : Sound Try.prog 247 spec_l10Near_x := spec_l10Near_ok0 hm (spec_l01In_ok hm)
theorem spec_WindOf_ok (hm : Try.prog.follows .mixedOrders = true) : Sound Try.prog 245 spec_WindOf_x := spec_WindOf_ok0 hm (spec_l10Near_ok hm)
theorem spec_Covers_ok (hm : Try.prog.follows .mixedOrders = true) : Sound Try.prog 241 spec_Covers_x := spec_Covers_ok0 hm (spec_WindOf_ok hm)
theorem spec_MaskAt_ok (hm : Try.prog.follows .mixedOrders = true) : Sound Try.prog 221 spec_MaskAt_x := spec_MaskAt_ok0 hm (spec_l01In_ok hm) (spec_Covers_ok hm)
theorem spec_MaskOf_ok (hm : Try.prog.follows .mixedOrders = true) : Sound Try.prog 181 spec_MaskOf_x := spec_MaskOf_ok0 hm (spec_l11Box_ok hm) (spec_MaskAt_ok hm)
theorem spec_l11Mask_ok (hm : Try.prog.follows .mixedOrders = true) : Sound Try.prog 114 spec_l11Mask_x := spec_l11Mask_ok0 hm (spec_l01Below_ok hm) (spec_l06Path_ok hm) (spec_FlatOf_ok hm) (spec_MaskOf_ok hm) (spec_l01Once_ok hm) (spec_l01PickInt_ok hm)
theorem spec_l12Color_ok (hm : Try.prog.follows .mixedOrders = true) : Sound Try.prog 185 spec_l12Color_x := spec_l12Color_ok0 hm (spec_l01Below_ok hm) (spec_l01PickInt_ok hm)
theorem spec_l12Paint_ok (hm : Try.prog.follows .mixedOrders = true) : Sound Try.prog 115 spec_l12Paint_x := spec_l12Paint_ok0 hm (spec_l12Color_ok hm) (spec_l01Once_ok hm) (spec_l04Point_ok hm)
theorem spec_l14Copy_ok (hm : Try.prog.follows .mixedOrders = true) : Sound Try.prog 113 spec_l14Copy_x := spec_l14Copy_ok0 hm
theorem spec_ColorOk_ok (hm : Try.prog.follows .mixedOrders = true) : Sound Try.prog 193 spec_ColorOk_x := spec_ColorOk_ok0 hm (spec_l01In_ok hm)
theorem spec_LaidOk_ok (hm : Try.prog.follows .mixedOrders = true) : Sound Try.prog 121 spec_LaidOk_x := spec_LaidOk_ok0 hm (spec_ColorOk_ok hm)
theorem spec_SurfaceOk_ok (hm : Try.prog.follows .mixedOrders = true) : Sound Try.prog 82 spec_SurfaceOk_x := spec_SurfaceOk_ok0 hm (spec_l01In_ok hm) (spec_LaidOk_ok hm)
theorem spec_MaskOk_ok (hm : Try.prog.follows .mixedOrders = true) : Sound Try.prog 74 spec_MaskOk_x := spec_MaskOk_ok0 hm (spec_l11Box_ok hm) (spec_l01In_ok hm)
theorem spec_PaintOk_ok (hm : Try.prog.follows .mixedOrders = true) : Sound Try.prog 125 spec_PaintOk_x := spec_PaintOk_ok0 hm (spec_ColorOk_ok hm) (spec_PointOk_ok hm)
theorem spec_InBox_ok (hm : Try.prog.follows .mixedOrders = true) : Sound Try.prog 192 spec_InBox_x := spec_InBox_ok0 hm
theorem spec_l11Bits_ok (hm : Try.prog.follows .mixedOrders = true) : Sound Try.prog 120 spec_l11Bits_x := spec_l11Bits_ok0 hm (spec_InBox_ok hm)
theorem spec_Times255_ok (hm : Try.prog.follows .mixedOrders = true) : Sound Try.prog 123 spec_Times255_x := spec_Times255_ok0 hm (spec_Clamp_ok hm) (spec_RoundDiv_ok hm)
theorem spec_Laid_ok (hm : Try.prog.follows .mixedOrders = true) : Sound Try.prog 126 spec_Laid_x := spec_Laid_ok0 hm (spec_ColorOk_ok hm) (spec_Times255_ok hm)
theorem spec_PartOf_ok (hm : Try.prog.follows .mixedOrders = true) : Sound Try.prog 127 spec_PartOf_x := spec_PartOf_ok0 hm (spec_PaintOk_ok hm) (spec_Clamp_ok hm) (spec_FloorDiv_ok hm)
theorem spec_l12Mix_ok (hm : Try.prog.follows .mixedOrders = true) : Sound Try.prog 128 spec_l12Mix_x := spec_l12Mix_ok0 hm (spec_RoundDiv_ok hm)
theorem spec_ColorAt_ok (hm : Try.prog.follows .mixedOrders = true) : Sound Try.prog 45 spec_ColorAt_x := spec_ColorAt_ok0 hm (spec_PaintOk_ok hm) (spec_Laid_ok hm) (spec_PartOf_ok hm) (spec_l12Mix_ok hm)
theorem spec_CountOf_ok (hm : Try.prog.follows .mixedOrders = true) : Sound Try.prog 46 spec_CountOf_x := spec_CountOf_ok0 hm (spec_l01In_ok hm)
theorem spec_Thin_ok (hm : Try.prog.follows .mixedOrders = true) : Sound Try.prog 44 spec_Thin_x := spec_Thin_ok0 hm (spec_LaidOk_ok hm) (spec_l01In_ok hm) (spec_RoundDiv_ok hm)
theorem spec_Fade_ok (hm : Try.prog.follows .mixedOrders = true) : Sound Try.prog 43 spec_Fade_x := spec_Fade_ok0 hm (spec_LaidOk_ok hm) (spec_l01In_ok hm) (spec_Times255_ok hm)
theorem spec_l13Part_ok (hm : Try.prog.follows .mixedOrders = true) : Sound Try.prog 122 spec_l13Part_x := spec_l13Part_ok0 hm (spec_Times255_ok hm) (spec_RoundDiv_ok hm)
theorem spec_Blend_ok (hm : Try.prog.follows .mixedOrders = true) : Sound Try.prog 42 spec_Blend_x := spec_Blend_ok0 hm (spec_LaidOk_ok hm) (spec_l13Part_ok hm)
theorem spec_PaintMask_ok (hm : Try.prog.follows .mixedOrders = true) : Sound Try.prog 67 spec_PaintMask_x := spec_PaintMask_ok0 hm (spec_l14Copy_ok hm) (spec_SurfaceOk_ok hm) (spec_MaskOk_ok hm) (spec_PaintOk_ok hm) (spec_l11Bits_ok hm) (spec_ColorAt_ok hm) (spec_CountOf_ok hm) (spec_Thin_ok hm) (spec_Fade_ok hm) (spec_Blend_ok hm)
theorem spec_l14Surface_ok (hm : Try.prog.follows .mixedOrders = true) : Sound Try.prog 100 spec_l14Surface_x := spec_l14Surface_ok0 hm (spec_l01Below_ok hm) (spec_SurfaceNew_ok hm) (spec_l11Mask_ok hm) (spec_l12Paint_ok hm) (spec_l01PickInt_ok hm) (spec_PaintMask_ok hm)
theorem spec_DrawRightSurface_ok (hm : Try.prog.follows .mixedOrders = true) : Sound Try.prog 29 spec_DrawRightSurface_x := spec_DrawRightSurface_ok0 hm (spec_l01New_ok hm) (spec_l14Surface_ok hm)
theorem spec_DrawMasks_ok (hm : Try.prog.follows .mixedOrders = true) : Sound Try.prog 37 spec_DrawMasks_x := spec_DrawMasks_ok0 hm (spec_l01New_ok hm) (spec_l11Mask_ok hm)
theorem spec_DrawSlope_ok (hm : Try.prog.follows .mixedOrders = true) : Sound Try.prog 38 spec_DrawSlope_x := spec_DrawSlope_ok0 hm (spec_l01New_ok hm) (spec_l12Paint_ok hm)
theorem spec_DrawPlaces_ok (hm : Try.prog.follows .mixedOrders = true) : Sound Try.prog 32 spec_DrawPlaces_x := spec_DrawPlaces_ok0 hm (spec_l01New_ok hm) (spec_l01Byte_ok hm) (spec_l01Below_ok hm)
theorem slices_Clone_Color_ok (hm : Try.prog.follows .mixedOrders = true) : Sound Try.prog 172 slices_Clone_Color_x := slices_Clone_Color_ok0 hm
theorem impl_copySurface_ok (hm : Try.prog.follows .mixedOrders = true) : Sound Try.prog 103 impl_copySurface_x := impl_copySurface_ok0 hm (slices_Clone_Color_ok hm)
theorem impl_inRange_ok (hm : Try.prog.follows .mixedOrders = true) : Sound Try.prog 76 impl_inRange_x := impl_inRange_ok0 hm
theorem impl_isSide_ok (hm : Try.prog.follows .mixedOrders = true) : Sound Try.prog 102 impl_isSide_x := impl_isSide_ok0 hm (impl_inRange_ok hm)
theorem impl_isByte_ok (hm : Try.prog.follows .mixedOrders = true) : Sound Try.prog 178 impl_isByte_x := impl_isByte_ok0 hm (impl_inRange_ok hm)
theorem impl_ColorOk_ok (hm : Try.prog.follows .mixedOrders = true) : Sound Try.prog 180 impl_ColorOk_x := impl_ColorOk_ok0 hm (impl_isByte_ok hm)
theorem impl_LaidOk_ok (hm : Try.prog.follows .mixedOrders = true) : Sound Try.prog 112 impl_LaidOk_x := impl_LaidOk_ok0 hm (impl_ColorOk_ok hm)
theorem impl_SurfaceOk_ok (hm : Try.prog.follows .mixedOrders = true) : Sound Try.prog 34 impl_SurfaceOk_x := impl_SurfaceOk_ok0 hm (impl_isSide_ok hm) (impl_LaidOk_ok hm)
theorem impl_Empty_ok (hm : Try.prog.follows .mixedOrders = true) : Sound Try.prog 158 impl_Empty_x := impl_Empty_ok0 hm
theorem impl_isMaskBox_ok (hm : Try.prog.follows .mixedOrders = true) : Sound Try.prog 152 impl_isMaskBox_x := impl_isMaskBox_ok0 hm (impl_Empty_ok hm)
theorem impl_MaskOk_ok (hm : Try.prog.follows .mixedOrders = true) : Sound Try.prog 78 impl_MaskOk_x := impl_MaskOk_ok0 hm (impl_isMaskBox_ok hm) (impl_inRange_ok hm)
theorem impl_isFar_ok (hm : Try.prog.follows .mixedOrders = true) : Sound Try.prog 226 impl_isFar_x := impl_isFar_ok0 hm (impl_inRange_ok hm)
theorem impl_PointOk_ok (hm : Try.prog.follows .mixedOrders = true) : Sound Try.prog 187 impl_PointOk_x := impl_PointOk_ok0 hm (impl_isFar_ok hm)
theorem impl_PaintOk_ok (hm : Try.prog.follows .mixedOrders = true) : Sound Try.prog 116 impl_PaintOk_x := impl_PaintOk_ok0 hm (impl_ColorOk_ok hm) (impl_PointOk_ok hm)
theorem impl_Surface_box_ok (hm : Try.prog.follows .mixedOrders = true) : Sound Try.prog 105 impl_Surface_box_x := impl_Surface_box_ok0 hm
theorem impl_MeetBox_ok (hm : Try.prog.follows .mixedOrders = true) : Sound Try.prog 157 impl_MeetBox_x := impl_MeetBox_ok0 hm (impl_Empty_ok hm)
theorem impl_InBox_ok (hm : Try.prog.follows .mixedOrders = true) : Sound Try.prog 188 impl_InBox_x := impl_InBox_ok0 hm
theorem impl_Mask_bitsAt_ok (hm : Try.prog.follows .mixedOrders = true) : Sound Try.prog 118 impl_Mask_bitsAt_x := impl_Mask_bitsAt_ok0 hm (impl_InBox_ok hm)
theorem impl_Clamp_ok (hm : Try.prog.follows .mixedOrders = true) : Sound Try.prog 219 impl_Clamp_x := impl_Clamp_ok0 hm
theorem impl_FloorDiv_ok (hm : Try.prog.follows .mixedOrders = true) : Sound Try.prog 220 impl_FloorDiv_x := impl_FloorDiv_ok0 hm
theorem impl_RoundDiv_ok (hm : Try.prog.follows .mixedOrders = true) : Sound Try.prog 177 impl_RoundDiv_x := impl_RoundDiv_ok0 hm (impl_FloorDiv_ok hm)
theorem impl_Times255_ok (hm : Try.prog.follows .mixedOrders = true) : Sound Try.prog 176 impl_Times255_x := impl_Times255_ok0 hm (impl_Clamp_ok hm) (impl_RoundDiv_ok hm)
theorem impl_Laid_ok (hm : Try.prog.follows .mixedOrders = true) : Sound Try.prog 228 impl_Laid_x := impl_Laid_ok0 hm (impl_ColorOk_ok hm) (impl_Times255_ok hm)
theorem impl_taken_ok (hm : Try.prog.follows .mixedOrders = true) : Sound Try.prog 242 impl_taken_x := impl_taken_ok0 hm (impl_Clamp_ok hm)
theorem impl_partOf_ok (hm : Try.prog.follows .mixedOrders = true) : Sound Try.prog 229 impl_partOf_x := impl_partOf_ok0 hm (impl_taken_ok hm) (impl_FloorDiv_ok hm) (impl_Clamp_ok hm)
theorem impl_ColorAt_1_ok (hm : Try.prog.follows .mixedOrders = true) : Sound Try.prog 230 impl_ColorAt_1_x := impl_ColorAt_1_ok0 hm (impl_RoundDiv_ok hm)
theorem impl_each_ColorAt_1_ok (hm : Try.prog.follows .mixedOrders = true) : Sound Try.prog 174 impl_each_ColorAt_1_x := impl_each_ColorAt_1_ok0 hm (impl_ColorAt_1_ok hm)
theorem impl_ColorAt_ok (hm : Try.prog.follows .mixedOrders = true) : Sound Try.prog 190 impl_ColorAt_x := impl_ColorAt_ok0 hm (impl_PaintOk_ok hm) (impl_Laid_ok hm) (impl_partOf_ok hm) (impl_each_ColorAt_1_ok hm)
theorem impl_CountOf_ok (hm : Try.prog.follows .mixedOrders = true) : Sound Try.prog 191 impl_CountOf_x := impl_CountOf_ok0 hm (impl_inRange_ok hm)
theorem impl_Thin_1_ok (hm : Try.prog.follows .mixedOrders = true) : Sound Try.prog 227 impl_Thin_1_x := impl_Thin_1_ok0 hm (impl_RoundDiv_ok hm)
theorem impl_each_Thin_1_ok (hm : Try.prog.follows .mixedOrders = true) : Sound Try.prog 174 impl_each_Thin_1_x := impl_each_Thin_1_ok0 hm (impl_Thin_1_ok hm)
theorem impl_Thin_ok (hm : Try.prog.follows .mixedOrders = true) : Sound Try.prog 189 impl_Thin_x := impl_Thin_ok0 hm (impl_inRange_ok hm) (impl_LaidOk_ok hm) (impl_each_Thin_1_ok hm)
theorem impl_Fade_1_ok (hm : Try.prog.follows .mixedOrders = true) : Sound Try.prog 179 impl_Fade_1_x := impl_Fade_1_ok0 hm (impl_Times255_ok hm)
theorem impl_each_Fade_1_ok (hm : Try.prog.follows .mixedOrders = true) : Sound Try.prog 174 impl_each_Fade_1_x := impl_each_Fade_1_ok0 hm (impl_Fade_1_ok hm)
theorem impl_Fade_ok (hm : Try.prog.follows .mixedOrders = true) : Sound Try.prog 108 impl_Fade_x := impl_Fade_ok0 hm (impl_isByte_ok hm) (impl_LaidOk_ok hm) (impl_each_Fade_1_ok hm)
theorem impl_inked_ok (hm : Try.prog.follows .mixedOrders = true) : Sound Try.prog 119 impl_inked_x := impl_inked_ok0 hm (impl_ColorAt_ok hm) (impl_CountOf_ok hm) (impl_Thin_ok hm) (impl_Fade_ok hm)
theorem impl_isMode_ok (hm : Try.prog.follows .mixedOrders = true) : Sound Try.prog 173 impl_isMode_x := impl_isMode_ok0 hm (impl_inRange_ok hm)
theorem impl_Blend_1_ok (hm : Try.prog.follows .mixedOrders = true) : Sound Try.prog 175 impl_Blend_1_x := impl_Blend_1_ok0 hm (impl_Times255_ok hm) (impl_RoundDiv_ok hm)
theorem impl_each_Blend_1_ok (hm : Try.prog.follows .mixedOrders = true) : Sound Try.prog 174 impl_each_Blend_1_x := impl_each_Blend_1_ok0 hm (impl_Blend_1_ok hm)
theorem impl_Blend_ok (hm : Try.prog.follows .mixedOrders = true) : Sound Try.prog 107 impl_Blend_x := impl_Blend_ok0 hm (impl_isMode_ok hm) (impl_LaidOk_ok hm) (impl_each_Blend_1_ok hm)
theorem impl_PaintMask_1_ok (hm : Try.prog.follows .mixedOrders = true) : Sound Try.prog 117 impl_PaintMask_1_x := impl_PaintMask_1_ok0 hm (impl_Mask_bitsAt_ok hm) (impl_inked_ok hm) (impl_Blend_ok hm)
theorem impl_Surface_paint_PaintMask_1_ok (hm : Try.prog.follows .mixedOrders = true) : Sound Try.prog 104 impl_Surface_paint_PaintMask_1_x := impl_Surface_paint_PaintMask_1_ok0 hm (impl_Surface_box_ok hm) (impl_MeetBox_ok hm) (impl_PaintMask_1_ok hm)
theorem impl_PaintMask_ok (hm : Try.prog.follows .mixedOrders = true) : Sound Try.prog 39 impl_PaintMask_x := impl_PaintMask_ok0 hm (impl_copySurface_ok hm) (impl_SurfaceOk_ok hm) (impl_MaskOk_ok hm) (impl_PaintOk_ok hm) (impl_Surface_paint_PaintMask_1_ok hm)
theorem spec_BitsAt_ok (hm : Try.prog.follows .mixedOrders = true) : Sound Try.prog 40 spec_BitsAt_x := spec_BitsAt_ok0 hm (spec_MaskOk_ok hm) (spec_l11Bits_ok hm)
theorem impl_PixelAt_ok (hm : Try.prog.follows .mixedOrders = true) : Sound Try.prog 41 impl_PixelAt_x := impl_PixelAt_ok0 hm (impl_inRange_ok hm) (impl_SurfaceOk_ok hm)
theorem slices_Equal_Color_ok (hm : Try.prog.follows .mixedOrders = true) : Sound Try.prog 111 slices_Equal_Color_x := slices_Equal_Color_ok0 hm
theorem impl_SameSurface_ok (hm : Try.prog.follows .mixedOrders = true) : Sound Try.prog 33 impl_SameSurface_x := impl_SameSurface_ok0 hm (slices_Equal_Color_ok hm)
theorem laws_FnPaintsOn_ok (hm : Try.prog.follows .mixedOrders = true) : Sound Try.prog 7 laws_FnPaintsOn_x := laws_FnPaintsOn_ok0 hm (laws_big_ok hm) (spec_DrawRightSurface_ok hm) (spec_DrawMasks_ok hm) (spec_DrawSlope_ok hm) (spec_DrawPlaces_ok hm) (impl_PaintMask_ok hm) (impl_SurfaceOk_ok hm) (spec_BitsAt_ok hm) (impl_PixelAt_ok hm) (spec_ColorAt_ok hm) (spec_CountOf_ok hm) (spec_Thin_ok hm) (spec_Fade_ok hm) (spec_Blend_ok hm) (impl_SameSurface_ok hm)
end Go.Proofs.Ytoafihhhdnmliaa.Am
