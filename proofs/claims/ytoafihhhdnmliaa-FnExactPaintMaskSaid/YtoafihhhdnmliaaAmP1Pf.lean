import Derived.Test.YtoafihhhdnmliaaAmP1Pfa
import Derived.Test.YtoafihhhdnmliaaAmP1Pfb
import Derived.Test.YtoafihhhdnmliaaAmP1Pfc
set_option linter.unusedVariables false
set_option linter.unusedSimpArgs false
set_option linter.unusedSectionVars false
namespace Go.Proofs.Ytoafihhhdnmliaa.Am
open Go Go.Proofs
set_option maxRecDepth 100000
set_option linter.unusedSimpArgs false
set_option linter.unusedVariables false
set_option maxHeartbeats 4000000
theorem laws_szColorS_ok (hm : Try.prog.follows .mixedOrders = true) : Sound Try.prog 140 laws_szColorS_x := laws_szColorS_ok0 hm
theorem laws_szSurface_ok (hm : Try.prog.follows .mixedOrders = true) : Sound Try.prog 61 laws_szSurface_x := laws_szSurface_ok0 hm (laws_szColorS_ok hm)
theorem laws_szIntS_ok (hm : Try.prog.follows .mixedOrders = true) : Sound Try.prog 80 laws_szIntS_x := laws_szIntS_ok0 hm
theorem laws_szMask_ok (hm : Try.prog.follows .mixedOrders = true) : Sound Try.prog 66 laws_szMask_x := laws_szMask_ok0 hm (laws_szIntS_ok hm)
theorem laws_toColor_ok (hm : Try.prog.follows .mixedOrders = true) : Sound Try.prog 145 laws_toColor_x := laws_toColor_ok0 hm
theorem laws_toColorS_ok (hm : Try.prog.follows .mixedOrders = true) : Sound Try.prog 141 laws_toColorS_x := laws_toColorS_ok0 hm (laws_toColor_ok hm)
theorem laws_toSurface_ok (hm : Try.prog.follows .mixedOrders = true) : Sound Try.prog 62 laws_toSurface_x := laws_toSurface_ok0 hm (laws_toColorS_ok hm)
theorem laws_toBox_ok (hm : Try.prog.follows .mixedOrders = true) : Sound Try.prog 137 laws_toBox_x := laws_toBox_ok0 hm
theorem laws_toIntS_ok (hm : Try.prog.follows .mixedOrders = true) : Sound Try.prog 86 laws_toIntS_x := laws_toIntS_ok0 hm
theorem laws_toMask_ok (hm : Try.prog.follows .mixedOrders = true) : Sound Try.prog 68 laws_toMask_x := laws_toMask_ok0 hm (laws_toBox_ok hm) (laws_toIntS_ok hm)
theorem laws_toPoint_ok (hm : Try.prog.follows .mixedOrders = true) : Sound Try.prog 146 laws_toPoint_x := laws_toPoint_ok0 hm
theorem laws_toPaint_ok (hm : Try.prog.follows .mixedOrders = true) : Sound Try.prog 69 laws_toPaint_x := laws_toPaint_ok0 hm (laws_toColor_ok hm) (laws_toPoint_ok hm)
theorem spec_l14Copy_ok (hm : Try.prog.follows .mixedOrders = true) : Sound Try.prog 113 spec_l14Copy_x := spec_l14Copy_ok0 hm
theorem spec_l01In_ok (hm : Try.prog.follows .mixedOrders = true) : Sound Try.prog 73 spec_l01In_x := spec_l01In_ok0 hm
theorem spec_ColorOk_ok (hm : Try.prog.follows .mixedOrders = true) : Sound Try.prog 193 spec_ColorOk_x := spec_ColorOk_ok0 hm (spec_l01In_ok hm)
theorem spec_LaidOk_ok (hm : Try.prog.follows .mixedOrders = true) : Sound Try.prog 121 spec_LaidOk_x := spec_LaidOk_ok0 hm (spec_ColorOk_ok hm)
theorem spec_SurfaceOk_ok (hm : Try.prog.follows .mixedOrders = true) : Sound Try.prog 82 spec_SurfaceOk_x := spec_SurfaceOk_ok0 hm (spec_l01In_ok hm) (spec_LaidOk_ok hm)
theorem spec_Empty_ok (hm : Try.prog.follows .mixedOrders = true) : Sound Try.prog 84 spec_Empty_x := spec_Empty_ok0 hm
theorem spec_l11Box_ok (hm : Try.prog.follows .mixedOrders = true) : Sound Try.prog 148 spec_l11Box_x := spec_l11Box_ok0 hm (spec_Empty_ok hm) (spec_l01In_ok hm)
theorem spec_MaskOk_ok (hm : Try.prog.follows .mixedOrders = true) : Sound Try.prog 74 spec_MaskOk_x := spec_MaskOk_ok0 hm (spec_l11Box_ok hm) (spec_l01In_ok hm)
theorem spec_PointOk_ok (hm : Try.prog.follows .mixedOrders = true) : Sound Try.prog 196 spec_PointOk_x := spec_PointOk_ok0 hm (spec_l01In_ok hm)
theorem spec_PaintOk_ok (hm : Try.prog.follows .mixedOrders = true) : Sound Try.prog 125 spec_PaintOk_x := spec_PaintOk_ok0 hm (spec_ColorOk_ok hm) (spec_PointOk_ok hm)
theorem spec_InBox_ok (hm : Try.prog.follows .mixedOrders = true) : Sound Try.prog 192 spec_InBox_x := spec_InBox_ok0 hm
theorem spec_l11Bits_ok (hm : Try.prog.follows .mixedOrders = true) : Sound Try.prog 120 spec_l11Bits_x := spec_l11Bits_ok0 hm (spec_InBox_ok hm)
theorem spec_Clamp_ok (hm : Try.prog.follows .mixedOrders = true) : Sound Try.prog 194 spec_Clamp_x := spec_Clamp_ok0 hm
theorem spec_FloorDiv_ok (hm : Try.prog.follows .mixedOrders = true) : Sound Try.prog 195 spec_FloorDiv_x := spec_FloorDiv_ok0 hm
theorem spec_RoundDiv_ok (hm : Try.prog.follows .mixedOrders = true) : Sound Try.prog 124 spec_RoundDiv_x := spec_RoundDiv_ok0 hm (spec_FloorDiv_ok hm)
theorem spec_Times255_ok (hm : Try.prog.follows .mixedOrders = true) : Sound Try.prog 123 spec_Times255_x := spec_Times255_ok0 hm (spec_Clamp_ok hm) (spec_RoundDiv_ok hm)
theorem spec_Laid_ok (hm : Try.prog.follows .mixedOrders = true) : Sound Try.prog 126 spec_Laid_x := spec_Laid_ok0 hm (spec_ColorOk_ok hm) (spec_Times255_ok hm)
theorem spec_PartOf_ok (hm : Try.prog.follows .mixedOrders = true) : Sound Try.prog 127 spec_PartOf_x := spec_PartOf_ok0 hm (spec_PaintOk_ok hm) (spec_Clamp_ok hm) (spec_FloorDiv_ok hm)
theorem spec_l12Mix_ok (hm : Try.prog.follows .mixedOrders = true) : Sound Try.prog 128 spec_l12Mix_x := spec_l12Mix_ok0 hm (spec_RoundDiv_ok hm)
theorem spec_ColorAt_ok (hm : Try.prog.follows .mixedOrders = true) : Sound Try.prog 45 spec_ColorAt_x := spec_ColorAt_ok0 hm (spec_PaintOk_ok hm) (spec_Laid_ok hm) (spec_PartOf_ok hm) (spec_l12Mix_ok hm)
theorem spec_CountOf_ok (hm : Try.prog.follows .mixedOrders = true) : Sound Try.prog 46 spec_CountOf_x := spec_CountOf_ok0 hm (spec_l01In_ok hm)
theorem spec_Thin_ok (hm : Try.prog.follows .mixedOrders = true) : Sound Try.prog 44 spec_Thin_x := spec_Thin_ok0 hm (spec_LaidOk_ok hm) (spec_l01In_ok hm) (spec_RoundDiv_ok hm)
theorem spec_Fade_ok (hm : Try.prog.follows .mixedOrders = true) : Sound Try.prog 43 spec_Fade_x := spec_Fade_ok0 hm (spec_LaidOk_ok hm) (spec_l01In_ok hm) (spec_Times255_ok hm)
theorem spec_l13Part_ok (hm : Try.prog.follows .mixedOrders = true) : Sound Try.prog 122 spec_l13Part_x := spec_l13Part_ok0 hm (spec_Times255_ok hm) (spec_RoundDiv_ok hm)
theorem spec_Blend_ok (hm : Try.prog.follows .mixedOrders = true) : Sound Try.prog 42 spec_Blend_x := spec_Blend_ok0 hm (spec_LaidOk_ok hm) (spec_l13Part_ok hm)
theorem spec_PaintMask_ok (hm : Try.prog.follows .mixedOrders = true) : Sound Try.prog 67 spec_PaintMask_x := spec_PaintMask_ok0 hm (spec_l14Copy_ok hm) (spec_SurfaceOk_ok hm) (spec_MaskOk_ok hm) (spec_PaintOk_ok hm) (spec_l11Bits_ok hm) (spec_ColorAt_ok hm) (spec_CountOf_ok hm) (spec_Thin_ok hm) (spec_Fade_ok hm) (spec_Blend_ok hm)
theorem slices_Clone_Color_ok (hm : Try.prog.follows .mixedOrders = true) : Sound Try.prog 172 slices_Clone_Color_x := slices_Clone_Color_ok0 hm
theorem impl_copySurface_ok (hm : Try.prog.follows .mixedOrders = true) : Sound Try.prog 103 impl_copySurface_x := impl_copySurface_ok0 hm (slices_Clone_Color_ok hm)
theorem impl_inRange_ok (hm : Try.prog.follows .mixedOrders = true) : Sound Try.prog 76 impl_inRange_x := impl_inRange_ok0 hm
theorem impl_isSide_ok (hm : Try.prog.follows .mixedOrders = true) : Sound Try.prog 102 impl_isSide_x := impl_isSide_ok0 hm (impl_inRange_ok hm)
theorem impl_isByte_ok (hm : Try.prog.follows .mixedOrders = true) : Sound Try.prog 178 impl_isByte_x := impl_isByte_ok0 hm (impl_inRange_ok hm)
theorem impl_ColorOk_ok (hm : Try.prog.follows .mixedOrders = true) : Sound Try.prog 180 impl_ColorOk_x := impl_ColorOk_ok0 hm (impl_isByte_ok hm)
theorem impl_LaidOk_ok (hm : Try.prog.follows .mixedOrders = true) : Sound Try.prog 112 impl_LaidOk_x := impl_LaidOk_ok0 hm (impl_ColorOk_ok hm)
theorem impl_SurfaceOk_ok (hm : Try.prog.follows .mixedOrders = true) : Sound Try.prog 34 impl_SurfaceOk_x := impl_SurfaceOk_ok0 hm (impl_isSide_ok hm) (impl_LaidOk_ok hm)
theorem impl_Empty_ok (hm : Try.prog.follows .mixedOrders = true) : Sound Try.prog 158 impl_Empty_x := impl_Empty_ok0 hm
theorem impl_isMaskBox_ok (hm : Try.prog.follows .mixedOrders = true) : Sound Try.prog 152 impl_isMaskBox_x := impl_isMaskBox_ok0 hm (impl_Empty_ok hm)
theorem impl_MaskOk_ok (hm : Try.prog.follows .mixedOrders = true) : Sound Try.prog 78 impl_MaskOk_x := impl_MaskOk_ok0 hm (impl_isMaskBox_ok hm) (impl_inRange_ok hm)
theorem impl_isFar_ok (hm : Try.prog.follows .mixedOrders = true) : Sound Try.prog 226 impl_isFar_x := impl_isFar_ok0 hm (impl_inRange_ok hm)
theorem impl_PointOk_ok (hm : Try.prog.follows .mixedOrders = true) : Sound Try.prog 187 impl_PointOk_x := impl_PointOk_ok0 hm (impl_isFar_ok hm)
theorem impl_PaintOk_ok (hm : Try.prog.follows .mixedOrders = true) : Sound Try.prog 116 impl_PaintOk_x := impl_PaintOk_ok0 hm (impl_ColorOk_ok hm) (impl_PointOk_ok hm)
theorem impl_Surface_box_ok (hm : Try.prog.follows .mixedOrders = true) : Sound Try.prog 105 impl_Surface_box_x := impl_Surface_box_ok0 hm
theorem impl_MeetBox_ok (hm : Try.prog.follows .mixedOrders = true) : Sound Try.prog 157 impl_MeetBox_x := impl_MeetBox_ok0 hm (impl_Empty_ok hm)
theorem impl_InBox_ok (hm : Try.prog.follows .mixedOrders = true) : Sound Try.prog 188 impl_InBox_x := impl_InBox_ok0 hm
theorem impl_Mask_bitsAt_ok (hm : Try.prog.follows .mixedOrders = true) : Sound Try.prog 118 impl_Mask_bitsAt_x := impl_Mask_bitsAt_ok0 hm (impl_InBox_ok hm)
theorem impl_Clamp_ok (hm : Try.prog.follows .mixedOrders = true) : Sound Try.prog 219 impl_Clamp_x := impl_Clamp_ok0 hm
theorem impl_FloorDiv_ok (hm : Try.prog.follows .mixedOrders = true) : Sound Try.prog 220 impl_FloorDiv_x := impl_FloorDiv_ok0 hm
theorem impl_RoundDiv_ok (hm : Try.prog.follows .mixedOrders = true) : Sound Try.prog 177 impl_RoundDiv_x := impl_RoundDiv_ok0 hm (impl_FloorDiv_ok hm)
theorem impl_Times255_ok (hm : Try.prog.follows .mixedOrders = true) : Sound Try.prog 176 impl_Times255_x := impl_Times255_ok0 hm (impl_Clamp_ok hm) (impl_RoundDiv_ok hm)
theorem impl_Laid_ok (hm : Try.prog.follows .mixedOrders = true) : Sound Try.prog 228 impl_Laid_x := impl_Laid_ok0 hm (impl_ColorOk_ok hm) (impl_Times255_ok hm)
theorem impl_taken_ok (hm : Try.prog.follows .mixedOrders = true) : Sound Try.prog 242 impl_taken_x := impl_taken_ok0 hm (impl_Clamp_ok hm)
theorem impl_partOf_ok (hm : Try.prog.follows .mixedOrders = true) : Sound Try.prog 229 impl_partOf_x := impl_partOf_ok0 hm (impl_taken_ok hm) (impl_FloorDiv_ok hm) (impl_Clamp_ok hm)
theorem impl_ColorAt_1_ok (hm : Try.prog.follows .mixedOrders = true) : Sound Try.prog 230 impl_ColorAt_1_x := impl_ColorAt_1_ok0 hm (impl_RoundDiv_ok hm)
theorem impl_each_ColorAt_1_ok (hm : Try.prog.follows .mixedOrders = true) : Sound Try.prog 174 impl_each_ColorAt_1_x := impl_each_ColorAt_1_ok0 hm (impl_ColorAt_1_ok hm)
theorem impl_ColorAt_ok (hm : Try.prog.follows .mixedOrders = true) : Sound Try.prog 190 impl_ColorAt_x := impl_ColorAt_ok0 hm (impl_PaintOk_ok hm) (impl_Laid_ok hm) (impl_partOf_ok hm) (impl_each_ColorAt_1_ok hm)
theorem impl_CountOf_ok (hm : Try.prog.follows .mixedOrders = true) : Sound Try.prog 191 impl_CountOf_x := impl_CountOf_ok0 hm (impl_inRange_ok hm)
theorem impl_Thin_1_ok (hm : Try.prog.follows .mixedOrders = true) : Sound Try.prog 227 impl_Thin_1_x := impl_Thin_1_ok0 hm (impl_RoundDiv_ok hm)
theorem impl_each_Thin_1_ok (hm : Try.prog.follows .mixedOrders = true) : Sound Try.prog 174 impl_each_Thin_1_x := impl_each_Thin_1_ok0 hm (impl_Thin_1_ok hm)
theorem impl_Thin_ok (hm : Try.prog.follows .mixedOrders = true) : Sound Try.prog 189 impl_Thin_x := impl_Thin_ok0 hm (impl_inRange_ok hm) (impl_LaidOk_ok hm) (impl_each_Thin_1_ok hm)
theorem impl_Fade_1_ok (hm : Try.prog.follows .mixedOrders = true) : Sound Try.prog 179 impl_Fade_1_x := impl_Fade_1_ok0 hm (impl_Times255_ok hm)
theorem impl_each_Fade_1_ok (hm : Try.prog.follows .mixedOrders = true) : Sound Try.prog 174 impl_each_Fade_1_x := impl_each_Fade_1_ok0 hm (impl_Fade_1_ok hm)
theorem impl_Fade_ok (hm : Try.prog.follows .mixedOrders = true) : Sound Try.prog 108 impl_Fade_x := impl_Fade_ok0 hm (impl_isByte_ok hm) (impl_LaidOk_ok hm) (impl_each_Fade_1_ok hm)
theorem impl_inked_ok (hm : Try.prog.follows .mixedOrders = true) : Sound Try.prog 119 impl_inked_x := impl_inked_ok0 hm (impl_ColorAt_ok hm) (impl_CountOf_ok hm) (impl_Thin_ok hm) (impl_Fade_ok hm)
theorem impl_isMode_ok (hm : Try.prog.follows .mixedOrders = true) : Sound Try.prog 173 impl_isMode_x := impl_isMode_ok0 hm (impl_inRange_ok hm)
theorem impl_Blend_1_ok (hm : Try.prog.follows .mixedOrders = true) : Sound Try.prog 175 impl_Blend_1_x := impl_Blend_1_ok0 hm (impl_Times255_ok hm) (impl_RoundDiv_ok hm)
theorem impl_each_Blend_1_ok (hm : Try.prog.follows .mixedOrders = true) : Sound Try.prog 174 impl_each_Blend_1_x := impl_each_Blend_1_ok0 hm (impl_Blend_1_ok hm)
theorem impl_Blend_ok (hm : Try.prog.follows .mixedOrders = true) : Sound Try.prog 107 impl_Blend_x := impl_Blend_ok0 hm (impl_isMode_ok hm) (impl_LaidOk_ok hm) (impl_each_Blend_1_ok hm)
theorem impl_PaintMask_1_ok (hm : Try.prog.follows .mixedOrders = true) : Sound Try.prog 117 impl_PaintMask_1_x := impl_PaintMask_1_ok0 hm (impl_Mask_bitsAt_ok hm) (impl_inked_ok hm) (impl_Blend_ok hm)
theorem impl_Surface_paint_PaintMask_1_ok (hm : Try.prog.follows .mixedOrders = true) : Sound Try.prog 104 impl_Surface_paint_PaintMask_1_x := impl_Surface_paint_PaintMask_1_ok0 hm (impl_Surface_box_ok hm) (impl_MeetBox_ok hm) (impl_PaintMask_1_ok hm)
theorem impl_PaintMask_ok (hm : Try.prog.follows .mixedOrders = true) : Sound Try.prog 39 impl_PaintMask_x := impl_PaintMask_ok0 hm (impl_copySurface_ok hm) (impl_SurfaceOk_ok hm) (impl_MaskOk_ok hm) (impl_PaintOk_ok hm) (impl_Surface_paint_PaintMask_1_ok hm)
theorem laws_eqColor_ok (hm : Try.prog.follows .mixedOrders = true) : Sound Try.prog 202 laws_eqColor_x := laws_eqColor_ok0 hm
theorem laws_eqColorS_ok (hm : Try.prog.follows .mixedOrders = true) : Sound Try.prog 142 laws_eqColorS_x := laws_eqColorS_ok0 hm (laws_eqColor_ok hm)
theorem laws_eqSurface_ok (hm : Try.prog.follows .mixedOrders = true) : Sound Try.prog 63 laws_eqSurface_x := laws_eqSurface_ok0 hm (laws_eqColorS_ok hm)
theorem laws_eqBox_ok (hm : Try.prog.follows .mixedOrders = true) : Sound Try.prog 139 laws_eqBox_x := laws_eqBox_ok0 hm
theorem laws_eqIntS_ok (hm : Try.prog.follows .mixedOrders = true) : Sound Try.prog 56 laws_eqIntS_x := laws_eqIntS_ok0 hm
theorem laws_eqMask_ok (hm : Try.prog.follows .mixedOrders = true) : Sound Try.prog 70 laws_eqMask_x := laws_eqMask_ok0 hm (laws_eqBox_ok hm) (laws_eqIntS_ok hm)
theorem laws_markColorS_ok (hm : Try.prog.follows .mixedOrders = true) : Sound Try.prog 143 laws_markColorS_x := laws_markColorS_ok0 hm
theorem laws_markSurface_ok (hm : Try.prog.follows .mixedOrders = true) : Sound Try.prog 64 laws_markSurface_x := laws_markSurface_ok0 hm (laws_markColorS_ok hm)
theorem laws_markIntS_ok (hm : Try.prog.follows .mixedOrders = true) : Sound Try.prog 59 laws_markIntS_x := laws_markIntS_ok0 hm
theorem laws_markMask_ok (hm : Try.prog.follows .mixedOrders = true) : Sound Try.prog 71 laws_markMask_x := laws_markMask_ok0 hm (laws_markIntS_ok hm)
theorem laws_heldColorS_ok (hm : Try.prog.follows .mixedOrders = true) : Sound Try.prog 144 laws_heldColorS_x := laws_heldColorS_ok0 hm
theorem laws_heldSurface_ok (hm : Try.prog.follows .mixedOrders = true) : Sound Try.prog 65 laws_heldSurface_x := laws_heldSurface_ok0 hm (laws_heldColorS_ok hm)
theorem laws_FnExactPaintMask_ok (hm : Try.prog.follows .mixedOrders = true) : Sound Try.prog 11 laws_FnExactPaintMask_x := laws_FnExactPaintMask_ok0 hm (laws_szSurface_ok hm) (laws_szMask_ok hm) (laws_toSurface_ok hm) (laws_toMask_ok hm) (laws_toPaint_ok hm) (spec_PaintMask_ok hm) (impl_PaintMask_ok hm) (laws_eqSurface_ok hm) (laws_eqMask_ok hm) (laws_markSurface_ok hm) (laws_markMask_ok hm) (laws_heldSurface_ok hm)
end Go.Proofs.Ytoafihhhdnmliaa.Am
