import Derived.Test.YtoafihhhdnmliaaAmS1Pfa
import Derived.Test.YtoafihhhdnmliaaAmS1Pfb
import Derived.Test.YtoafihhhdnmliaaAmS1Pfc
set_option linter.unusedVariables false
set_option linter.unusedSimpArgs false
set_option linter.unusedSectionVars false
namespace Go.Proofs.Ytoafihhhdnmliaa.Am
open Go Go.Proofs
set_option maxRecDepth 100000
set_option linter.unusedSimpArgs false
set_option linter.unusedVariables false
set_option maxHeartbeats 4000000
theorem laws_szIntS_ok (hm : Try.prog.follows .mixedOrders = true) : Sound Try.prog 80 laws_szIntS_x := laws_szIntS_ok0 hm
theorem laws_szPointS_ok (hm : Try.prog.follows .mixedOrders = true) : Sound Try.prog 235 laws_szPointS_x := laws_szPointS_ok0 hm
theorem laws_szPath_ok (hm : Try.prog.follows .mixedOrders = true) : Sound Try.prog 203 laws_szPath_x := laws_szPath_ok0 hm (laws_szIntS_ok hm) (laws_szPointS_ok hm)
theorem laws_szNode_ok (hm : Try.prog.follows .mixedOrders = true) : Sound Try.prog 159 laws_szNode_x := laws_szNode_ok0 hm (laws_szPath_ok hm) (laws_szIntS_ok hm)
theorem laws_szNodeS_ok (hm : Try.prog.follows .mixedOrders = true) : Sound Try.prog 91 laws_szNodeS_x := laws_szNodeS_ok0 hm (laws_szNode_ok hm)
theorem laws_szScene_ok (hm : Try.prog.follows .mixedOrders = true) : Sound Try.prog 22 laws_szScene_x := laws_szScene_ok0 hm (laws_szNodeS_ok hm)
theorem laws_szColorS_ok (hm : Try.prog.follows .mixedOrders = true) : Sound Try.prog 140 laws_szColorS_x := laws_szColorS_ok0 hm
theorem laws_szSurface_ok (hm : Try.prog.follows .mixedOrders = true) : Sound Try.prog 61 laws_szSurface_x := laws_szSurface_ok0 hm (laws_szColorS_ok hm)
theorem laws_szBoxS_ok (hm : Try.prog.follows .mixedOrders = true) : Sound Try.prog 52 laws_szBoxS_x := laws_szBoxS_ok0 hm
theorem laws_szMask_ok (hm : Try.prog.follows .mixedOrders = true) : Sound Try.prog 66 laws_szMask_x := laws_szMask_ok0 hm (laws_szIntS_ok hm)
theorem laws_szKept_ok (hm : Try.prog.follows .mixedOrders = true) : Sound Try.prog 147 laws_szKept_x := laws_szKept_ok0 hm (laws_szMask_ok hm)
theorem laws_szKeptS_ok (hm : Try.prog.follows .mixedOrders = true) : Sound Try.prog 72 laws_szKeptS_x := laws_szKeptS_ok0 hm (laws_szKept_ok hm)
theorem laws_szCache_ok (hm : Try.prog.follows .mixedOrders = true) : Sound Try.prog 12 laws_szCache_x := laws_szCache_ok0 hm (laws_szKeptS_ok hm)
theorem laws_szEngine_ok (hm : Try.prog.follows .mixedOrders = true) : Sound Try.prog 17 laws_szEngine_x := laws_szEngine_ok0 hm (laws_szScene_ok hm) (laws_szSurface_ok hm) (laws_szBoxS_ok hm) (laws_szIntS_ok hm) (laws_szCache_ok hm)
theorem laws_toMat_ok (hm : Try.prog.follows .mixedOrders = true) : Sound Try.prog 208 laws_toMat_x := laws_toMat_ok0 hm
theorem laws_toIntS_ok (hm : Try.prog.follows .mixedOrders = true) : Sound Try.prog 86 laws_toIntS_x := laws_toIntS_ok0 hm
theorem laws_toPoint_ok (hm : Try.prog.follows .mixedOrders = true) : Sound Try.prog 146 laws_toPoint_x := laws_toPoint_ok0 hm
theorem laws_toPointS_ok (hm : Try.prog.follows .mixedOrders = true) : Sound Try.prog 236 laws_toPointS_x := laws_toPointS_ok0 hm (laws_toPoint_ok hm)
theorem laws_toPath_ok (hm : Try.prog.follows .mixedOrders = true) : Sound Try.prog 209 laws_toPath_x := laws_toPath_ok0 hm (laws_toIntS_ok hm) (laws_toPointS_ok hm)
theorem laws_toColor_ok (hm : Try.prog.follows .mixedOrders = true) : Sound Try.prog 145 laws_toColor_x := laws_toColor_ok0 hm
theorem laws_toPaint_ok (hm : Try.prog.follows .mixedOrders = true) : Sound Try.prog 69 laws_toPaint_x := laws_toPaint_ok0 hm (laws_toColor_ok hm) (laws_toPoint_ok hm)
theorem laws_toNode_ok (hm : Try.prog.follows .mixedOrders = true) : Sound Try.prog 163 laws_toNode_x := laws_toNode_ok0 hm (laws_toMat_ok hm) (laws_toPath_ok hm) (laws_toIntS_ok hm) (laws_toPaint_ok hm)
theorem laws_toNodeS_ok (hm : Try.prog.follows .mixedOrders = true) : Sound Try.prog 96 laws_toNodeS_x := laws_toNodeS_ok0 hm (laws_toNode_ok hm)
theorem laws_toScene_ok (hm : Try.prog.follows .mixedOrders = true) : Sound Try.prog 24 laws_toScene_x := laws_toScene_ok0 hm (laws_toNodeS_ok hm)
theorem laws_toColorS_ok (hm : Try.prog.follows .mixedOrders = true) : Sound Try.prog 141 laws_toColorS_x := laws_toColorS_ok0 hm (laws_toColor_ok hm)
theorem laws_toSurface_ok (hm : Try.prog.follows .mixedOrders = true) : Sound Try.prog 62 laws_toSurface_x := laws_toSurface_ok0 hm (laws_toColorS_ok hm)
theorem laws_toBox_ok (hm : Try.prog.follows .mixedOrders = true) : Sound Try.prog 137 laws_toBox_x := laws_toBox_ok0 hm
theorem laws_toBoxS_ok (hm : Try.prog.follows .mixedOrders = true) : Sound Try.prog 54 laws_toBoxS_x := laws_toBoxS_ok0 hm (laws_toBox_ok hm)
theorem laws_toMask_ok (hm : Try.prog.follows .mixedOrders = true) : Sound Try.prog 68 laws_toMask_x := laws_toMask_ok0 hm (laws_toBox_ok hm) (laws_toIntS_ok hm)
theorem laws_toKept_ok (hm : Try.prog.follows .mixedOrders = true) : Sound Try.prog 149 laws_toKept_x := laws_toKept_ok0 hm (laws_toMask_ok hm)
theorem laws_toKeptS_ok (hm : Try.prog.follows .mixedOrders = true) : Sound Try.prog 75 laws_toKeptS_x := laws_toKeptS_ok0 hm (laws_toKept_ok hm)
theorem laws_toCache_ok (hm : Try.prog.follows .mixedOrders = true) : Sound Try.prog 14 laws_toCache_x := laws_toCache_ok0 hm (laws_toKeptS_ok hm)
theorem laws_toEngine_ok (hm : Try.prog.follows .mixedOrders = true) : Sound Try.prog 19 laws_toEngine_x := laws_toEngine_ok0 hm (laws_toScene_ok hm) (laws_toSurface_ok hm) (laws_toBoxS_ok hm) (laws_toIntS_ok hm) (laws_toCache_ok hm)
theorem spec_l01In_ok (hm : Try.prog.follows .mixedOrders = true) : Sound Try.prog 73 spec_l01In_x := spec_l01In_ok0 hm
theorem spec_TileCount_ok (hm : Try.prog.follows .mixedOrders = true) : Sound Try.prog 81 spec_TileCount_x := spec_TileCount_ok0 hm (spec_l01In_ok hm)
theorem spec_ColorOk_ok (hm : Try.prog.follows .mixedOrders = true) : Sound Try.prog 193 spec_ColorOk_x := spec_ColorOk_ok0 hm (spec_l01In_ok hm)
theorem spec_LaidOk_ok (hm : Try.prog.follows .mixedOrders = true) : Sound Try.prog 121 spec_LaidOk_x := spec_LaidOk_ok0 hm (spec_ColorOk_ok hm)
theorem spec_SurfaceOk_ok (hm : Try.prog.follows .mixedOrders = true) : Sound Try.prog 82 spec_SurfaceOk_x := spec_SurfaceOk_ok0 hm (spec_l01In_ok hm) (spec_LaidOk_ok hm)
theorem spec_l05Most_ok (hm : Try.prog.follows .mixedOrders = true) : Sound Try.prog 154 spec_l05Most_x := spec_l05Most_ok0 hm
theorem spec_l05Least_ok (hm : Try.prog.follows .mixedOrders = true) : Sound Try.prog 155 spec_l05Least_x := spec_l05Least_ok0 hm
theorem spec_Empty_ok (hm : Try.prog.follows .mixedOrders = true) : Sound Try.prog 84 spec_Empty_x := spec_Empty_ok0 hm
theorem spec_MeetBox_ok (hm : Try.prog.follows .mixedOrders = true) : Sound Try.prog 85 spec_MeetBox_x := spec_MeetBox_ok0 hm (spec_l05Most_ok hm) (spec_l05Least_ok hm) (spec_Empty_ok hm)
theorem spec_TileBox_ok (hm : Try.prog.follows .mixedOrders = true) : Sound Try.prog 83 spec_TileBox_x := spec_TileBox_ok0 hm (spec_TileCount_ok hm) (spec_l01In_ok hm) (spec_MeetBox_ok hm)
theorem spec_Sparing_ok (hm : Try.prog.follows .mixedOrders = true) : Sound Try.prog 18 spec_Sparing_x := spec_Sparing_ok0 hm (spec_TileCount_ok hm) (spec_SurfaceOk_ok hm) (spec_TileBox_ok hm) (spec_MeetBox_ok hm) (spec_Empty_ok hm)
theorem impl_inRange_ok (hm : Try.prog.follows .mixedOrders = true) : Sound Try.prog 76 impl_inRange_x := impl_inRange_ok0 hm
theorem impl_isSide_ok (hm : Try.prog.follows .mixedOrders = true) : Sound Try.prog 102 impl_isSide_x := impl_isSide_ok0 hm (impl_inRange_ok hm)
theorem impl_isByte_ok (hm : Try.prog.follows .mixedOrders = true) : Sound Try.prog 178 impl_isByte_x := impl_isByte_ok0 hm (impl_inRange_ok hm)
theorem impl_ColorOk_ok (hm : Try.prog.follows .mixedOrders = true) : Sound Try.prog 180 impl_ColorOk_x := impl_ColorOk_ok0 hm (impl_isByte_ok hm)
theorem impl_LaidOk_ok (hm : Try.prog.follows .mixedOrders = true) : Sound Try.prog 112 impl_LaidOk_x := impl_LaidOk_ok0 hm (impl_ColorOk_ok hm)
theorem impl_SurfaceOk_ok (hm : Try.prog.follows .mixedOrders = true) : Sound Try.prog 34 impl_SurfaceOk_x := impl_SurfaceOk_ok0 hm (impl_isSide_ok hm) (impl_LaidOk_ok hm)
theorem impl_tilesAlong_ok (hm : Try.prog.follows .mixedOrders = true) : Sound Try.prog 156 impl_tilesAlong_x := impl_tilesAlong_ok0 hm
theorem impl_TileCount_ok (hm : Try.prog.follows .mixedOrders = true) : Sound Try.prog 138 impl_TileCount_x := impl_TileCount_ok0 hm (impl_isSide_ok hm) (impl_tilesAlong_ok hm)
theorem impl_isStamped_ok (hm : Try.prog.follows .mixedOrders = true) : Sound Try.prog 87 impl_isStamped_x := impl_isStamped_ok0 hm (impl_SurfaceOk_ok hm) (impl_TileCount_ok hm)
theorem impl_Empty_ok (hm : Try.prog.follows .mixedOrders = true) : Sound Try.prog 158 impl_Empty_x := impl_Empty_ok0 hm
theorem impl_MeetBox_ok (hm : Try.prog.follows .mixedOrders = true) : Sound Try.prog 157 impl_MeetBox_x := impl_MeetBox_ok0 hm (impl_Empty_ok hm)
theorem impl_TileBox_ok (hm : Try.prog.follows .mixedOrders = true) : Sound Try.prog 88 impl_TileBox_x := impl_TileBox_ok0 hm (impl_TileCount_ok hm) (impl_inRange_ok hm) (impl_tilesAlong_ok hm) (impl_MeetBox_ok hm)
theorem impl_sameWithin_ok (hm : Try.prog.follows .mixedOrders = true) : Sound Try.prog 90 impl_sameWithin_x := impl_sameWithin_ok0 hm
theorem impl_meetsAny_ok (hm : Try.prog.follows .mixedOrders = true) : Sound Try.prog 89 impl_meetsAny_x := impl_meetsAny_ok0 hm (impl_MeetBox_ok hm) (impl_Empty_ok hm)
theorem impl_Sparing_ok (hm : Try.prog.follows .mixedOrders = true) : Sound Try.prog 20 impl_Sparing_x := impl_Sparing_ok0 hm (impl_isStamped_ok hm) (impl_TileBox_ok hm) (impl_sameWithin_ok hm) (impl_meetsAny_ok hm)
theorem laws_eqMat_ok (hm : Try.prog.follows .mixedOrders = true) : Sound Try.prog 26 laws_eqMat_x := laws_eqMat_ok0 hm
theorem laws_eqIntS_ok (hm : Try.prog.follows .mixedOrders = true) : Sound Try.prog 56 laws_eqIntS_x := laws_eqIntS_ok0 hm
theorem laws_eqPoint_ok (hm : Try.prog.follows .mixedOrders = true) : Sound Try.prog 240 laws_eqPoint_x := laws_eqPoint_ok0 hm
theorem laws_eqPointS_ok (hm : Try.prog.follows .mixedOrders = true) : Sound Try.prog 239 laws_eqPointS_x := laws_eqPointS_ok0 hm (laws_eqPoint_ok hm)
theorem laws_eqPath_ok (hm : Try.prog.follows .mixedOrders = true) : Sound Try.prog 217 laws_eqPath_x := laws_eqPath_ok0 hm (laws_eqIntS_ok hm) (laws_eqPointS_ok hm)
theorem laws_eqColor_ok (hm : Try.prog.follows .mixedOrders = true) : Sound Try.prog 202 laws_eqColor_x := laws_eqColor_ok0 hm
theorem laws_eqPaint_ok (hm : Try.prog.follows .mixedOrders = true) : Sound Try.prog 218 laws_eqPaint_x := laws_eqPaint_ok0 hm (laws_eqColor_ok hm) (laws_eqPoint_ok hm)
theorem laws_eqNode_ok (hm : Try.prog.follows .mixedOrders = true) : Sound Try.prog 169 laws_eqNode_x := laws_eqNode_ok0 hm (laws_eqMat_ok hm) (laws_eqPath_ok hm) (laws_eqIntS_ok hm) (laws_eqPaint_ok hm)
theorem laws_eqNodeS_ok (hm : Try.prog.follows .mixedOrders = true) : Sound Try.prog 99 laws_eqNodeS_x := laws_eqNodeS_ok0 hm (laws_eqNode_ok hm)
theorem laws_eqScene_ok (hm : Try.prog.follows .mixedOrders = true) : Sound Try.prog 27 laws_eqScene_x := laws_eqScene_ok0 hm (laws_eqNodeS_ok hm)
theorem laws_eqColorS_ok (hm : Try.prog.follows .mixedOrders = true) : Sound Try.prog 142 laws_eqColorS_x := laws_eqColorS_ok0 hm (laws_eqColor_ok hm)
theorem laws_eqSurface_ok (hm : Try.prog.follows .mixedOrders = true) : Sound Try.prog 63 laws_eqSurface_x := laws_eqSurface_ok0 hm (laws_eqColorS_ok hm)
theorem laws_eqBox_ok (hm : Try.prog.follows .mixedOrders = true) : Sound Try.prog 139 laws_eqBox_x := laws_eqBox_ok0 hm
theorem laws_eqBoxS_ok (hm : Try.prog.follows .mixedOrders = true) : Sound Try.prog 57 laws_eqBoxS_x := laws_eqBoxS_ok0 hm (laws_eqBox_ok hm)
theorem laws_eqMask_ok (hm : Try.prog.follows .mixedOrders = true) : Sound Try.prog 70 laws_eqMask_x := laws_eqMask_ok0 hm (laws_eqBox_ok hm) (laws_eqIntS_ok hm)
theorem laws_eqKept_ok (hm : Try.prog.follows .mixedOrders = true) : Sound Try.prog 153 laws_eqKept_x := laws_eqKept_ok0 hm (laws_eqMask_ok hm)
theorem laws_eqKeptS_ok (hm : Try.prog.follows .mixedOrders = true) : Sound Try.prog 79 laws_eqKeptS_x := laws_eqKeptS_ok0 hm (laws_eqKept_ok hm)
theorem laws_eqCache_ok (hm : Try.prog.follows .mixedOrders = true) : Sound Try.prog 16 laws_eqCache_x := laws_eqCache_ok0 hm (laws_eqKeptS_ok hm)
theorem laws_eqEngine_ok (hm : Try.prog.follows .mixedOrders = true) : Sound Try.prog 21 laws_eqEngine_x := laws_eqEngine_ok0 hm (laws_eqScene_ok hm) (laws_eqSurface_ok hm) (laws_eqBoxS_ok hm) (laws_eqIntS_ok hm) (laws_eqCache_ok hm)
theorem laws_FnExactSparing_ok (hm : Try.prog.follows .mixedOrders = true) : Sound Try.prog 4 laws_FnExactSparing_x := laws_FnExactSparing_ok0 hm (laws_szEngine_ok hm) (laws_toEngine_ok hm) (spec_Sparing_ok hm) (impl_Sparing_ok hm) (laws_eqEngine_ok hm)
end Go.Proofs.Ytoafihhhdnmliaa.Am
