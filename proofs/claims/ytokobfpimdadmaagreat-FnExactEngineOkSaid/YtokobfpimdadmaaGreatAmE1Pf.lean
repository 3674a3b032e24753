import Derived.Test.YtokobfpimdadmaaGreatAmE1Pfa
import Derived.Test.YtokobfpimdadmaaGreatAmE1Pfb
set_option linter.unusedVariables false
set_option linter.unusedSimpArgs false
set_option linter.unusedSectionVars false
namespace Go.Proofs.YtokobfpimdadmaaGreat.Am
open Go Go.Proofs
set_option maxRecDepth 100000
set_option linter.unusedSimpArgs false
set_option linter.unusedVariables false
set_option maxHeartbeats 4000000
theorem laws_szIntS_ok (hm : Tryz.prog.follows .mixedOrders = true) : Sound Tryz.prog 12 laws_szIntS_x := laws_szIntS_ok0 hm
theorem laws_szPointS_ok (hm : Tryz.prog.follows .mixedOrders = true) : Sound Tryz.prog 106 laws_szPointS_x := laws_szPointS_ok0 hm
theorem laws_szPath_ok (hm : Tryz.prog.follows .mixedOrders = true) : Sound Tryz.prog 88 laws_szPath_x := laws_szPath_ok0 hm (laws_szIntS_ok hm) (laws_szPointS_ok hm)
theorem laws_szNode_ok (hm : Tryz.prog.follows .mixedOrders = true) : Sound Tryz.prog 59 laws_szNode_x := laws_szNode_ok0 hm (laws_szPath_ok hm) (laws_szIntS_ok hm)
theorem laws_szNodeS_ok (hm : Tryz.prog.follows .mixedOrders = true) : Sound Tryz.prog 32 laws_szNodeS_x := laws_szNodeS_ok0 hm (laws_szNode_ok hm)
theorem laws_szScene_ok (hm : Tryz.prog.follows .mixedOrders = true) : Sound Tryz.prog 9 laws_szScene_x := laws_szScene_ok0 hm (laws_szNodeS_ok hm)
theorem laws_szColorS_ok (hm : Tryz.prog.follows .mixedOrders = true) : Sound Tryz.prog 33 laws_szColorS_x := laws_szColorS_ok0 hm
theorem laws_szSurface_ok (hm : Tryz.prog.follows .mixedOrders = true) : Sound Tryz.prog 10 laws_szSurface_x := laws_szSurface_ok0 hm (laws_szColorS_ok hm)
theorem laws_szBoxS_ok (hm : Tryz.prog.follows .mixedOrders = true) : Sound Tryz.prog 11 laws_szBoxS_x := laws_szBoxS_ok0 hm
theorem laws_szMask_ok (hm : Tryz.prog.follows .mixedOrders = true) : Sound Tryz.prog 89 laws_szMask_x := laws_szMask_ok0 hm (laws_szIntS_ok hm)
theorem laws_szKept_ok (hm : Tryz.prog.follows .mixedOrders = true) : Sound Tryz.prog 60 laws_szKept_x := laws_szKept_ok0 hm (laws_szMask_ok hm)
theorem laws_szKeptS_ok (hm : Tryz.prog.follows .mixedOrders = true) : Sound Tryz.prog 34 laws_szKeptS_x := laws_szKeptS_ok0 hm (laws_szKept_ok hm)
theorem laws_szCache_ok (hm : Tryz.prog.follows .mixedOrders = true) : Sound Tryz.prog 13 laws_szCache_x := laws_szCache_ok0 hm (laws_szKeptS_ok hm)
theorem laws_szEngine_ok (hm : Tryz.prog.follows .mixedOrders = true) : Sound Tryz.prog 4 laws_szEngine_x := laws_szEngine_ok0 hm (laws_szScene_ok hm) (laws_szSurface_ok hm) (laws_szBoxS_ok hm) (laws_szIntS_ok hm) (laws_szCache_ok hm)
theorem laws_toMat_ok (hm : Tryz.prog.follows .mixedOrders = true) : Sound Tryz.prog 93 laws_toMat_x := laws_toMat_ok0 hm
theorem laws_toIntS_ok (hm : Tryz.prog.follows .mixedOrders = true) : Sound Tryz.prog 21 laws_toIntS_x := laws_toIntS_ok0 hm
theorem laws_toPoint_ok (hm : Tryz.prog.follows .mixedOrders = true) : Sound Tryz.prog 108 laws_toPoint_x := laws_toPoint_ok0 hm
theorem laws_toPointS_ok (hm : Tryz.prog.follows .mixedOrders = true) : Sound Tryz.prog 107 laws_toPointS_x := laws_toPointS_ok0 hm (laws_toPoint_ok hm)
theorem laws_toPath_ok (hm : Tryz.prog.follows .mixedOrders = true) : Sound Tryz.prog 94 laws_toPath_x := laws_toPath_ok0 hm (laws_toIntS_ok hm) (laws_toPointS_ok hm)
theorem laws_toColor_ok (hm : Tryz.prog.follows .mixedOrders = true) : Sound Tryz.prog 70 laws_toColor_x := laws_toColor_ok0 hm
theorem laws_toPaint_ok (hm : Tryz.prog.follows .mixedOrders = true) : Sound Tryz.prog 95 laws_toPaint_x := laws_toPaint_ok0 hm (laws_toColor_ok hm) (laws_toPoint_ok hm)
theorem laws_toNode_ok (hm : Tryz.prog.follows .mixedOrders = true) : Sound Tryz.prog 69 laws_toNode_x := laws_toNode_ok0 hm (laws_toMat_ok hm) (laws_toPath_ok hm) (laws_toIntS_ok hm) (laws_toPaint_ok hm)
theorem laws_toNodeS_ok (hm : Tryz.prog.follows .mixedOrders = true) : Sound Tryz.prog 41 laws_toNodeS_x := laws_toNodeS_ok0 hm (laws_toNode_ok hm)
theorem laws_toScene_ok (hm : Tryz.prog.follows .mixedOrders = true) : Sound Tryz.prog 18 laws_toScene_x := laws_toScene_ok0 hm (laws_toNodeS_ok hm)
theorem laws_toColorS_ok (hm : Tryz.prog.follows .mixedOrders = true) : Sound Tryz.prog 42 laws_toColorS_x := laws_toColorS_ok0 hm (laws_toColor_ok hm)
theorem laws_toSurface_ok (hm : Tryz.prog.follows .mixedOrders = true) : Sound Tryz.prog 19 laws_toSurface_x := laws_toSurface_ok0 hm (laws_toColorS_ok hm)
theorem laws_toBox_ok (hm : Tryz.prog.follows .mixedOrders = true) : Sound Tryz.prog 43 laws_toBox_x := laws_toBox_ok0 hm
theorem laws_toBoxS_ok (hm : Tryz.prog.follows .mixedOrders = true) : Sound Tryz.prog 20 laws_toBoxS_x := laws_toBoxS_ok0 hm (laws_toBox_ok hm)
theorem laws_toMask_ok (hm : Tryz.prog.follows .mixedOrders = true) : Sound Tryz.prog 96 laws_toMask_x := laws_toMask_ok0 hm (laws_toBox_ok hm) (laws_toIntS_ok hm)
theorem laws_toKept_ok (hm : Tryz.prog.follows .mixedOrders = true) : Sound Tryz.prog 71 laws_toKept_x := laws_toKept_ok0 hm (laws_toMask_ok hm)
theorem laws_toKeptS_ok (hm : Tryz.prog.follows .mixedOrders = true) : Sound Tryz.prog 44 laws_toKeptS_x := laws_toKeptS_ok0 hm (laws_toKept_ok hm)
theorem laws_toCache_ok (hm : Tryz.prog.follows .mixedOrders = true) : Sound Tryz.prog 22 laws_toCache_x := laws_toCache_ok0 hm (laws_toKeptS_ok hm)
theorem laws_toEngine_ok (hm : Tryz.prog.follows .mixedOrders = true) : Sound Tryz.prog 6 laws_toEngine_x := laws_toEngine_ok0 hm (laws_toScene_ok hm) (laws_toSurface_ok hm) (laws_toBoxS_ok hm) (laws_toIntS_ok hm) (laws_toCache_ok hm)
theorem spec_l01In_ok (hm : Tryz.prog.follows .mixedOrders = true) : Sound Tryz.prog 37 spec_l01In_x := spec_l01In_ok0 hm
theorem spec_MatOk_ok (hm : Tryz.prog.follows .mixedOrders = true) : Sound Tryz.prog 61 spec_MatOk_x := spec_MatOk_ok0 hm (spec_l01In_ok hm)
theorem spec_NeedOf_ok (hm : Tryz.prog.follows .mixedOrders = true) : Sound Tryz.prog 90 spec_NeedOf_x := spec_NeedOf_ok0 hm (spec_l01In_ok hm)
theorem spec_PointOk_ok (hm : Tryz.prog.follows .mixedOrders = true) : Sound Tryz.prog 91 spec_PointOk_x := spec_PointOk_ok0 hm (spec_l01In_ok hm)
theorem spec_PathOk_ok (hm : Tryz.prog.follows .mixedOrders = true) : Sound Tryz.prog 62 spec_PathOk_x := spec_PathOk_ok0 hm (spec_NeedOf_ok hm) (spec_PointOk_ok hm)
theorem spec_DashOk_ok (hm : Tryz.prog.follows .mixedOrders = true) : Sound Tryz.prog 63 spec_DashOk_x := spec_DashOk_ok0 hm (spec_l01In_ok hm)
theorem spec_l15NoPath_ok (hm : Tryz.prog.follows .mixedOrders = true) : Sound Tryz.prog 64 spec_l15NoPath_x := spec_l15NoPath_ok0 hm
theorem spec_l15NoPaint_ok (hm : Tryz.prog.follows .mixedOrders = true) : Sound Tryz.prog 65 spec_l15NoPaint_x := spec_l15NoPaint_ok0 hm
theorem spec_ColorOk_ok (hm : Tryz.prog.follows .mixedOrders = true) : Sound Tryz.prog 67 spec_ColorOk_x := spec_ColorOk_ok0 hm (spec_l01In_ok hm)
theorem spec_PaintOk_ok (hm : Tryz.prog.follows .mixedOrders = true) : Sound Tryz.prog 66 spec_PaintOk_x := spec_PaintOk_ok0 hm (spec_ColorOk_ok hm) (spec_PointOk_ok hm)
theorem spec_NodeOk_ok (hm : Tryz.prog.follows .mixedOrders = true) : Sound Tryz.prog 35 spec_NodeOk_x := spec_NodeOk_ok0 hm (spec_l01In_ok hm) (spec_MatOk_ok hm) (spec_PathOk_ok hm) (spec_DashOk_ok hm) (spec_l15NoPath_ok hm) (spec_l15NoPaint_ok hm) (spec_PaintOk_ok hm)
theorem spec_NodeAt_ok (hm : Tryz.prog.follows .mixedOrders = true) : Sound Tryz.prog 36 spec_NodeAt_x := spec_NodeAt_ok0 hm
theorem spec_DepthOf_ok (hm : Tryz.prog.follows .mixedOrders = true) : Sound Tryz.prog 38 spec_DepthOf_x := spec_DepthOf_ok0 hm (spec_NodeAt_ok hm)
theorem spec_SceneOk_ok (hm : Tryz.prog.follows .mixedOrders = true) : Sound Tryz.prog 14 spec_SceneOk_x := spec_SceneOk_ok0 hm (spec_NodeOk_ok hm) (spec_NodeAt_ok hm) (spec_DepthOf_ok hm) (spec_l01In_ok hm)
theorem spec_LaidOk_ok (hm : Tryz.prog.follows .mixedOrders = true) : Sound Tryz.prog 39 spec_LaidOk_x := spec_LaidOk_ok0 hm (spec_ColorOk_ok hm)
theorem spec_SurfaceOk_ok (hm : Tryz.prog.follows .mixedOrders = true) : Sound Tryz.prog 15 spec_SurfaceOk_x := spec_SurfaceOk_ok0 hm (spec_l01In_ok hm) (spec_LaidOk_ok hm)
theorem spec_Empty_ok (hm : Tryz.prog.follows .mixedOrders = true) : Sound Tryz.prog 92 spec_Empty_x := spec_Empty_ok0 hm
theorem spec_l11Box_ok (hm : Tryz.prog.follows .mixedOrders = true) : Sound Tryz.prog 68 spec_l11Box_x := spec_l11Box_ok0 hm (spec_Empty_ok hm) (spec_l01In_ok hm)
theorem spec_MaskOk_ok (hm : Tryz.prog.follows .mixedOrders = true) : Sound Tryz.prog 40 spec_MaskOk_x := spec_MaskOk_ok0 hm (spec_l11Box_ok hm) (spec_l01In_ok hm)
theorem spec_CacheOk_ok (hm : Tryz.prog.follows .mixedOrders = true) : Sound Tryz.prog 16 spec_CacheOk_x := spec_CacheOk_ok0 hm (spec_l01In_ok hm) (spec_MaskOk_ok hm)
theorem spec_TileCount_ok (hm : Tryz.prog.follows .mixedOrders = true) : Sound Tryz.prog 17 spec_TileCount_x := spec_TileCount_ok0 hm (spec_l01In_ok hm)
theorem spec_EngineOk_ok (hm : Tryz.prog.follows .mixedOrders = true) : Sound Tryz.prog 5 spec_EngineOk_x := spec_EngineOk_ok0 hm (spec_SceneOk_ok hm) (spec_SurfaceOk_ok hm) (spec_CacheOk_ok hm) (spec_TileCount_ok hm)
theorem impl_inRange_ok (hm : Tryz.prog.follows .mixedOrders = true) : Sound Tryz.prog 50 impl_inRange_x := impl_inRange_ok0 hm
theorem impl_isSide_ok (hm : Tryz.prog.follows .mixedOrders = true) : Sound Tryz.prog 45 impl_isSide_x := impl_isSide_ok0 hm (impl_inRange_ok hm)
theorem impl_tilesAlong_ok (hm : Tryz.prog.follows .mixedOrders = true) : Sound Tryz.prog 46 impl_tilesAlong_x := impl_tilesAlong_ok0 hm
theorem impl_TileCount_ok (hm : Tryz.prog.follows .mixedOrders = true) : Sound Tryz.prog 23 impl_TileCount_x := impl_TileCount_ok0 hm (impl_isSide_ok hm) (impl_tilesAlong_ok hm)
theorem impl_isFar_ok (hm : Tryz.prog.follows .mixedOrders = true) : Sound Tryz.prog 97 impl_isFar_x := impl_isFar_ok0 hm (impl_inRange_ok hm)
theorem impl_MatOk_ok (hm : Tryz.prog.follows .mixedOrders = true) : Sound Tryz.prog 72 impl_MatOk_x := impl_MatOk_ok0 hm (impl_inRange_ok hm) (impl_isFar_ok hm)
theorem impl_PointOk_ok (hm : Tryz.prog.follows .mixedOrders = true) : Sound Tryz.prog 100 impl_PointOk_x := impl_PointOk_ok0 hm (impl_isFar_ok hm)
theorem impl_pointsOk_ok (hm : Tryz.prog.follows .mixedOrders = true) : Sound Tryz.prog 98 impl_pointsOk_x := impl_pointsOk_ok0 hm (impl_PointOk_ok hm)
theorem impl_NeedOf_ok (hm : Tryz.prog.follows .mixedOrders = true) : Sound Tryz.prog 99 impl_NeedOf_x := impl_NeedOf_ok0 hm
theorem impl_PathOk_ok (hm : Tryz.prog.follows .mixedOrders = true) : Sound Tryz.prog 73 impl_PathOk_x := impl_PathOk_ok0 hm (impl_pointsOk_ok hm) (impl_NeedOf_ok hm)
theorem impl_DashOk_ok (hm : Tryz.prog.follows .mixedOrders = true) : Sound Tryz.prog 74 impl_DashOk_x := impl_DashOk_ok0 hm (impl_inRange_ok hm)
theorem impl_isMode_ok (hm : Tryz.prog.follows .mixedOrders = true) : Sound Tryz.prog 75 impl_isMode_x := impl_isMode_ok0 hm (impl_inRange_ok hm)
theorem impl_isByte_ok (hm : Tryz.prog.follows .mixedOrders = true) : Sound Tryz.prog 76 impl_isByte_x := impl_isByte_ok0 hm (impl_inRange_ok hm)
theorem impl_Path_isNone_ok (hm : Tryz.prog.follows .mixedOrders = true) : Sound Tryz.prog 77 impl_Path_isNone_x := impl_Path_isNone_ok0 hm
theorem impl_ColorOk_ok (hm : Tryz.prog.follows .mixedOrders = true) : Sound Tryz.prog 81 impl_ColorOk_x := impl_ColorOk_ok0 hm (impl_isByte_ok hm)
theorem impl_PaintOk_ok (hm : Tryz.prog.follows .mixedOrders = true) : Sound Tryz.prog 78 impl_PaintOk_x := impl_PaintOk_ok0 hm (impl_ColorOk_ok hm) (impl_PointOk_ok hm)
theorem impl_NodeOk_ok (hm : Tryz.prog.follows .mixedOrders = true) : Sound Tryz.prog 47 impl_NodeOk_x := impl_NodeOk_ok0 hm (impl_inRange_ok hm) (impl_MatOk_ok hm) (impl_PathOk_ok hm) (impl_DashOk_ok hm) (impl_isMode_ok hm) (impl_isByte_ok hm) (impl_Path_isNone_ok hm) (impl_PaintOk_ok hm)
theorem impl_NodeAt_1_ok (hm : Tryz.prog.follows .mixedOrders = true) : Sound Tryz.prog 80 impl_NodeAt_1_x := impl_NodeAt_1_ok0 hm
theorem slices_IndexFunc_Node_NodeAt_1_ok (hm : Tryz.prog.follows .mixedOrders = true) : Sound Tryz.prog 79 slices_IndexFunc_Node_NodeAt_1_x := slices_IndexFunc_Node_NodeAt_1_ok0 hm (impl_NodeAt_1_ok hm)
theorem impl_NodeAt_ok (hm : Tryz.prog.follows .mixedOrders = true) : Sound Tryz.prog 48 impl_NodeAt_x := impl_NodeAt_ok0 hm (slices_IndexFunc_Node_NodeAt_1_ok hm)
theorem impl_Scene_isParent_ok (hm : Tryz.prog.follows .mixedOrders = true) : Sound Tryz.prog 49 impl_Scene_isParent_x := impl_Scene_isParent_ok0 hm (impl_NodeAt_ok hm)
theorem impl_DepthOf_ok (hm : Tryz.prog.follows .mixedOrders = true) : Sound Tryz.prog 51 impl_DepthOf_x := impl_DepthOf_ok0 hm (impl_NodeAt_ok hm)
theorem impl_SceneOk_ok (hm : Tryz.prog.follows .mixedOrders = true) : Sound Tryz.prog 24 impl_SceneOk_x := impl_SceneOk_ok0 hm (impl_NodeOk_ok hm) (impl_NodeAt_ok hm) (impl_Scene_isParent_ok hm) (impl_DepthOf_ok hm) (impl_inRange_ok hm)
theorem impl_LaidOk_ok (hm : Tryz.prog.follows .mixedOrders = true) : Sound Tryz.prog 52 impl_LaidOk_x := impl_LaidOk_ok0 hm (impl_ColorOk_ok hm)
theorem impl_SurfaceOk_ok (hm : Tryz.prog.follows .mixedOrders = true) : Sound Tryz.prog 25 impl_SurfaceOk_x := impl_SurfaceOk_ok0 hm (impl_isSide_ok hm) (impl_LaidOk_ok hm)
theorem impl_Cache_keptAt_1_ok (hm : Tryz.prog.follows .mixedOrders = true) : Sound Tryz.prog 83 impl_Cache_keptAt_1_x := impl_Cache_keptAt_1_ok0 hm
theorem slices_IndexFunc_Kept_Cache_keptAt_1_ok (hm : Tryz.prog.follows .mixedOrders = true) : Sound Tryz.prog 82 slices_IndexFunc_Kept_Cache_keptAt_1_x := slices_IndexFunc_Kept_Cache_keptAt_1_ok0 hm (impl_Cache_keptAt_1_ok hm)
theorem impl_Cache_keptAt_ok (hm : Tryz.prog.follows .mixedOrders = true) : Sound Tryz.prog 53 impl_Cache_keptAt_x := impl_Cache_keptAt_ok0 hm (slices_IndexFunc_Kept_Cache_keptAt_1_ok hm)
theorem impl_Empty_ok (hm : Tryz.prog.follows .mixedOrders = true) : Sound Tryz.prog 101 impl_Empty_x := impl_Empty_ok0 hm
theorem impl_isMaskBox_ok (hm : Tryz.prog.follows .mixedOrders = true) : Sound Tryz.prog 84 impl_isMaskBox_x := impl_isMaskBox_ok0 hm (impl_Empty_ok hm)
theorem impl_MaskOk_ok (hm : Tryz.prog.follows .mixedOrders = true) : Sound Tryz.prog 54 impl_MaskOk_x := impl_MaskOk_ok0 hm (impl_isMaskBox_ok hm) (impl_inRange_ok hm)
theorem impl_CacheOk_ok (hm : Tryz.prog.follows .mixedOrders = true) : Sound Tryz.prog 26 impl_CacheOk_x := impl_CacheOk_ok0 hm (impl_inRange_ok hm) (impl_Cache_keptAt_ok hm) (impl_MaskOk_ok hm)
theorem impl_EngineOk_ok (hm : Tryz.prog.follows .mixedOrders = true) : Sound Tryz.prog 7 impl_EngineOk_x := impl_EngineOk_ok0 hm (impl_TileCount_ok hm) (impl_SceneOk_ok hm) (impl_SurfaceOk_ok hm) (impl_CacheOk_ok hm)
theorem laws_eqMat_ok (hm : Tryz.prog.follows .mixedOrders = true) : Sound Tryz.prog 102 laws_eqMat_x := laws_eqMat_ok0 hm
theorem laws_eqIntS_ok (hm : Tryz.prog.follows .mixedOrders = true) : Sound Tryz.prog 30 laws_eqIntS_x := laws_eqIntS_ok0 hm
theorem laws_eqPoint_ok (hm : Tryz.prog.follows .mixedOrders = true) : Sound Tryz.prog 110 laws_eqPoint_x := laws_eqPoint_ok0 hm
theorem laws_eqPointS_ok (hm : Tryz.prog.follows .mixedOrders = true) : Sound Tryz.prog 109 laws_eqPointS_x := laws_eqPointS_ok0 hm (laws_eqPoint_ok hm)
theorem laws_eqPath_ok (hm : Tryz.prog.follows .mixedOrders = true) : Sound Tryz.prog 103 laws_eqPath_x := laws_eqPath_ok0 hm (laws_eqIntS_ok hm) (laws_eqPointS_ok hm)
theorem laws_eqColor_ok (hm : Tryz.prog.follows .mixedOrders = true) : Sound Tryz.prog 86 laws_eqColor_x := laws_eqColor_ok0 hm
theorem laws_eqPaint_ok (hm : Tryz.prog.follows .mixedOrders = true) : Sound Tryz.prog 104 laws_eqPaint_x := laws_eqPaint_ok0 hm (laws_eqColor_ok hm) (laws_eqPoint_ok hm)
theorem laws_eqNode_ok (hm : Tryz.prog.follows .mixedOrders = true) : Sound Tryz.prog 85 laws_eqNode_x := laws_eqNode_ok0 hm (laws_eqMat_ok hm) (laws_eqPath_ok hm) (laws_eqIntS_ok hm) (laws_eqPaint_ok hm)
theorem laws_eqNodeS_ok (hm : Tryz.prog.follows .mixedOrders = true) : Sound Tryz.prog 55 laws_eqNodeS_x := laws_eqNodeS_ok0 hm (laws_eqNode_ok hm)
theorem laws_eqScene_ok (hm : Tryz.prog.follows .mixedOrders = true) : Sound Tryz.prog 27 laws_eqScene_x := laws_eqScene_ok0 hm (laws_eqNodeS_ok hm)
theorem laws_eqColorS_ok (hm : Tryz.prog.follows .mixedOrders = true) : Sound Tryz.prog 56 laws_eqColorS_x := laws_eqColorS_ok0 hm (laws_eqColor_ok hm)
theorem laws_eqSurface_ok (hm : Tryz.prog.follows .mixedOrders = true) : Sound Tryz.prog 28 laws_eqSurface_x := laws_eqSurface_ok0 hm (laws_eqColorS_ok hm)
theorem laws_eqBox_ok (hm : Tryz.prog.follows .mixedOrders = true) : Sound Tryz.prog 57 laws_eqBox_x := laws_eqBox_ok0 hm
theorem laws_eqBoxS_ok (hm : Tryz.prog.follows .mixedOrders = true) : Sound Tryz.prog 29 laws_eqBoxS_x := laws_eqBoxS_ok0 hm (laws_eqBox_ok hm)
theorem laws_eqMask_ok (hm : Tryz.prog.follows .mixedOrders = true) : Sound Tryz.prog 105 laws_eqMask_x := laws_eqMask_ok0 hm (laws_eqBox_ok hm) (laws_eqIntS_ok hm)
theorem laws_eqKept_ok (hm : Tryz.prog.follows .mixedOrders = true) : Sound Tryz.prog 87 laws_eqKept_x := laws_eqKept_ok0 hm (laws_eqMask_ok hm)
theorem laws_eqKeptS_ok (hm : Tryz.prog.follows .mixedOrders = true) : Sound Tryz.prog 58 laws_eqKeptS_x := laws_eqKeptS_ok0 hm (laws_eqKept_ok hm)
theorem laws_eqCache_ok (hm : Tryz.prog.follows .mixedOrders = true) : Sound Tryz.prog 31 laws_eqCache_x := laws_eqCache_ok0 hm (laws_eqKeptS_ok hm)
theorem laws_eqEngine_ok (hm : Tryz.prog.follows .mixedOrders = true) : Sound Tryz.prog 8 laws_eqEngine_x := laws_eqEngine_ok0 hm (laws_eqScene_ok hm) (laws_eqSurface_ok hm) (laws_eqBoxS_ok hm) (laws_eqIntS_ok hm) (laws_eqCache_ok hm)
theorem laws_FnExactEngineOk_ok (hm : Tryz.prog.follows .mixedOrders = true) : Sound Tryz.prog 3 laws_FnExactEngineOk_x := laws_FnExactEngineOk_ok0 hm (laws_szEngine_ok hm) (laws_toEngine_ok hm) (spec_EngineOk_ok hm) (impl_EngineOk_ok hm) (laws_eqEngine_ok hm)
end Go.Proofs.YtokobfpimdadmaaGreat.Am
