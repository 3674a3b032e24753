import Derived.Test.YtapchldnmkfkoabAmPnPfa
import Derived.Test.YtapchldnmkfkoabAmPnPfb
import Derived.Test.YtapchldnmkfkoabAmPnPfc
namespace Go.Proofs.Ytapchldnmkfkoab.Am
open Go Go.Proofs
set_option maxRecDepth 100000
set_option maxHeartbeats 4000000
theorem laws_szIntS_ok (hm:Try.prog.follows .mixedOrders=true):Sound Try.prog 56 laws_szIntS_x:=laws_szIntS_ok0 hm
theorem laws_szPointS_ok (hm:Try.prog.follows .mixedOrders=true):Sound Try.prog 97 laws_szPointS_x:=laws_szPointS_ok0 hm
theorem laws_szPath_ok (hm:Try.prog.follows .mixedOrders=true):Sound Try.prog 55 laws_szPath_x:=laws_szPath_ok0 hm (laws_szIntS_ok hm) (laws_szPointS_ok hm)
theorem laws_szNode_ok (hm:Try.prog.follows .mixedOrders=true):Sound Try.prog 17 laws_szNode_x:=laws_szNode_ok0 hm (laws_szPath_ok hm) (laws_szIntS_ok hm)
theorem laws_szNodeS_ok (hm:Try.prog.follows .mixedOrders=true):Sound Try.prog 54 laws_szNodeS_x:=laws_szNodeS_ok0 hm (laws_szNode_ok hm)
theorem laws_szScene_ok (hm:Try.prog.follows .mixedOrders=true):Sound Try.prog 16 laws_szScene_x:=laws_szScene_ok0 hm (laws_szNodeS_ok hm)
theorem laws_toMat_ok (hm:Try.prog.follows .mixedOrders=true):Sound Try.prog 60 laws_toMat_x:=laws_toMat_ok0 hm
theorem laws_toIntS_ok (hm:Try.prog.follows .mixedOrders=true):Sound Try.prog 62 laws_toIntS_x:=laws_toIntS_ok0 hm
theorem laws_toPoint_ok (hm:Try.prog.follows .mixedOrders=true):Sound Try.prog 106 laws_toPoint_x:=laws_toPoint_ok0 hm
theorem laws_toPointS_ok (hm:Try.prog.follows .mixedOrders=true):Sound Try.prog 104 laws_toPointS_x:=laws_toPointS_ok0 hm (laws_toPoint_ok hm)
theorem laws_toPath_ok (hm:Try.prog.follows .mixedOrders=true):Sound Try.prog 61 laws_toPath_x:=laws_toPath_ok0 hm (laws_toIntS_ok hm) (laws_toPointS_ok hm)
theorem laws_toColor_ok (hm:Try.prog.follows .mixedOrders=true):Sound Try.prog 105 laws_toColor_x:=laws_toColor_ok0 hm
theorem laws_toPaint_ok (hm:Try.prog.follows .mixedOrders=true):Sound Try.prog 63 laws_toPaint_x:=laws_toPaint_ok0 hm (laws_toColor_ok hm) (laws_toPoint_ok hm)
theorem laws_toNode_ok (hm:Try.prog.follows .mixedOrders=true):Sound Try.prog 20 laws_toNode_x:=laws_toNode_ok0 hm (laws_toMat_ok hm) (laws_toPath_ok hm) (laws_toIntS_ok hm) (laws_toPaint_ok hm)
theorem laws_toNodeS_ok (hm:Try.prog.follows .mixedOrders=true):Sound Try.prog 59 laws_toNodeS_x:=laws_toNodeS_ok0 hm (laws_toNode_ok hm)
theorem laws_toScene_ok (hm:Try.prog.follows .mixedOrders=true):Sound Try.prog 19 laws_toScene_x:=laws_toScene_ok0 hm (laws_toNodeS_ok hm)
theorem spec_l15CopyPath_ok (hm:Try.prog.follows .mixedOrders=true):Sound Try.prog 88 spec_l15CopyPath_x:=spec_l15CopyPath_ok0 hm
theorem spec_l15CopyNode_ok (hm:Try.prog.follows .mixedOrders=true):Sound Try.prog 47 spec_l15CopyNode_x:=spec_l15CopyNode_ok0 hm (spec_l15CopyPath_ok hm)
theorem spec_l15Copy_ok (hm:Try.prog.follows .mixedOrders=true):Sound Try.prog 43 spec_l15Copy_x:=spec_l15Copy_ok0 hm (spec_l15CopyNode_ok hm)
theorem spec_l01In_ok (hm:Try.prog.follows .mixedOrders=true):Sound Try.prog 87 spec_l01In_x:=spec_l01In_ok0 hm
theorem spec_MatOk_ok (hm:Try.prog.follows .mixedOrders=true):Sound Try.prog 98 spec_MatOk_x:=spec_MatOk_ok0 hm (spec_l01In_ok hm)
theorem spec_NeedOf_ok (hm:Try.prog.follows .mixedOrders=true):Sound Try.prog 124 spec_NeedOf_x:=spec_NeedOf_ok0 hm (spec_l01In_ok hm)
theorem spec_PointOk_ok (hm:Try.prog.follows .mixedOrders=true):Sound Try.prog 125 spec_PointOk_x:=spec_PointOk_ok0 hm (spec_l01In_ok hm)
theorem spec_PathOk_ok (hm:Try.prog.follows .mixedOrders=true):Sound Try.prog 99 spec_PathOk_x:=spec_PathOk_ok0 hm (spec_NeedOf_ok hm) (spec_PointOk_ok hm)
theorem spec_DashOk_ok (hm:Try.prog.follows .mixedOrders=true):Sound Try.prog 100 spec_DashOk_x:=spec_DashOk_ok0 hm (spec_l01In_ok hm)
theorem spec_l15NoPath_ok (hm:Try.prog.follows .mixedOrders=true):Sound Try.prog 101 spec_l15NoPath_x:=spec_l15NoPath_ok0 hm
theorem spec_l15NoPaint_ok (hm:Try.prog.follows .mixedOrders=true):Sound Try.prog 102 spec_l15NoPaint_x:=spec_l15NoPaint_ok0 hm
theorem spec_ColorOk_ok (hm:Try.prog.follows .mixedOrders=true):Sound Try.prog 126 spec_ColorOk_x:=spec_ColorOk_ok0 hm (spec_l01In_ok hm)
theorem spec_PaintOk_ok (hm:Try.prog.follows .mixedOrders=true):Sound Try.prog 103 spec_PaintOk_x:=spec_PaintOk_ok0 hm (spec_ColorOk_ok hm) (spec_PointOk_ok hm)
theorem spec_NodeOk_ok (hm:Try.prog.follows .mixedOrders=true):Sound Try.prog 57 spec_NodeOk_x:=spec_NodeOk_ok0 hm (spec_l01In_ok hm) (spec_MatOk_ok hm) (spec_PathOk_ok hm) (spec_DashOk_ok hm) (spec_l15NoPath_ok hm) (spec_l15NoPaint_ok hm) (spec_PaintOk_ok hm)
theorem spec_NodeAt_ok (hm:Try.prog.follows .mixedOrders=true):Sound Try.prog 45 spec_NodeAt_x:=spec_NodeAt_ok0 hm
theorem spec_DepthOf_ok (hm:Try.prog.follows .mixedOrders=true):Sound Try.prog 58 spec_DepthOf_x:=spec_DepthOf_ok0 hm (spec_NodeAt_ok hm)
theorem spec_SceneOk_ok (hm:Try.prog.follows .mixedOrders=true):Sound Try.prog 44 spec_SceneOk_x:=spec_SceneOk_ok0 hm (spec_NodeOk_ok hm) (spec_NodeAt_ok hm) (spec_DepthOf_ok hm) (spec_l01In_ok hm)
theorem spec_l15Under_ok (hm:Try.prog.follows .mixedOrders=true):Sound Try.prog 46 spec_l15Under_x:=spec_l15Under_ok0 hm (spec_NodeAt_ok hm)
theorem spec_PlaceNode_ok (hm:Try.prog.follows .mixedOrders=true):Sound Try.prog 11 spec_PlaceNode_x:=spec_PlaceNode_ok0 hm (spec_l15Copy_ok hm) (spec_SceneOk_ok hm) (spec_NodeAt_ok hm) (spec_l15CopyNode_ok hm) (spec_l15Under_ok hm)
theorem slices_Clone_int_ok (hm:Try.prog.follows .mixedOrders=true):Sound Try.prog 108 slices_Clone_int_x:=slices_Clone_int_ok0 hm
theorem slices_Clone_Point_ok (hm:Try.prog.follows .mixedOrders=true):Sound Try.prog 127 slices_Clone_Point_x:=slices_Clone_Point_ok0 hm
theorem impl_copyPath_ok (hm:Try.prog.follows .mixedOrders=true):Sound Try.prog 107 impl_copyPath_x:=impl_copyPath_ok0 hm (slices_Clone_int_ok hm) (slices_Clone_Point_ok hm)
theorem impl_copyNode_ok (hm:Try.prog.follows .mixedOrders=true):Sound Try.prog 64 impl_copyNode_x:=impl_copyNode_ok0 hm (impl_copyPath_ok hm) (slices_Clone_int_ok hm)
theorem impl_copyScene_ok (hm:Try.prog.follows .mixedOrders=true):Sound Try.prog 35 impl_copyScene_x:=impl_copyScene_ok0 hm (impl_copyNode_ok hm)
theorem impl_inRange_ok (hm:Try.prog.follows .mixedOrders=true):Sound Try.prog 41 impl_inRange_x:=impl_inRange_ok0 hm
theorem impl_isFar_ok (hm:Try.prog.follows .mixedOrders=true):Sound Try.prog 119 impl_isFar_x:=impl_isFar_ok0 hm (impl_inRange_ok hm)
theorem impl_MatOk_ok (hm:Try.prog.follows .mixedOrders=true):Sound Try.prog 89 impl_MatOk_x:=impl_MatOk_ok0 hm (impl_inRange_ok hm) (impl_isFar_ok hm)
theorem impl_PointOk_ok (hm:Try.prog.follows .mixedOrders=true):Sound Try.prog 123 impl_PointOk_x:=impl_PointOk_ok0 hm (impl_isFar_ok hm)
theorem impl_pointsOk_ok (hm:Try.prog.follows .mixedOrders=true):Sound Try.prog 120 impl_pointsOk_x:=impl_pointsOk_ok0 hm (impl_PointOk_ok hm)
theorem impl_NeedOf_ok (hm:Try.prog.follows .mixedOrders=true):Sound Try.prog 121 impl_NeedOf_x:=impl_NeedOf_ok0 hm
theorem impl_PathOk_ok (hm:Try.prog.follows .mixedOrders=true):Sound Try.prog 90 impl_PathOk_x:=impl_PathOk_ok0 hm (impl_pointsOk_ok hm) (impl_NeedOf_ok hm)
theorem impl_DashOk_ok (hm:Try.prog.follows .mixedOrders=true):Sound Try.prog 91 impl_DashOk_x:=impl_DashOk_ok0 hm (impl_inRange_ok hm)
theorem impl_isMode_ok (hm:Try.prog.follows .mixedOrders=true):Sound Try.prog 92 impl_isMode_x:=impl_isMode_ok0 hm (impl_inRange_ok hm)
theorem impl_isByte_ok (hm:Try.prog.follows .mixedOrders=true):Sound Try.prog 93 impl_isByte_x:=impl_isByte_ok0 hm (impl_inRange_ok hm)
theorem impl_Path_isNone_ok (hm:Try.prog.follows .mixedOrders=true):Sound Try.prog 94 impl_Path_isNone_x:=impl_Path_isNone_ok0 hm
theorem impl_ColorOk_ok (hm:Try.prog.follows .mixedOrders=true):Sound Try.prog 122 impl_ColorOk_x:=impl_ColorOk_ok0 hm (impl_isByte_ok hm)
theorem impl_PaintOk_ok (hm:Try.prog.follows .mixedOrders=true):Sound Try.prog 95 impl_PaintOk_x:=impl_PaintOk_ok0 hm (impl_ColorOk_ok hm) (impl_PointOk_ok hm)
theorem impl_NodeOk_ok (hm:Try.prog.follows .mixedOrders=true):Sound Try.prog 50 impl_NodeOk_x:=impl_NodeOk_ok0 hm (impl_inRange_ok hm) (impl_MatOk_ok hm) (impl_PathOk_ok hm) (impl_DashOk_ok hm) (impl_isMode_ok hm) (impl_isByte_ok hm) (impl_Path_isNone_ok hm) (impl_PaintOk_ok hm)
theorem impl_NodeAt_1_ok (hm:Try.prog.follows .mixedOrders=true):Sound Try.prog 49 impl_NodeAt_1_x:=impl_NodeAt_1_ok0 hm
theorem slices_IndexFunc_Node_NodeAt_1_ok (hm:Try.prog.follows .mixedOrders=true):Sound Try.prog 48 slices_IndexFunc_Node_NodeAt_1_x:=slices_IndexFunc_Node_NodeAt_1_ok0 hm (impl_NodeAt_1_ok hm)
theorem impl_NodeAt_ok (hm:Try.prog.follows .mixedOrders=true):Sound Try.prog 13 impl_NodeAt_x:=impl_NodeAt_ok0 hm (slices_IndexFunc_Node_NodeAt_1_ok hm)
theorem impl_Scene_isParent_ok (hm:Try.prog.follows .mixedOrders=true):Sound Try.prog 51 impl_Scene_isParent_x:=impl_Scene_isParent_ok0 hm (impl_NodeAt_ok hm)
theorem impl_DepthOf_ok (hm:Try.prog.follows .mixedOrders=true):Sound Try.prog 42 impl_DepthOf_x:=impl_DepthOf_ok0 hm (impl_NodeAt_ok hm)
theorem impl_SceneOk_ok (hm:Try.prog.follows .mixedOrders=true):Sound Try.prog 14 impl_SceneOk_x:=impl_SceneOk_ok0 hm (impl_NodeOk_ok hm) (impl_NodeAt_ok hm) (impl_Scene_isParent_ok hm) (impl_DepthOf_ok hm) (impl_inRange_ok hm)
theorem impl_Scene_isPlace_ok (hm:Try.prog.follows .mixedOrders=true):Sound Try.prog 36 impl_Scene_isPlace_x:=impl_Scene_isPlace_ok0 hm (impl_NodeAt_ok hm) (impl_Scene_isParent_ok hm)
theorem impl_Scene_comesTo_ok (hm:Try.prog.follows .mixedOrders=true):Sound Try.prog 84 impl_Scene_comesTo_x:=impl_Scene_comesTo_ok0 hm (impl_NodeAt_ok hm)
theorem impl_UnderOf_ok (hm:Try.prog.follows .mixedOrders=true):Sound Try.prog 38 impl_UnderOf_x:=impl_UnderOf_ok0 hm (impl_NodeAt_ok hm) (impl_Scene_comesTo_ok hm)
theorem slices_Index_int_ok (hm:Try.prog.follows .mixedOrders=true):Sound Try.prog 83 slices_Index_int_x:=slices_Index_int_ok0 hm
theorem slices_Contains_int_ok (hm:Try.prog.follows .mixedOrders=true):Sound Try.prog 37 slices_Contains_int_x:=slices_Contains_int_ok0 hm (slices_Index_int_ok hm)
theorem slices_Delete_NodeR_ok (hm:Try.prog.follows .mixedOrders=true):Sound Try.prog 39 slices_Delete_NodeR_x:=slices_Delete_NodeR_ok0 hm
theorem slices_Delete_Node_n_ok (hm:Try.prog.follows .mixedOrders=true):Sound Try.prog 39 slices_Delete_Node_n_x:=slices_Delete_Node_n_ok0 hm (slices_Delete_NodeR_ok hm)
theorem slices_Insert_NodeR_ok (hm:Try.prog.follows .mixedOrders=true):Sound Try.prog 40 slices_Insert_NodeR_x:=slices_Insert_NodeR_ok0 hm
theorem slices_Insert_Node_n_ok (hm:Try.prog.follows .mixedOrders=true):Sound Try.prog 40 slices_Insert_Node_n_x:=slices_Insert_Node_n_ok0 hm (slices_Insert_NodeR_ok hm)
theorem impl_PlaceNode_ok (hm:Try.prog.follows .mixedOrders=true):Sound Try.prog 10 impl_PlaceNode_x:=impl_PlaceNode_ok0 hm (impl_copyScene_ok hm) (impl_SceneOk_ok hm) (impl_Scene_isPlace_ok hm) (impl_UnderOf_ok hm) (slices_Contains_int_ok hm) (impl_NodeAt_ok hm) (slices_Delete_Node_n_ok hm) (slices_Insert_Node_n_ok hm) (impl_DepthOf_ok hm) (impl_inRange_ok hm)
theorem laws_eqMat_ok (hm:Try.prog.follows .mixedOrders=true):Sound Try.prog 66 laws_eqMat_x:=laws_eqMat_ok0 hm
theorem laws_eqIntS_ok (hm:Try.prog.follows .mixedOrders=true):Sound Try.prog 68 laws_eqIntS_x:=laws_eqIntS_ok0 hm
theorem laws_eqPoint_ok (hm:Try.prog.follows .mixedOrders=true):Sound Try.prog 111 laws_eqPoint_x:=laws_eqPoint_ok0 hm
theorem laws_eqPointS_ok (hm:Try.prog.follows .mixedOrders=true):Sound Try.prog 109 laws_eqPointS_x:=laws_eqPointS_ok0 hm (laws_eqPoint_ok hm)
theorem laws_eqPath_ok (hm:Try.prog.follows .mixedOrders=true):Sound Try.prog 67 laws_eqPath_x:=laws_eqPath_ok0 hm (laws_eqIntS_ok hm) (laws_eqPointS_ok hm)
theorem laws_eqColor_ok (hm:Try.prog.follows .mixedOrders=true):Sound Try.prog 110 laws_eqColor_x:=laws_eqColor_ok0 hm
theorem laws_eqPaint_ok (hm:Try.prog.follows .mixedOrders=true):Sound Try.prog 69 laws_eqPaint_x:=laws_eqPaint_ok0 hm (laws_eqColor_ok hm) (laws_eqPoint_ok hm)
theorem laws_eqNode_ok (hm:Try.prog.follows .mixedOrders=true):Sound Try.prog 23 laws_eqNode_x:=laws_eqNode_ok0 hm (laws_eqMat_ok hm) (laws_eqPath_ok hm) (laws_eqIntS_ok hm) (laws_eqPaint_ok hm)
theorem laws_eqNodeS_ok (hm:Try.prog.follows .mixedOrders=true):Sound Try.prog 65 laws_eqNodeS_x:=laws_eqNodeS_ok0 hm (laws_eqNode_ok hm)
theorem laws_eqScene_ok (hm:Try.prog.follows .mixedOrders=true):Sound Try.prog 22 laws_eqScene_x:=laws_eqScene_ok0 hm (laws_eqNodeS_ok hm)
theorem laws_markIntS_ok (hm:Try.prog.follows .mixedOrders=true):Sound Try.prog 72 laws_markIntS_x:=laws_markIntS_ok0 hm
theorem laws_markPointS_ok (hm:Try.prog.follows .mixedOrders=true):Sound Try.prog 112 laws_markPointS_x:=laws_markPointS_ok0 hm
theorem laws_markNodeS_ok (hm:Try.prog.follows .mixedOrders=true):Sound Try.prog 70 laws_markNodeS_x:=laws_markNodeS_ok0 hm (laws_markIntS_ok hm) (laws_markPointS_ok hm)
theorem laws_markScene_ok (hm:Try.prog.follows .mixedOrders=true):Sound Try.prog 24 laws_markScene_x:=laws_markScene_ok0 hm (laws_markNodeS_ok hm)
theorem laws_heldIntS_ok (hm:Try.prog.follows .mixedOrders=true):Sound Try.prog 113 laws_heldIntS_x:=laws_heldIntS_ok0 hm
theorem laws_heldPointS_ok (hm:Try.prog.follows .mixedOrders=true):Sound Try.prog 114 laws_heldPointS_x:=laws_heldPointS_ok0 hm
theorem laws_heldNodeS_ok (hm:Try.prog.follows .mixedOrders=true):Sound Try.prog 73 laws_heldNodeS_x:=laws_heldNodeS_ok0 hm (laws_heldIntS_ok hm) (laws_heldPointS_ok hm)
theorem laws_heldScene_ok (hm:Try.prog.follows .mixedOrders=true):Sound Try.prog 26 laws_heldScene_x:=laws_heldScene_ok0 hm (laws_heldNodeS_ok hm)
theorem laws_FnExactPlaceNode_ok (hm:Try.prog.follows .mixedOrders=true):Sound Try.prog 7 laws_FnExactPlaceNode_x:=laws_FnExactPlaceNode_ok0 hm (laws_szScene_ok hm) (laws_toScene_ok hm) (spec_PlaceNode_ok hm) (impl_PlaceNode_ok hm) (laws_eqScene_ok hm) (laws_markScene_ok hm) (laws_heldScene_ok hm)
end Go.Proofs.Ytapchldnmkfkoab.Am
