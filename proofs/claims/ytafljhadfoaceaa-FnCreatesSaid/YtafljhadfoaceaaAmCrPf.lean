import Derived.Test.YtafljhadfoaceaaAmCrPfa
import Derived.Test.YtafljhadfoaceaaAmCrPfb
import Derived.Test.YtafljhadfoaceaaAmCrPfc
import Derived.Test.YtafljhadfoaceaaAmCrPfd
set_option linter.unusedVariables false
set_option linter.unusedSimpArgs false
set_option linter.unusedSectionVars false
namespace Go.Proofs.Ytafljhadfoaceaa.Am
open Go Go.Proofs
set_option maxRecDepth 100000
set_option linter.unusedSimpArgs false
set_option linter.unusedVariables false
set_option maxHeartbeats 4000000
theorem laws_big_ok (hm : Try.prog.follows .mixedOrders = true) : Sound Try.prog 38 laws_big_x := laws_big_ok0 hm
theorem spec_l01New_ok (hm : Try.prog.follows .mixedOrders = true) : Sound Try.prog 104 spec_l01New_x := spec_l01New_ok0 hm
theorem spec_l01Byte_ok (hm : Try.prog.follows .mixedOrders = true) : Sound Try.prog 106 spec_l01Byte_x := spec_l01Byte_ok0 hm
theorem spec_l01Below_ok (hm : Try.prog.follows .mixedOrders = true) : Sound Try.prog 107 spec_l01Below_x := spec_l01Below_ok0 hm (spec_l01Byte_ok hm)
theorem spec_Still_ok (hm : Try.prog.follows .mixedOrders = true) : Sound Try.prog 172 spec_Still_x := spec_Still_ok0 hm
theorem spec_l01PickInt_ok (hm : Try.prog.follows .mixedOrders = true) : Sound Try.prog 171 spec_l01PickInt_x := spec_l01PickInt_ok0 hm (spec_l01Below_ok hm)
theorem spec_l01Once_ok (hm : Try.prog.follows .mixedOrders = true) : Sound Try.prog 170 spec_l01Once_x := spec_l01Once_ok0 hm (spec_l01Below_ok hm)
theorem spec_Shift_ok (hm : Try.prog.follows .mixedOrders = true) : Sound Try.prog 215 spec_Shift_x := spec_Shift_ok0 hm
theorem spec_l04Mat_ok (hm : Try.prog.follows .mixedOrders = true) : Sound Try.prog 173 spec_l04Mat_x := spec_l04Mat_ok0 hm (spec_l01Below_ok hm) (spec_Shift_ok hm)
theorem spec_Empty_ok (hm : Try.prog.follows .mixedOrders = true) : Sound Try.prog 205 spec_Empty_x := spec_Empty_ok0 hm
theorem spec_l01In_ok (hm : Try.prog.follows .mixedOrders = true) : Sound Try.prog 91 spec_l01In_x := spec_l01In_ok0 hm
theorem spec_PointOk_ok (hm : Try.prog.follows .mixedOrders = true) : Sound Try.prog 222 spec_PointOk_x := spec_PointOk_ok0 hm (spec_l01In_ok hm)
theorem spec_RectPath_ok (hm : Try.prog.follows .mixedOrders = true) : Sound Try.prog 213 spec_RectPath_x := spec_RectPath_ok0 hm (spec_Empty_ok hm) (spec_PointOk_ok hm)
theorem spec_NeedOf_ok (hm : Try.prog.follows .mixedOrders = true) : Sound Try.prog 212 spec_NeedOf_x := spec_NeedOf_ok0 hm (spec_l01In_ok hm)
theorem spec_l04Point_ok (hm : Try.prog.follows .mixedOrders = true) : Sound Try.prog 214 spec_l04Point_x := spec_l04Point_ok0 hm (spec_l01Below_ok hm)
theorem spec_l06Path_ok (hm : Try.prog.follows .mixedOrders = true) : Sound Try.prog 169 spec_l06Path_x := spec_l06Path_ok0 hm (spec_l01Once_ok hm) (spec_l01Below_ok hm) (spec_RectPath_ok hm) (spec_l01PickInt_ok hm) (spec_NeedOf_ok hm) (spec_l04Point_ok hm)
theorem spec_l12Color_ok (hm : Try.prog.follows .mixedOrders = true) : Sound Try.prog 216 spec_l12Color_x := spec_l12Color_ok0 hm (spec_l01Below_ok hm) (spec_l01PickInt_ok hm)
theorem spec_l12Paint_ok (hm : Try.prog.follows .mixedOrders = true) : Sound Try.prog 174 spec_l12Paint_x := spec_l12Paint_ok0 hm (spec_l12Color_ok hm) (spec_l01Once_ok hm) (spec_l04Point_ok hm)
theorem spec_l15Node_ok (hm : Try.prog.follows .mixedOrders = true) : Sound Try.prog 110 spec_l15Node_x := spec_l15Node_ok0 hm (spec_Still_ok hm) (spec_l01PickInt_ok hm) (spec_l01Once_ok hm) (spec_l04Mat_ok hm) (spec_l06Path_ok hm) (spec_l12Paint_ok hm) (spec_l01Below_ok hm)
theorem spec_NodeAt_ok (hm : Try.prog.follows .mixedOrders = true) : Sound Try.prog 119 spec_NodeAt_x := spec_NodeAt_ok0 hm
theorem spec_DepthOf_ok (hm : Try.prog.follows .mixedOrders = true) : Sound Try.prog 120 spec_DepthOf_x := spec_DepthOf_ok0 hm (spec_NodeAt_ok hm)
theorem spec_l15Scene_ok (hm : Try.prog.follows .mixedOrders = true) : Sound Try.prog 109 spec_l15Scene_x := spec_l15Scene_ok0 hm (spec_l01Below_ok hm) (spec_l15Node_ok hm) (spec_DepthOf_ok hm) (spec_l01Once_ok hm)
theorem spec_DrawScene_ok (hm : Try.prog.follows .mixedOrders = true) : Sound Try.prog 44 spec_DrawScene_x := spec_DrawScene_ok0 hm (spec_l01New_ok hm) (spec_l15Scene_ok hm)
theorem spec_DrawNode_ok (hm : Try.prog.follows .mixedOrders = true) : Sound Try.prog 45 spec_DrawNode_x := spec_DrawNode_ok0 hm (spec_l01New_ok hm) (spec_l01Below_ok hm) (spec_l15Node_ok hm)
theorem slices_Clone_int_ok (hm : Try.prog.follows .mixedOrders = true) : Sound Try.prog 165 slices_Clone_int_x := slices_Clone_int_ok0 hm
theorem slices_Clone_Point_ok (hm : Try.prog.follows .mixedOrders = true) : Sound Try.prog 221 slices_Clone_Point_x := slices_Clone_Point_ok0 hm
theorem impl_copyPath_ok (hm : Try.prog.follows .mixedOrders = true) : Sound Try.prog 182 impl_copyPath_x := impl_copyPath_ok0 hm (slices_Clone_int_ok hm) (slices_Clone_Point_ok hm)
theorem impl_copyNode_ok (hm : Try.prog.follows .mixedOrders = true) : Sound Try.prog 115 impl_copyNode_x := impl_copyNode_ok0 hm (impl_copyPath_ok hm) (slices_Clone_int_ok hm)
theorem impl_copyScene_ok (hm : Try.prog.follows .mixedOrders = true) : Sound Try.prog 111 impl_copyScene_x := impl_copyScene_ok0 hm (impl_copyNode_ok hm)
theorem impl_inRange_ok (hm : Try.prog.follows .mixedOrders = true) : Sound Try.prog 95 impl_inRange_x := impl_inRange_ok0 hm
theorem impl_isFar_ok (hm : Try.prog.follows .mixedOrders = true) : Sound Try.prog 217 impl_isFar_x := impl_isFar_ok0 hm (impl_inRange_ok hm)
theorem impl_MatOk_ok (hm : Try.prog.follows .mixedOrders = true) : Sound Try.prog 175 impl_MatOk_x := impl_MatOk_ok0 hm (impl_inRange_ok hm) (impl_isFar_ok hm)
theorem impl_PointOk_ok (hm : Try.prog.follows .mixedOrders = true) : Sound Try.prog 220 impl_PointOk_x := impl_PointOk_ok0 hm (impl_isFar_ok hm)
theorem impl_pointsOk_ok (hm : Try.prog.follows .mixedOrders = true) : Sound Try.prog 218 impl_pointsOk_x := impl_pointsOk_ok0 hm (impl_PointOk_ok hm)
theorem impl_NeedOf_ok (hm : Try.prog.follows .mixedOrders = true) : Sound Try.prog 219 impl_NeedOf_x := impl_NeedOf_ok0 hm
theorem impl_PathOk_ok (hm : Try.prog.follows .mixedOrders = true) : Sound Try.prog 176 impl_PathOk_x := impl_PathOk_ok0 hm (impl_pointsOk_ok hm) (impl_NeedOf_ok hm)
theorem impl_DashOk_ok (hm : Try.prog.follows .mixedOrders = true) : Sound Try.prog 177 impl_DashOk_x := impl_DashOk_ok0 hm (impl_inRange_ok hm)
theorem impl_isMode_ok (hm : Try.prog.follows .mixedOrders = true) : Sound Try.prog 178 impl_isMode_x := impl_isMode_ok0 hm (impl_inRange_ok hm)
theorem impl_isByte_ok (hm : Try.prog.follows .mixedOrders = true) : Sound Try.prog 179 impl_isByte_x := impl_isByte_ok0 hm (impl_inRange_ok hm)
theorem impl_Path_isNone_ok (hm : Try.prog.follows .mixedOrders = true) : Sound Try.prog 180 impl_Path_isNone_x := impl_Path_isNone_ok0 hm
theorem impl_ColorOk_ok (hm : Try.prog.follows .mixedOrders = true) : Sound Try.prog 203 impl_ColorOk_x := impl_ColorOk_ok0 hm (impl_isByte_ok hm)
theorem impl_PaintOk_ok (hm : Try.prog.follows .mixedOrders = true) : Sound Try.prog 181 impl_PaintOk_x := impl_PaintOk_ok0 hm (impl_ColorOk_ok hm) (impl_PointOk_ok hm)
theorem impl_NodeOk_ok (hm : Try.prog.follows .mixedOrders = true) : Sound Try.prog 112 impl_NodeOk_x := impl_NodeOk_ok0 hm (impl_inRange_ok hm) (impl_MatOk_ok hm) (impl_PathOk_ok hm) (impl_DashOk_ok hm) (impl_isMode_ok hm) (impl_isByte_ok hm) (impl_Path_isNone_ok hm) (impl_PaintOk_ok hm)
theorem impl_NodeAt_1_ok (hm : Try.prog.follows .mixedOrders = true) : Sound Try.prog 128 impl_NodeAt_1_x := impl_NodeAt_1_ok0 hm
theorem slices_IndexFunc_Node_NodeAt_1_ok (hm : Try.prog.follows .mixedOrders = true) : Sound Try.prog 127 slices_IndexFunc_Node_NodeAt_1_x := slices_IndexFunc_Node_NodeAt_1_ok0 hm (impl_NodeAt_1_ok hm)
theorem impl_NodeAt_ok (hm : Try.prog.follows .mixedOrders = true) : Sound Try.prog 53 impl_NodeAt_x := impl_NodeAt_ok0 hm (slices_IndexFunc_Node_NodeAt_1_ok hm)
theorem impl_Scene_isParent_ok (hm : Try.prog.follows .mixedOrders = true) : Sound Try.prog 113 impl_Scene_isParent_x := impl_Scene_isParent_ok0 hm (impl_NodeAt_ok hm)
theorem impl_DepthOf_ok (hm : Try.prog.follows .mixedOrders = true) : Sound Try.prog 114 impl_DepthOf_x := impl_DepthOf_ok0 hm (impl_NodeAt_ok hm)
theorem impl_SceneOk_ok (hm : Try.prog.follows .mixedOrders = true) : Sound Try.prog 48 impl_SceneOk_x := impl_SceneOk_ok0 hm (impl_NodeOk_ok hm) (impl_NodeAt_ok hm) (impl_Scene_isParent_ok hm) (impl_DepthOf_ok hm) (impl_inRange_ok hm)
theorem impl_CreateNode_ok (hm : Try.prog.follows .mixedOrders = true) : Sound Try.prog 46 impl_CreateNode_x := impl_CreateNode_ok0 hm (impl_copyScene_ok hm) (impl_NodeOk_ok hm) (impl_SceneOk_ok hm) (impl_NodeAt_ok hm) (impl_Scene_isParent_ok hm) (impl_copyNode_ok hm) (impl_DepthOf_ok hm)
theorem spec_l15CopyPath_ok (hm : Try.prog.follows .mixedOrders = true) : Sound Try.prog 189 spec_l15CopyPath_x := spec_l15CopyPath_ok0 hm
theorem spec_l15CopyNode_ok (hm : Try.prog.follows .mixedOrders = true) : Sound Try.prog 121 spec_l15CopyNode_x := spec_l15CopyNode_ok0 hm (spec_l15CopyPath_ok hm)
theorem spec_l15Copy_ok (hm : Try.prog.follows .mixedOrders = true) : Sound Try.prog 116 spec_l15Copy_x := spec_l15Copy_ok0 hm (spec_l15CopyNode_ok hm)
theorem spec_MatOk_ok (hm : Try.prog.follows .mixedOrders = true) : Sound Try.prog 183 spec_MatOk_x := spec_MatOk_ok0 hm (spec_l01In_ok hm)
theorem spec_PathOk_ok (hm : Try.prog.follows .mixedOrders = true) : Sound Try.prog 184 spec_PathOk_x := spec_PathOk_ok0 hm (spec_NeedOf_ok hm) (spec_PointOk_ok hm)
theorem spec_DashOk_ok (hm : Try.prog.follows .mixedOrders = true) : Sound Try.prog 185 spec_DashOk_x := spec_DashOk_ok0 hm (spec_l01In_ok hm)
theorem spec_l15NoPath_ok (hm : Try.prog.follows .mixedOrders = true) : Sound Try.prog 186 spec_l15NoPath_x := spec_l15NoPath_ok0 hm
theorem spec_l15NoPaint_ok (hm : Try.prog.follows .mixedOrders = true) : Sound Try.prog 187 spec_l15NoPaint_x := spec_l15NoPaint_ok0 hm
theorem spec_ColorOk_ok (hm : Try.prog.follows .mixedOrders = true) : Sound Try.prog 202 spec_ColorOk_x := spec_ColorOk_ok0 hm (spec_l01In_ok hm)
theorem spec_PaintOk_ok (hm : Try.prog.follows .mixedOrders = true) : Sound Try.prog 188 spec_PaintOk_x := spec_PaintOk_ok0 hm (spec_ColorOk_ok hm) (spec_PointOk_ok hm)
theorem spec_NodeOk_ok (hm : Try.prog.follows .mixedOrders = true) : Sound Try.prog 118 spec_NodeOk_x := spec_NodeOk_ok0 hm (spec_l01In_ok hm) (spec_MatOk_ok hm) (spec_PathOk_ok hm) (spec_DashOk_ok hm) (spec_l15NoPath_ok hm) (spec_l15NoPaint_ok hm) (spec_PaintOk_ok hm)
theorem spec_SceneOk_ok (hm : Try.prog.follows .mixedOrders = true) : Sound Try.prog 117 spec_SceneOk_x := spec_SceneOk_ok0 hm (spec_NodeOk_ok hm) (spec_NodeAt_ok hm) (spec_DepthOf_ok hm) (spec_l01In_ok hm)
theorem spec_CreateNode_ok (hm : Try.prog.follows .mixedOrders = true) : Sound Try.prog 47 spec_CreateNode_x := spec_CreateNode_ok0 hm (spec_l15Copy_ok hm) (spec_SceneOk_ok hm) (spec_NodeOk_ok hm) (spec_NodeAt_ok hm) (spec_DepthOf_ok hm) (spec_l15CopyNode_ok hm)
theorem impl_Scene_comesTo_ok (hm : Try.prog.follows .mixedOrders = true) : Sound Try.prog 190 impl_Scene_comesTo_x := impl_Scene_comesTo_ok0 hm (impl_NodeAt_ok hm)
theorem impl_UnderOf_ok (hm : Try.prog.follows .mixedOrders = true) : Sound Try.prog 122 impl_UnderOf_x := impl_UnderOf_ok0 hm (impl_NodeAt_ok hm) (impl_Scene_comesTo_ok hm)
theorem slices_Index_int_ok (hm : Try.prog.follows .mixedOrders = true) : Sound Try.prog 159 slices_Index_int_x := slices_Index_int_ok0 hm
theorem slices_Contains_int_ok (hm : Try.prog.follows .mixedOrders = true) : Sound Try.prog 85 slices_Contains_int_x := slices_Contains_int_ok0 hm (slices_Index_int_ok hm)
theorem impl_DropNode_1_ok (hm : Try.prog.follows .mixedOrders = true) : Sound Try.prog 124 impl_DropNode_1_x := impl_DropNode_1_ok0 hm (slices_Contains_int_ok hm)
theorem slices_IndexFunc_Node_DropNode_1_ok (hm : Try.prog.follows .mixedOrders = true) : Sound Try.prog 127 slices_IndexFunc_Node_DropNode_1_x := slices_IndexFunc_Node_DropNode_1_ok0 hm (impl_DropNode_1_ok hm)
theorem slices_DeleteFunc_Node_DropNode_1_ok (hm : Try.prog.follows .mixedOrders = true) : Sound Try.prog 123 slices_DeleteFunc_Node_DropNode_1_x := slices_DeleteFunc_Node_DropNode_1_ok0 hm (slices_IndexFunc_Node_DropNode_1_ok hm) (impl_DropNode_1_ok hm)
theorem impl_DropNode_ok (hm : Try.prog.follows .mixedOrders = true) : Sound Try.prog 50 impl_DropNode_x := impl_DropNode_ok0 hm (impl_copyScene_ok hm) (impl_SceneOk_ok hm) (impl_NodeAt_ok hm) (impl_UnderOf_ok hm) (slices_DeleteFunc_Node_DropNode_1_ok hm)
theorem laws_sameInts_ok (hm : Try.prog.follows .mixedOrders = true) : Sound Try.prog 108 laws_sameInts_x := laws_sameInts_ok0 hm
theorem laws_samePoints_ok (hm : Try.prog.follows .mixedOrders = true) : Sound Try.prog 191 laws_samePoints_x := laws_samePoints_ok0 hm
theorem laws_samePath_ok (hm : Try.prog.follows .mixedOrders = true) : Sound Try.prog 125 laws_samePath_x := laws_samePath_ok0 hm (laws_sameInts_ok hm) (laws_samePoints_ok hm)
theorem laws_sameNode_ok (hm : Try.prog.follows .mixedOrders = true) : Sound Try.prog 51 laws_sameNode_x := laws_sameNode_ok0 hm (laws_samePath_ok hm) (laws_sameInts_ok hm)
theorem laws_sameScene_ok (hm : Try.prog.follows .mixedOrders = true) : Sound Try.prog 49 laws_sameScene_x := laws_sameScene_ok0 hm (laws_sameNode_ok hm)
theorem spec_l15Under_ok (hm : Try.prog.follows .mixedOrders = true) : Sound Try.prog 126 spec_l15Under_x := spec_l15Under_ok0 hm (spec_NodeAt_ok hm)
theorem spec_UnderOf_ok (hm : Try.prog.follows .mixedOrders = true) : Sound Try.prog 52 spec_UnderOf_x := spec_UnderOf_ok0 hm (spec_NodeAt_ok hm) (spec_l15Under_ok hm)
theorem laws_FnCreates_ok (hm : Try.prog.follows .mixedOrders = true) : Sound Try.prog 8 laws_FnCreates_x := laws_FnCreates_ok0 hm (laws_big_ok hm) (spec_DrawScene_ok hm) (spec_DrawNode_ok hm) (impl_CreateNode_ok hm) (spec_CreateNode_ok hm) (impl_SceneOk_ok hm) (impl_DropNode_ok hm) (laws_sameNode_ok hm) (laws_sameScene_ok hm) (spec_UnderOf_ok hm) (impl_NodeAt_ok hm)
end Go.Proofs.Ytafljhadfoaceaa.Am
