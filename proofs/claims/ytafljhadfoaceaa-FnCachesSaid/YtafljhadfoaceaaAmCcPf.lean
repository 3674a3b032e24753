import Derived.Test.YtafljhadfoaceaaAmCcPfa
import Derived.Test.YtafljhadfoaceaaAmCcPfb
import Derived.Test.YtafljhadfoaceaaAmCcPfc
set_option linter.unusedVariables false
set_option linter.unusedSimpArgs false
set_option linter.unusedSectionVars false
namespace Go.Proofs.Ytafljhadfoaceaa.Am
open Go Go.Proofs
set_option maxRecDepth 100000
set_option linter.unusedSimpArgs false
set_option linter.unusedVariables false
set_option maxHeartbeats 4000000
theorem laws_big_ok (hm : Try.prog.follows .mixedOrders = true) : Sound Try.prog 38 laws_big_x := laws_big_ok0 hm
theorem spec_l01New_ok (hm : Try.prog.follows .mixedOrders = true) : Sound Try.prog 104 spec_l01New_x := spec_l01New_ok0 hm
theorem spec_l01Byte_ok (hm : Try.prog.follows .mixedOrders = true) : Sound Try.prog 106 spec_l01Byte_x := spec_l01Byte_ok0 hm
theorem spec_l01Below_ok (hm : Try.prog.follows .mixedOrders = true) : Sound Try.prog 107 spec_l01Below_x := spec_l01Below_ok0 hm (spec_l01Byte_ok hm)
theorem spec_l01Once_ok (hm : Try.prog.follows .mixedOrders = true) : Sound Try.prog 170 spec_l01Once_x := spec_l01Once_ok0 hm (spec_l01Below_ok hm)
theorem spec_Empty_ok (hm : Try.prog.follows .mixedOrders = true) : Sound Try.prog 205 spec_Empty_x := spec_Empty_ok0 hm
theorem spec_l01In_ok (hm : Try.prog.follows .mixedOrders = true) : Sound Try.prog 91 spec_l01In_x := spec_l01In_ok0 hm
theorem spec_PointOk_ok (hm : Try.prog.follows .mixedOrders = true) : Sound Try.prog 222 spec_PointOk_x := spec_PointOk_ok0 hm (spec_l01In_ok hm)
theorem spec_RectPath_ok (hm : Try.prog.follows .mixedOrders = true) : Sound Try.prog 213 spec_RectPath_x := spec_RectPath_ok0 hm (spec_Empty_ok hm) (spec_PointOk_ok hm)
theorem spec_l01PickInt_ok (hm : Try.prog.follows .mixedOrders = true) : Sound Try.prog 171 spec_l01PickInt_x := spec_l01PickInt_ok0 hm (spec_l01Below_ok hm)
theorem spec_NeedOf_ok (hm : Try.prog.follows .mixedOrders = true) : Sound Try.prog 212 spec_NeedOf_x := spec_NeedOf_ok0 hm (spec_l01In_ok hm)
theorem spec_l04Point_ok (hm : Try.prog.follows .mixedOrders = true) : Sound Try.prog 214 spec_l04Point_x := spec_l04Point_ok0 hm (spec_l01Below_ok hm)
theorem spec_l06Path_ok (hm : Try.prog.follows .mixedOrders = true) : Sound Try.prog 169 spec_l06Path_x := spec_l06Path_ok0 hm (spec_l01Once_ok hm) (spec_l01Below_ok hm) (spec_RectPath_ok hm) (spec_l01PickInt_ok hm) (spec_NeedOf_ok hm) (spec_l04Point_ok hm)
theorem spec_PathOk_ok (hm : Try.prog.follows .mixedOrders = true) : Sound Try.prog 184 spec_PathOk_x := spec_PathOk_ok0 hm (spec_NeedOf_ok hm) (spec_PointOk_ok hm)
theorem spec_Clamp_ok (hm : Try.prog.follows .mixedOrders = true) : Sound Try.prog 228 spec_Clamp_x := spec_Clamp_ok0 hm
theorem spec_FloorDiv_ok (hm : Try.prog.follows .mixedOrders = true) : Sound Try.prog 234 spec_FloorDiv_x := spec_FloorDiv_ok0 hm
theorem spec_RoundDiv_ok (hm : Try.prog.follows .mixedOrders = true) : Sound Try.prog 229 spec_RoundDiv_x := spec_RoundDiv_ok0 hm (spec_FloorDiv_ok hm)
theorem spec_QuadAt_ok (hm : Try.prog.follows .mixedOrders = true) : Sound Try.prog 210 spec_QuadAt_x := spec_QuadAt_ok0 hm (spec_PointOk_ok hm) (spec_Clamp_ok hm) (spec_RoundDiv_ok hm)
theorem spec_CubicAt_ok (hm : Try.prog.follows .mixedOrders = true) : Sound Try.prog 211 spec_CubicAt_x := spec_CubicAt_ok0 hm (spec_PointOk_ok hm) (spec_Clamp_ok hm) (spec_RoundDiv_ok hm)
theorem spec_FlatOf_ok (hm : Try.prog.follows .mixedOrders = true) : Sound Try.prog 168 spec_FlatOf_x := spec_FlatOf_ok0 hm (spec_PathOk_ok hm) (spec_NeedOf_ok hm) (spec_QuadAt_ok hm) (spec_CubicAt_ok hm)
theorem spec_l11Box_ok (hm : Try.prog.follows .mixedOrders = true) : Sound Try.prog 161 spec_l11Box_x := spec_l11Box_ok0 hm (spec_Empty_ok hm) (spec_l01In_ok hm)
theorem spec_l10Near_ok (hm : Try.prog.follows .mixedOrders = true) : Sound Try.prog 235 spec_l10Near_x := spec_l10Near_ok0 hm (spec_l01In_ok hm)
theorem spec_WindOf_ok (hm : Try.prog.follows .mixedOrders = true) : Sound Try.prog 233 spec_WindOf_x := spec_WindOf_ok0 hm (spec_l10Near_ok hm)
theorem spec_Covers_ok (hm : Try.prog.follows .mixedOrders = true) : Sound Try.prog 227 spec_Covers_x := spec_Covers_ok0 hm (spec_WindOf_ok hm)
theorem spec_MaskAt_ok (hm : Try.prog.follows .mixedOrders = true) : Sound Try.prog 209 spec_MaskAt_x := spec_MaskAt_ok0 hm (spec_l01In_ok hm) (spec_Covers_ok hm)
theorem spec_MaskOf_ok (hm : Try.prog.follows .mixedOrders = true) : Sound Try.prog 167 spec_MaskOf_x := spec_MaskOf_ok0 hm (spec_l11Box_ok hm) (spec_MaskAt_ok hm)
theorem spec_l11Mask_ok (hm : Try.prog.follows .mixedOrders = true) : Sound Try.prog 105 spec_l11Mask_x := spec_l11Mask_ok0 hm (spec_l01Below_ok hm) (spec_l06Path_ok hm) (spec_FlatOf_ok hm) (spec_MaskOf_ok hm) (spec_l01Once_ok hm) (spec_l01PickInt_ok hm)
theorem spec_MaskOk_ok (hm : Try.prog.follows .mixedOrders = true) : Sound Try.prog 92 spec_MaskOk_x := spec_MaskOk_ok0 hm (spec_l11Box_ok hm) (spec_l01In_ok hm)
theorem spec_CacheOk_ok (hm : Try.prog.follows .mixedOrders = true) : Sound Try.prog 90 spec_CacheOk_x := spec_CacheOk_ok0 hm (spec_l01In_ok hm) (spec_MaskOk_ok hm)
theorem spec_l21CopyMask_ok (hm : Try.prog.follows .mixedOrders = true) : Sound Try.prog 100 spec_l21CopyMask_x := spec_l21CopyMask_ok0 hm
theorem spec_l21Copy_ok (hm : Try.prog.follows .mixedOrders = true) : Sound Try.prog 80 spec_l21Copy_x := spec_l21Copy_ok0 hm (spec_l21CopyMask_ok hm)
theorem spec_l21First_ok (hm : Try.prog.follows .mixedOrders = true) : Sound Try.prog 93 spec_l21First_x := spec_l21First_ok0 hm (spec_l21Copy_ok hm)
theorem spec_Remember_ok (hm : Try.prog.follows .mixedOrders = true) : Sound Try.prog 30 spec_Remember_x := spec_Remember_ok0 hm (spec_CacheOk_ok hm) (spec_l01In_ok hm) (spec_MaskOk_ok hm) (spec_l21First_ok hm) (spec_l21Copy_ok hm)
theorem spec_l21Cache_ok (hm : Try.prog.follows .mixedOrders = true) : Sound Try.prog 103 spec_l21Cache_x := spec_l21Cache_ok0 hm (spec_l01Below_ok hm) (spec_l11Mask_ok hm) (spec_Remember_ok hm)
theorem spec_DrawRightCache_ok (hm : Try.prog.follows .mixedOrders = true) : Sound Try.prog 39 spec_DrawRightCache_x := spec_DrawRightCache_ok0 hm (spec_l01New_ok hm) (spec_l21Cache_ok hm)
theorem spec_DrawMasks_ok (hm : Try.prog.follows .mixedOrders = true) : Sound Try.prog 40 spec_DrawMasks_x := spec_DrawMasks_ok0 hm (spec_l01New_ok hm) (spec_l11Mask_ok hm)
theorem spec_DrawPlaces_ok (hm : Try.prog.follows .mixedOrders = true) : Sound Try.prog 41 spec_DrawPlaces_x := spec_DrawPlaces_ok0 hm (spec_l01New_ok hm) (spec_l01Byte_ok hm) (spec_l01Below_ok hm)
theorem slices_Clone_int_ok (hm : Try.prog.follows .mixedOrders = true) : Sound Try.prog 165 slices_Clone_int_x := slices_Clone_int_ok0 hm
theorem impl_copyMask_ok (hm : Try.prog.follows .mixedOrders = true) : Sound Try.prog 98 impl_copyMask_x := impl_copyMask_ok0 hm (slices_Clone_int_ok hm)
theorem impl_copyCache_ok (hm : Try.prog.follows .mixedOrders = true) : Sound Try.prog 82 impl_copyCache_x := impl_copyCache_ok0 hm (impl_copyMask_ok hm)
theorem impl_inRange_ok (hm : Try.prog.follows .mixedOrders = true) : Sound Try.prog 95 impl_inRange_x := impl_inRange_ok0 hm
theorem impl_Empty_ok (hm : Try.prog.follows .mixedOrders = true) : Sound Try.prog 206 impl_Empty_x := impl_Empty_ok0 hm
theorem impl_isMaskBox_ok (hm : Try.prog.follows .mixedOrders = true) : Sound Try.prog 162 impl_isMaskBox_x := impl_isMaskBox_ok0 hm (impl_Empty_ok hm)
theorem impl_MaskOk_ok (hm : Try.prog.follows .mixedOrders = true) : Sound Try.prog 96 impl_MaskOk_x := impl_MaskOk_ok0 hm (impl_isMaskBox_ok hm) (impl_inRange_ok hm)
theorem impl_Cache_keptAt_1_ok (hm : Try.prog.follows .mixedOrders = true) : Sound Try.prog 166 impl_Cache_keptAt_1_x := impl_Cache_keptAt_1_ok0 hm
theorem slices_IndexFunc_Kept_Cache_keptAt_1_ok (hm : Try.prog.follows .mixedOrders = true) : Sound Try.prog 158 slices_IndexFunc_Kept_Cache_keptAt_1_x := slices_IndexFunc_Kept_Cache_keptAt_1_ok0 hm (impl_Cache_keptAt_1_ok hm)
theorem impl_Cache_keptAt_ok (hm : Try.prog.follows .mixedOrders = true) : Sound Try.prog 101 impl_Cache_keptAt_x := impl_Cache_keptAt_ok0 hm (slices_IndexFunc_Kept_Cache_keptAt_1_ok hm)
theorem impl_CacheOk_ok (hm : Try.prog.follows .mixedOrders = true) : Sound Try.prog 42 impl_CacheOk_x := impl_CacheOk_ok0 hm (impl_inRange_ok hm) (impl_Cache_keptAt_ok hm) (impl_MaskOk_ok hm)
theorem slices_Delete_Kept_ok (hm : Try.prog.follows .mixedOrders = true) : Sound Try.prog 163 slices_Delete_Kept_x := slices_Delete_Kept_ok0 hm
theorem slices_Insert_Kept_ok (hm : Try.prog.follows .mixedOrders = true) : Sound Try.prog 164 slices_Insert_Kept_x := slices_Insert_Kept_ok0 hm
theorem impl_Cache_toFront_ok (hm : Try.prog.follows .mixedOrders = true) : Sound Try.prog 97 impl_Cache_toFront_x := impl_Cache_toFront_ok0 hm (impl_Cache_keptAt_ok hm) (slices_Delete_Kept_ok hm) (slices_Insert_Kept_ok hm)
theorem impl_Remember_ok (hm : Try.prog.follows .mixedOrders = true) : Sound Try.prog 32 impl_Remember_x := impl_Remember_ok0 hm (impl_copyCache_ok hm) (impl_inRange_ok hm) (impl_MaskOk_ok hm) (impl_CacheOk_ok hm) (impl_copyMask_ok hm) (impl_Cache_toFront_ok hm)
theorem impl_Recall_ok (hm : Try.prog.follows .mixedOrders = true) : Sound Try.prog 36 impl_Recall_x := impl_Recall_ok0 hm (impl_copyCache_ok hm) (impl_Cache_keptAt_ok hm) (impl_CacheOk_ok hm) (impl_Cache_toFront_ok hm) (impl_copyMask_ok hm)
theorem slices_Index_int_ok (hm : Try.prog.follows .mixedOrders = true) : Sound Try.prog 159 slices_Index_int_x := slices_Index_int_ok0 hm
theorem slices_Contains_int_ok (hm : Try.prog.follows .mixedOrders = true) : Sound Try.prog 85 slices_Contains_int_x := slices_Contains_int_ok0 hm (slices_Index_int_ok hm)
theorem impl_Forget_1_ok (hm : Try.prog.follows .mixedOrders = true) : Sound Try.prog 84 impl_Forget_1_x := impl_Forget_1_ok0 hm (slices_Contains_int_ok hm)
theorem slices_IndexFunc_Kept_Forget_1_ok (hm : Try.prog.follows .mixedOrders = true) : Sound Try.prog 158 slices_IndexFunc_Kept_Forget_1_x := slices_IndexFunc_Kept_Forget_1_ok0 hm (impl_Forget_1_ok hm)
theorem slices_DeleteFunc_Kept_Forget_1_ok (hm : Try.prog.follows .mixedOrders = true) : Sound Try.prog 83 slices_DeleteFunc_Kept_Forget_1_x := slices_DeleteFunc_Kept_Forget_1_ok0 hm (slices_IndexFunc_Kept_Forget_1_ok hm) (impl_Forget_1_ok hm)
theorem impl_Forget_ok (hm : Try.prog.follows .mixedOrders = true) : Sound Try.prog 23 impl_Forget_x := impl_Forget_ok0 hm (impl_copyCache_ok hm) (slices_DeleteFunc_Kept_Forget_1_ok hm)
theorem laws_sameInts_ok (hm : Try.prog.follows .mixedOrders = true) : Sound Try.prog 108 laws_sameInts_x := laws_sameInts_ok0 hm
theorem laws_sameMask_ok (hm : Try.prog.follows .mixedOrders = true) : Sound Try.prog 43 laws_sameMask_x := laws_sameMask_ok0 hm (laws_sameInts_ok hm)
theorem laws_FnCaches_ok (hm : Try.prog.follows .mixedOrders = true) : Sound Try.prog 7 laws_FnCaches_x := laws_FnCaches_ok0 hm (laws_big_ok hm) (spec_DrawRightCache_ok hm) (spec_DrawMasks_ok hm) (spec_DrawPlaces_ok hm) (impl_Remember_ok hm) (impl_Recall_ok hm) (impl_Forget_ok hm) (impl_CacheOk_ok hm) (laws_sameMask_ok hm)
end Go.Proofs.Ytafljhadfoaceaa.Am
