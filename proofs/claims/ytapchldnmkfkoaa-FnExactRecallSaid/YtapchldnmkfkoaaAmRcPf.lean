import Derived.Test.YtapchldnmkfkoaaAmRcPfa
import Derived.Test.YtapchldnmkfkoaaAmRcPfb
import Derived.Test.YtapchldnmkfkoaaAmRcPfc
set_option linter.unusedVariables false
set_option linter.unusedSimpArgs false
set_option linter.unusedSectionVars false
namespace Go.Proofs.Ytapchldnmkfkoaa.Am
open Go Go.Proofs
set_option maxRecDepth 100000
set_option linter.unusedSimpArgs false
set_option linter.unusedVariables false
set_option maxHeartbeats 4000000
theorem laws_szIntS_ok (hm : Try.prog.follows .mixedOrders = true) : Sound Try.prog 69 laws_szIntS_x := laws_szIntS_ok0 hm
theorem laws_szMask_ok (hm : Try.prog.follows .mixedOrders = true) : Sound Try.prog 24 laws_szMask_x := laws_szMask_ok0 hm (laws_szIntS_ok hm)
theorem laws_szKept_ok (hm : Try.prog.follows .mixedOrders = true) : Sound Try.prog 116 laws_szKept_x := laws_szKept_ok0 hm (laws_szMask_ok hm)
theorem laws_szKeptS_ok (hm : Try.prog.follows .mixedOrders = true) : Sound Try.prog 59 laws_szKeptS_x := laws_szKeptS_ok0 hm (laws_szKept_ok hm)
theorem laws_szCache_ok (hm : Try.prog.follows .mixedOrders = true) : Sound Try.prog 14 laws_szCache_x := laws_szCache_ok0 hm (laws_szKeptS_ok hm)
theorem laws_toBox_ok (hm : Try.prog.follows .mixedOrders = true) : Sound Try.prog 74 laws_toBox_x := laws_toBox_ok0 hm
theorem laws_toIntS_ok (hm : Try.prog.follows .mixedOrders = true) : Sound Try.prog 17 laws_toIntS_x := laws_toIntS_ok0 hm
theorem laws_toMask_ok (hm : Try.prog.follows .mixedOrders = true) : Sound Try.prog 26 laws_toMask_x := laws_toMask_ok0 hm (laws_toBox_ok hm) (laws_toIntS_ok hm)
theorem laws_toKept_ok (hm : Try.prog.follows .mixedOrders = true) : Sound Try.prog 117 laws_toKept_x := laws_toKept_ok0 hm (laws_toMask_ok hm)
theorem laws_toKeptS_ok (hm : Try.prog.follows .mixedOrders = true) : Sound Try.prog 61 laws_toKeptS_x := laws_toKeptS_ok0 hm (laws_toKept_ok hm)
theorem laws_toCache_ok (hm : Try.prog.follows .mixedOrders = true) : Sound Try.prog 16 laws_toCache_x := laws_toCache_ok0 hm (laws_toKeptS_ok hm)
theorem spec_l01In_ok (hm : Try.prog.follows .mixedOrders = true) : Sound Try.prog 71 spec_l01In_x := spec_l01In_ok0 hm
theorem spec_Empty_ok (hm : Try.prog.follows .mixedOrders = true) : Sound Try.prog 155 spec_Empty_x := spec_Empty_ok0 hm
theorem spec_l11Box_ok (hm : Try.prog.follows .mixedOrders = true) : Sound Try.prog 121 spec_l11Box_x := spec_l11Box_ok0 hm (spec_Empty_ok hm) (spec_l01In_ok hm)
theorem spec_MaskOk_ok (hm : Try.prog.follows .mixedOrders = true) : Sound Try.prog 72 spec_MaskOk_x := spec_MaskOk_ok0 hm (spec_l11Box_ok hm) (spec_l01In_ok hm)
theorem spec_CacheOk_ok (hm : Try.prog.follows .mixedOrders = true) : Sound Try.prog 70 spec_CacheOk_x := spec_CacheOk_ok0 hm (spec_l01In_ok hm) (spec_MaskOk_ok hm)
theorem spec_l21CopyMask_ok (hm : Try.prog.follows .mixedOrders = true) : Sound Try.prog 80 spec_l21CopyMask_x := spec_l21CopyMask_ok0 hm
theorem spec_l21Copy_ok (hm : Try.prog.follows .mixedOrders = true) : Sound Try.prog 60 spec_l21Copy_x := spec_l21Copy_ok0 hm (spec_l21CopyMask_ok hm)
theorem spec_l21First_ok (hm : Try.prog.follows .mixedOrders = true) : Sound Try.prog 73 spec_l21First_x := spec_l21First_ok0 hm (spec_l21Copy_ok hm)
theorem spec_Recall_ok (hm : Try.prog.follows .mixedOrders = true) : Sound Try.prog 30 spec_Recall_x := spec_Recall_ok0 hm (spec_CacheOk_ok hm) (spec_l21First_ok hm) (spec_l21CopyMask_ok hm) (spec_l21Copy_ok hm)
theorem slices_Clone_int_ok (hm : Try.prog.follows .mixedOrders = true) : Sound Try.prog 125 slices_Clone_int_x := slices_Clone_int_ok0 hm
theorem impl_copyMask_ok (hm : Try.prog.follows .mixedOrders = true) : Sound Try.prog 78 impl_copyMask_x := impl_copyMask_ok0 hm (slices_Clone_int_ok hm)
theorem impl_copyCache_ok (hm : Try.prog.follows .mixedOrders = true) : Sound Try.prog 62 impl_copyCache_x := impl_copyCache_ok0 hm (impl_copyMask_ok hm)
theorem impl_Cache_keptAt_1_ok (hm : Try.prog.follows .mixedOrders = true) : Sound Try.prog 126 impl_Cache_keptAt_1_x := impl_Cache_keptAt_1_ok0 hm
theorem slices_IndexFunc_Kept_Cache_keptAt_1_ok (hm : Try.prog.follows .mixedOrders = true) : Sound Try.prog 118 slices_IndexFunc_Kept_Cache_keptAt_1_x := slices_IndexFunc_Kept_Cache_keptAt_1_ok0 hm (impl_Cache_keptAt_1_ok hm)
theorem impl_Cache_keptAt_ok (hm : Try.prog.follows .mixedOrders = true) : Sound Try.prog 81 impl_Cache_keptAt_x := impl_Cache_keptAt_ok0 hm (slices_IndexFunc_Kept_Cache_keptAt_1_ok hm)
theorem impl_inRange_ok (hm : Try.prog.follows .mixedOrders = true) : Sound Try.prog 75 impl_inRange_x := impl_inRange_ok0 hm
theorem impl_Empty_ok (hm : Try.prog.follows .mixedOrders = true) : Sound Try.prog 156 impl_Empty_x := impl_Empty_ok0 hm
theorem impl_isMaskBox_ok (hm : Try.prog.follows .mixedOrders = true) : Sound Try.prog 122 impl_isMaskBox_x := impl_isMaskBox_ok0 hm (impl_Empty_ok hm)
theorem impl_MaskOk_ok (hm : Try.prog.follows .mixedOrders = true) : Sound Try.prog 76 impl_MaskOk_x := impl_MaskOk_ok0 hm (impl_isMaskBox_ok hm) (impl_inRange_ok hm)
theorem impl_CacheOk_ok (hm : Try.prog.follows .mixedOrders = true) : Sound Try.prog 37 impl_CacheOk_x := impl_CacheOk_ok0 hm (impl_inRange_ok hm) (impl_Cache_keptAt_ok hm) (impl_MaskOk_ok hm)
theorem impl_Cache_keptAt_1R_ok (hm : Try.prog.follows .mixedOrders = true) : Sound Try.prog 126 impl_Cache_keptAt_1R_x := impl_Cache_keptAt_1R_ok0 hm
theorem slices_IndexFunc_Kept_Cache_keptAt_1R_ok (hm : Try.prog.follows .mixedOrders = true) : Sound Try.prog 118 slices_IndexFunc_Kept_Cache_keptAt_1R_x := slices_IndexFunc_Kept_Cache_keptAt_1R_ok0 hm (impl_Cache_keptAt_1R_ok hm)
theorem impl_Cache_keptAtR_ok (hm : Try.prog.follows .mixedOrders = true) : Sound Try.prog 81 impl_Cache_keptAtR_x := impl_Cache_keptAtR_ok0 hm (slices_IndexFunc_Kept_Cache_keptAt_1R_ok hm)
theorem slices_Delete_KeptR_ok (hm : Try.prog.follows .mixedOrders = true) : Sound Try.prog 123 slices_Delete_KeptR_x := slices_Delete_KeptR_ok0 hm
theorem slices_Insert_KeptR_ok (hm : Try.prog.follows .mixedOrders = true) : Sound Try.prog 124 slices_Insert_KeptR_x := slices_Insert_KeptR_ok0 hm
theorem impl_Cache_toFrontR_ok (hm : Try.prog.follows .mixedOrders = true) : Sound Try.prog 77 impl_Cache_toFrontR_x := impl_Cache_toFrontR_ok0 hm (impl_Cache_keptAtR_ok hm) (slices_Delete_KeptR_ok hm) (slices_Insert_KeptR_ok hm)
theorem impl_Cache_toFront_n_ok (hm : Try.prog.follows .mixedOrders = true) : Sound Try.prog 77 impl_Cache_toFront_n_x := impl_Cache_toFront_n_ok0 hm (impl_Cache_toFrontR_ok hm)
theorem impl_Recall_ok (hm : Try.prog.follows .mixedOrders = true) : Sound Try.prog 31 impl_Recall_x := impl_Recall_ok0 hm (impl_copyCache_ok hm) (impl_Cache_keptAt_ok hm) (impl_CacheOk_ok hm) (impl_Cache_toFront_n_ok hm) (impl_copyMask_ok hm)
theorem laws_eqBox_ok (hm : Try.prog.follows .mixedOrders = true) : Sound Try.prog 79 laws_eqBox_x := laws_eqBox_ok0 hm
theorem laws_eqIntS_ok (hm : Try.prog.follows .mixedOrders = true) : Sound Try.prog 20 laws_eqIntS_x := laws_eqIntS_ok0 hm
theorem laws_eqMask_ok (hm : Try.prog.follows .mixedOrders = true) : Sound Try.prog 28 laws_eqMask_x := laws_eqMask_ok0 hm (laws_eqBox_ok hm) (laws_eqIntS_ok hm)
theorem laws_eqKept_ok (hm : Try.prog.follows .mixedOrders = true) : Sound Try.prog 120 laws_eqKept_x := laws_eqKept_ok0 hm (laws_eqMask_ok hm)
theorem laws_eqKeptS_ok (hm : Try.prog.follows .mixedOrders = true) : Sound Try.prog 66 laws_eqKeptS_x := laws_eqKeptS_ok0 hm (laws_eqKept_ok hm)
theorem laws_eqCache_ok (hm : Try.prog.follows .mixedOrders = true) : Sound Try.prog 19 laws_eqCache_x := laws_eqCache_ok0 hm (laws_eqKeptS_ok hm)
theorem laws_markIntS_ok (hm : Try.prog.follows .mixedOrders = true) : Sound Try.prog 22 laws_markIntS_x := laws_markIntS_ok0 hm
theorem laws_markKeptS_ok (hm : Try.prog.follows .mixedOrders = true) : Sound Try.prog 67 laws_markKeptS_x := laws_markKeptS_ok0 hm (laws_markIntS_ok hm)
theorem laws_markCache_ok (hm : Try.prog.follows .mixedOrders = true) : Sound Try.prog 21 laws_markCache_x := laws_markCache_ok0 hm (laws_markKeptS_ok hm)
theorem laws_markMask_ok (hm : Try.prog.follows .mixedOrders = true) : Sound Try.prog 29 laws_markMask_x := laws_markMask_ok0 hm (laws_markIntS_ok hm)
theorem laws_heldIntS_ok (hm : Try.prog.follows .mixedOrders = true) : Sound Try.prog 82 laws_heldIntS_x := laws_heldIntS_ok0 hm
theorem laws_heldKeptS_ok (hm : Try.prog.follows .mixedOrders = true) : Sound Try.prog 68 laws_heldKeptS_x := laws_heldKeptS_ok0 hm (laws_heldIntS_ok hm)
theorem laws_heldCache_ok (hm : Try.prog.follows .mixedOrders = true) : Sound Try.prog 23 laws_heldCache_x := laws_heldCache_ok0 hm (laws_heldKeptS_ok hm)
theorem laws_heldMask_ok (hm : Try.prog.follows .mixedOrders = true) : Sound Try.prog 32 laws_heldMask_x := laws_heldMask_ok0 hm (laws_heldIntS_ok hm)
theorem laws_FnExactRecall_ok (hm : Try.prog.follows .mixedOrders = true) : Sound Try.prog 6 laws_FnExactRecall_x := laws_FnExactRecall_ok0 hm (laws_szCache_ok hm) (laws_toCache_ok hm) (spec_Recall_ok hm) (impl_Recall_ok hm) (laws_eqCache_ok hm) (laws_eqMask_ok hm) (laws_markCache_ok hm) (laws_markMask_ok hm) (laws_heldCache_ok hm) (laws_heldMask_ok hm)
end Go.Proofs.Ytapchldnmkfkoaa.Am
