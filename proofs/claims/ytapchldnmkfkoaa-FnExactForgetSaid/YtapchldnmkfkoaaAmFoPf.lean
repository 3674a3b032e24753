import Derived.Test.YtapchldnmkfkoaaAmFoPfa
import Derived.Test.YtapchldnmkfkoaaAmFoPfb
import Derived.Test.YtapchldnmkfkoaaAmFoPfc
set_option linter.unusedVariables false
set_option linter.unusedSimpArgs false
set_option linter.unusedSectionVars false
namespace Go.Proofs.Ytapchldnmkfkoaa.Am
open Go Go.Proofs
set_option maxRecDepth 100000
set_option linter.unusedSimpArgs false
set_option linter.unusedVariables false
set_option maxHeartbeats 4000000
theorem laws_szIntS_ok (hm : Try.prog.follows .mixedOrders = true) : Sound Try.prog 69 laws_szIntS_x := laws_szIntS_ok0 hm
theorem laws_szMask_ok (hm : Try.prog.follows .mixedOrders = true) : Sound Try.prog 24 laws_szMask_x := laws_szMask_ok0 hm (laws_szIntS_ok hm)
theorem laws_szKept_ok (hm : Try.prog.follows .mixedOrders = true) : Sound Try.prog 116 laws_szKept_x := laws_szKept_ok0 hm (laws_szMask_ok hm)
theorem laws_szKeptS_ok (hm : Try.prog.follows .mixedOrders = true) : Sound Try.prog 59 laws_szKeptS_x := laws_szKeptS_ok0 hm (laws_szKept_ok hm)
theorem laws_szCache_ok (hm : Try.prog.follows .mixedOrders = true) : Sound Try.prog 14 laws_szCache_x := laws_szCache_ok0 hm (laws_szKeptS_ok hm)
theorem laws_toBox_ok (hm : Try.prog.follows .mixedOrders = true) : Sound Try.prog 74 laws_toBox_x := laws_toBox_ok0 hm
theorem laws_toIntS_ok (hm : Try.prog.follows .mixedOrders = true) : Sound Try.prog 17 laws_toIntS_x := laws_toIntS_ok0 hm
theorem laws_toMask_ok (hm : Try.prog.follows .mixedOrders = true) : Sound Try.prog 26 laws_toMask_x := laws_toMask_ok0 hm (laws_toBox_ok hm) (laws_toIntS_ok hm)
theorem laws_toKept_ok (hm : Try.prog.follows .mixedOrders = true) : Sound Try.prog 117 laws_toKept_x := laws_toKept_ok0 hm (laws_toMask_ok hm)
theorem laws_toKeptS_ok (hm : Try.prog.follows .mixedOrders = true) : Sound Try.prog 61 laws_toKeptS_x := laws_toKeptS_ok0 hm (laws_toKept_ok hm)
theorem laws_toCache_ok (hm : Try.prog.follows .mixedOrders = true) : Sound Try.prog 16 laws_toCache_x := laws_toCache_ok0 hm (laws_toKeptS_ok hm)
theorem spec_l21CopyMask_ok (hm : Try.prog.follows .mixedOrders = true) : Sound Try.prog 80 spec_l21CopyMask_x := spec_l21CopyMask_ok0 hm
theorem spec_l21Copy_ok (hm : Try.prog.follows .mixedOrders = true) : Sound Try.prog 60 spec_l21Copy_x := spec_l21Copy_ok0 hm (spec_l21CopyMask_ok hm)
theorem spec_Forget_ok (hm : Try.prog.follows .mixedOrders = true) : Sound Try.prog 15 spec_Forget_x := spec_Forget_ok0 hm (spec_l21Copy_ok hm)
theorem slices_Clone_int_ok (hm : Try.prog.follows .mixedOrders = true) : Sound Try.prog 125 slices_Clone_int_x := slices_Clone_int_ok0 hm
theorem impl_copyMask_ok (hm : Try.prog.follows .mixedOrders = true) : Sound Try.prog 78 impl_copyMask_x := impl_copyMask_ok0 hm (slices_Clone_int_ok hm)
theorem impl_copyCache_ok (hm : Try.prog.follows .mixedOrders = true) : Sound Try.prog 62 impl_copyCache_x := impl_copyCache_ok0 hm (impl_copyMask_ok hm)
theorem slices_Index_int_ok (hm : Try.prog.follows .mixedOrders = true) : Sound Try.prog 119 slices_Index_int_x := slices_Index_int_ok0 hm
theorem slices_Contains_int_ok (hm : Try.prog.follows .mixedOrders = true) : Sound Try.prog 65 slices_Contains_int_x := slices_Contains_int_ok0 hm (slices_Index_int_ok hm)
theorem impl_Forget_1R_ok (hm : Try.prog.follows .mixedOrders = true) : Sound Try.prog 64 impl_Forget_1R_x := impl_Forget_1R_ok0 hm (slices_Contains_int_ok hm)
theorem slices_IndexFunc_Kept_Forget_1R_ok (hm : Try.prog.follows .mixedOrders = true) : Sound Try.prog 118 slices_IndexFunc_Kept_Forget_1R_x := slices_IndexFunc_Kept_Forget_1R_ok0 hm (impl_Forget_1R_ok hm)
theorem slices_DeleteFunc_Kept_Forget_1R_ok (hm : Try.prog.follows .mixedOrders = true) : Sound Try.prog 63 slices_DeleteFunc_Kept_Forget_1R_x := slices_DeleteFunc_Kept_Forget_1R_ok0 hm (slices_IndexFunc_Kept_Forget_1R_ok hm) (impl_Forget_1R_ok hm)
theorem slices_DeleteFunc_Kept_Forget_1_n_ok (hm : Try.prog.follows .mixedOrders = true) : Sound Try.prog 63 slices_DeleteFunc_Kept_Forget_1_n_x := slices_DeleteFunc_Kept_Forget_1_n_ok0 hm (slices_DeleteFunc_Kept_Forget_1R_ok hm)
theorem impl_Forget_ok (hm : Try.prog.follows .mixedOrders = true) : Sound Try.prog 18 impl_Forget_x := impl_Forget_ok0 hm (impl_copyCache_ok hm) (slices_DeleteFunc_Kept_Forget_1_n_ok hm)
theorem laws_eqBox_ok (hm : Try.prog.follows .mixedOrders = true) : Sound Try.prog 79 laws_eqBox_x := laws_eqBox_ok0 hm
theorem laws_eqIntS_ok (hm : Try.prog.follows .mixedOrders = true) : Sound Try.prog 20 laws_eqIntS_x := laws_eqIntS_ok0 hm
theorem laws_eqMask_ok (hm : Try.prog.follows .mixedOrders = true) : Sound Try.prog 28 laws_eqMask_x := laws_eqMask_ok0 hm (laws_eqBox_ok hm) (laws_eqIntS_ok hm)
theorem laws_eqKept_ok (hm : Try.prog.follows .mixedOrders = true) : Sound Try.prog 120 laws_eqKept_x := laws_eqKept_ok0 hm (laws_eqMask_ok hm)
theorem laws_eqKeptS_ok (hm : Try.prog.follows .mixedOrders = true) : Sound Try.prog 66 laws_eqKeptS_x := laws_eqKeptS_ok0 hm (laws_eqKept_ok hm)
theorem laws_eqCache_ok (hm : Try.prog.follows .mixedOrders = true) : Sound Try.prog 19 laws_eqCache_x := laws_eqCache_ok0 hm (laws_eqKeptS_ok hm)
theorem laws_markIntS_ok (hm : Try.prog.follows .mixedOrders = true) : Sound Try.prog 22 laws_markIntS_x := laws_markIntS_ok0 hm
theorem laws_markKeptS_ok (hm : Try.prog.follows .mixedOrders = true) : Sound Try.prog 67 laws_markKeptS_x := laws_markKeptS_ok0 hm (laws_markIntS_ok hm)
theorem laws_markCache_ok (hm : Try.prog.follows .mixedOrders = true) : Sound Try.prog 21 laws_markCache_x := laws_markCache_ok0 hm (laws_markKeptS_ok hm)
theorem laws_heldIntS_ok (hm : Try.prog.follows .mixedOrders = true) : Sound Try.prog 82 laws_heldIntS_x := laws_heldIntS_ok0 hm
theorem laws_heldKeptS_ok (hm : Try.prog.follows .mixedOrders = true) : Sound Try.prog 68 laws_heldKeptS_x := laws_heldKeptS_ok0 hm (laws_heldIntS_ok hm)
theorem laws_heldCache_ok (hm : Try.prog.follows .mixedOrders = true) : Sound Try.prog 23 laws_heldCache_x := laws_heldCache_ok0 hm (laws_heldKeptS_ok hm)
theorem laws_FnExactForget_ok (hm : Try.prog.follows .mixedOrders = true) : Sound Try.prog 4 laws_FnExactForget_x := laws_FnExactForget_ok0 hm (laws_szCache_ok hm) (laws_toCache_ok hm) (laws_toIntS_ok hm) (spec_Forget_ok hm) (impl_Forget_ok hm) (laws_eqCache_ok hm) (laws_eqIntS_ok hm) (laws_markCache_ok hm) (laws_markIntS_ok hm) (laws_heldCache_ok hm)
end Go.Proofs.Ytapchldnmkfkoaa.Am
