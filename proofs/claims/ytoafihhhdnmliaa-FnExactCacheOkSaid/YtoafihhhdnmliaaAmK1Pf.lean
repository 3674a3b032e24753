import Derived.Test.YtoafihhhdnmliaaAmK1Pfa
import Derived.Test.YtoafihhhdnmliaaAmK1Pfb
set_option linter.unusedVariables false
set_option linter.unusedSimpArgs false
set_option linter.unusedSectionVars false
namespace Go.Proofs.Ytoafihhhdnmliaa.Am
open Go Go.Proofs
set_option maxRecDepth 100000
set_option linter.unusedSimpArgs false
set_option linter.unusedVariables false
set_option maxHeartbeats 4000000
theorem laws_szIntS_ok (hm : Try.prog.follows .mixedOrders = true) : Sound Try.prog 80 laws_szIntS_x := laws_szIntS_ok0 hm
theorem laws_szMask_ok (hm : Try.prog.follows .mixedOrders = true) : Sound Try.prog 66 laws_szMask_x := laws_szMask_ok0 hm (laws_szIntS_ok hm)
theorem laws_szKept_ok (hm : Try.prog.follows .mixedOrders = true) : Sound Try.prog 147 laws_szKept_x := laws_szKept_ok0 hm (laws_szMask_ok hm)
theorem laws_szKeptS_ok (hm : Try.prog.follows .mixedOrders = true) : Sound Try.prog 72 laws_szKeptS_x := laws_szKeptS_ok0 hm (laws_szKept_ok hm)
theorem laws_szCache_ok (hm : Try.prog.follows .mixedOrders = true) : Sound Try.prog 12 laws_szCache_x := laws_szCache_ok0 hm (laws_szKeptS_ok hm)
theorem laws_toBox_ok (hm : Try.prog.follows .mixedOrders = true) : Sound Try.prog 137 laws_toBox_x := laws_toBox_ok0 hm
theorem laws_toIntS_ok (hm : Try.prog.follows .mixedOrders = true) : Sound Try.prog 86 laws_toIntS_x := laws_toIntS_ok0 hm
theorem laws_toMask_ok (hm : Try.prog.follows .mixedOrders = true) : Sound Try.prog 68 laws_toMask_x := laws_toMask_ok0 hm (laws_toBox_ok hm) (laws_toIntS_ok hm)
theorem laws_toKept_ok (hm : Try.prog.follows .mixedOrders = true) : Sound Try.prog 149 laws_toKept_x := laws_toKept_ok0 hm (laws_toMask_ok hm)
theorem laws_toKeptS_ok (hm : Try.prog.follows .mixedOrders = true) : Sound Try.prog 75 laws_toKeptS_x := laws_toKeptS_ok0 hm (laws_toKept_ok hm)
theorem laws_toCache_ok (hm : Try.prog.follows .mixedOrders = true) : Sound Try.prog 14 laws_toCache_x := laws_toCache_ok0 hm (laws_toKeptS_ok hm)
theorem spec_l01In_ok (hm : Try.prog.follows .mixedOrders = true) : Sound Try.prog 73 spec_l01In_x := spec_l01In_ok0 hm
theorem spec_Empty_ok (hm : Try.prog.follows .mixedOrders = true) : Sound Try.prog 84 spec_Empty_x := spec_Empty_ok0 hm
theorem spec_l11Box_ok (hm : Try.prog.follows .mixedOrders = true) : Sound Try.prog 148 spec_l11Box_x := spec_l11Box_ok0 hm (spec_Empty_ok hm) (spec_l01In_ok hm)
theorem spec_MaskOk_ok (hm : Try.prog.follows .mixedOrders = true) : Sound Try.prog 74 spec_MaskOk_x := spec_MaskOk_ok0 hm (spec_l11Box_ok hm) (spec_l01In_ok hm)
theorem spec_CacheOk_ok (hm : Try.prog.follows .mixedOrders = true) : Sound Try.prog 13 spec_CacheOk_x := spec_CacheOk_ok0 hm (spec_l01In_ok hm) (spec_MaskOk_ok hm)
theorem impl_inRange_ok (hm : Try.prog.follows .mixedOrders = true) : Sound Try.prog 76 impl_inRange_x := impl_inRange_ok0 hm
theorem impl_Cache_keptAt_1_ok (hm : Try.prog.follows .mixedOrders = true) : Sound Try.prog 151 impl_Cache_keptAt_1_x := impl_Cache_keptAt_1_ok0 hm
theorem slices_IndexFunc_Kept_ok (hm : Try.prog.follows .mixedOrders = true) : Sound Try.prog 150 slices_IndexFunc_Kept_x := slices_IndexFunc_Kept_ok0 hm (impl_Cache_keptAt_1_ok hm)
theorem impl_Cache_keptAt_ok (hm : Try.prog.follows .mixedOrders = true) : Sound Try.prog 77 impl_Cache_keptAt_x := impl_Cache_keptAt_ok0 hm (slices_IndexFunc_Kept_ok hm)
theorem impl_Empty_ok (hm : Try.prog.follows .mixedOrders = true) : Sound Try.prog 158 impl_Empty_x := impl_Empty_ok0 hm
theorem impl_isMaskBox_ok (hm : Try.prog.follows .mixedOrders = true) : Sound Try.prog 152 impl_isMaskBox_x := impl_isMaskBox_ok0 hm (impl_Empty_ok hm)
theorem impl_MaskOk_ok (hm : Try.prog.follows .mixedOrders = true) : Sound Try.prog 78 impl_MaskOk_x := impl_MaskOk_ok0 hm (impl_isMaskBox_ok hm) (impl_inRange_ok hm)
theorem impl_CacheOk_ok (hm : Try.prog.follows .mixedOrders = true) : Sound Try.prog 15 impl_CacheOk_x := impl_CacheOk_ok0 hm (impl_inRange_ok hm) (impl_Cache_keptAt_ok hm) (impl_MaskOk_ok hm)
theorem laws_eqBox_ok (hm : Try.prog.follows .mixedOrders = true) : Sound Try.prog 139 laws_eqBox_x := laws_eqBox_ok0 hm
theorem laws_eqIntS_ok (hm : Try.prog.follows .mixedOrders = true) : Sound Try.prog 56 laws_eqIntS_x := laws_eqIntS_ok0 hm
theorem laws_eqMask_ok (hm : Try.prog.follows .mixedOrders = true) : Sound Try.prog 70 laws_eqMask_x := laws_eqMask_ok0 hm (laws_eqBox_ok hm) (laws_eqIntS_ok hm)
theorem laws_eqKept_ok (hm : Try.prog.follows .mixedOrders = true) : Sound Try.prog 153 laws_eqKept_x := laws_eqKept_ok0 hm (laws_eqMask_ok hm)
theorem laws_eqKeptS_ok (hm : Try.prog.follows .mixedOrders = true) : Sound Try.prog 79 laws_eqKeptS_x := laws_eqKeptS_ok0 hm (laws_eqKept_ok hm)
theorem laws_eqCache_ok (hm : Try.prog.follows .mixedOrders = true) : Sound Try.prog 16 laws_eqCache_x := laws_eqCache_ok0 hm (laws_eqKeptS_ok hm)
theorem laws_FnExactCacheOk_ok (hm : Try.prog.follows .mixedOrders = true) : Sound Try.prog 3 laws_FnExactCacheOk_x := laws_FnExactCacheOk_ok0 hm (laws_szCache_ok hm) (laws_toCache_ok hm) (spec_CacheOk_ok hm) (impl_CacheOk_ok hm) (laws_eqCache_ok hm)
end Go.Proofs.Ytoafihhhdnmliaa.Am
