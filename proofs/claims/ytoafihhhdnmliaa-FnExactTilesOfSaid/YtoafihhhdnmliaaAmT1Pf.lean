import Derived.Test.YtoafihhhdnmliaaAmT1Pfa
import Derived.Test.YtoafihhhdnmliaaAmT1Pfb
set_option linter.unusedVariables false
set_option linter.unusedSimpArgs false
set_option linter.unusedSectionVars false
namespace Go.Proofs.Ytoafihhhdnmliaa.Am
open Go Go.Proofs
set_option maxRecDepth 100000
set_option linter.unusedSimpArgs false
set_option linter.unusedVariables false
set_option maxHeartbeats 4000000
theorem laws_szBoxS_ok (hm : Try.prog.follows .mixedOrders = true) : Sound Try.prog 52 laws_szBoxS_x := laws_szBoxS_ok0 hm
theorem laws_toBox_ok (hm : Try.prog.follows .mixedOrders = true) : Sound Try.prog 137 laws_toBox_x := laws_toBox_ok0 hm
theorem laws_toBoxS_ok (hm : Try.prog.follows .mixedOrders = true) : Sound Try.prog 54 laws_toBoxS_x := laws_toBoxS_ok0 hm (laws_toBox_ok hm)
theorem spec_l01In_ok (hm : Try.prog.follows .mixedOrders = true) : Sound Try.prog 73 spec_l01In_x := spec_l01In_ok0 hm
theorem spec_TileCount_ok (hm : Try.prog.follows .mixedOrders = true) : Sound Try.prog 81 spec_TileCount_x := spec_TileCount_ok0 hm (spec_l01In_ok hm)
theorem spec_l05Most_ok (hm : Try.prog.follows .mixedOrders = true) : Sound Try.prog 154 spec_l05Most_x := spec_l05Most_ok0 hm
theorem spec_l05Least_ok (hm : Try.prog.follows .mixedOrders = true) : Sound Try.prog 155 spec_l05Least_x := spec_l05Least_ok0 hm
theorem spec_Empty_ok (hm : Try.prog.follows .mixedOrders = true) : Sound Try.prog 84 spec_Empty_x := spec_Empty_ok0 hm
theorem spec_MeetBox_ok (hm : Try.prog.follows .mixedOrders = true) : Sound Try.prog 85 spec_MeetBox_x := spec_MeetBox_ok0 hm (spec_l05Most_ok hm) (spec_l05Least_ok hm) (spec_Empty_ok hm)
theorem spec_TileBox_ok (hm : Try.prog.follows .mixedOrders = true) : Sound Try.prog 83 spec_TileBox_x := spec_TileBox_ok0 hm (spec_TileCount_ok hm) (spec_l01In_ok hm) (spec_MeetBox_ok hm)
theorem spec_TilesOf_ok (hm : Try.prog.follows .mixedOrders = true) : Sound Try.prog 53 spec_TilesOf_x := spec_TilesOf_ok0 hm (spec_TileCount_ok hm) (spec_TileBox_ok hm) (spec_MeetBox_ok hm) (spec_Empty_ok hm)
theorem impl_inRange_ok (hm : Try.prog.follows .mixedOrders = true) : Sound Try.prog 76 impl_inRange_x := impl_inRange_ok0 hm
theorem impl_isSide_ok (hm : Try.prog.follows .mixedOrders = true) : Sound Try.prog 102 impl_isSide_x := impl_isSide_ok0 hm (impl_inRange_ok hm)
theorem impl_tilesAlong_ok (hm : Try.prog.follows .mixedOrders = true) : Sound Try.prog 156 impl_tilesAlong_x := impl_tilesAlong_ok0 hm
theorem impl_TileCount_ok (hm : Try.prog.follows .mixedOrders = true) : Sound Try.prog 138 impl_TileCount_x := impl_TileCount_ok0 hm (impl_isSide_ok hm) (impl_tilesAlong_ok hm)
theorem impl_Empty_ok (hm : Try.prog.follows .mixedOrders = true) : Sound Try.prog 158 impl_Empty_x := impl_Empty_ok0 hm
theorem impl_MeetBox_ok (hm : Try.prog.follows .mixedOrders = true) : Sound Try.prog 157 impl_MeetBox_x := impl_MeetBox_ok0 hm (impl_Empty_ok hm)
theorem impl_TileBox_ok (hm : Try.prog.follows .mixedOrders = true) : Sound Try.prog 88 impl_TileBox_x := impl_TileBox_ok0 hm (impl_TileCount_ok hm) (impl_inRange_ok hm) (impl_tilesAlong_ok hm) (impl_MeetBox_ok hm)
theorem impl_meetsAny_ok (hm : Try.prog.follows .mixedOrders = true) : Sound Try.prog 89 impl_meetsAny_x := impl_meetsAny_ok0 hm (impl_MeetBox_ok hm) (impl_Empty_ok hm)
theorem impl_TilesOf_ok (hm : Try.prog.follows .mixedOrders = true) : Sound Try.prog 55 impl_TilesOf_x := impl_TilesOf_ok0 hm (impl_TileCount_ok hm) (impl_TileBox_ok hm) (impl_meetsAny_ok hm)
theorem laws_eqIntS_ok (hm : Try.prog.follows .mixedOrders = true) : Sound Try.prog 56 laws_eqIntS_x := laws_eqIntS_ok0 hm
theorem laws_eqBox_ok (hm : Try.prog.follows .mixedOrders = true) : Sound Try.prog 139 laws_eqBox_x := laws_eqBox_ok0 hm
theorem laws_eqBoxS_ok (hm : Try.prog.follows .mixedOrders = true) : Sound Try.prog 57 laws_eqBoxS_x := laws_eqBoxS_ok0 hm (laws_eqBox_ok hm)
theorem laws_markBoxS_ok (hm : Try.prog.follows .mixedOrders = true) : Sound Try.prog 58 laws_markBoxS_x := laws_markBoxS_ok0 hm
theorem laws_markIntS_ok (hm : Try.prog.follows .mixedOrders = true) : Sound Try.prog 59 laws_markIntS_x := laws_markIntS_ok0 hm
theorem laws_heldIntS_ok (hm : Try.prog.follows .mixedOrders = true) : Sound Try.prog 60 laws_heldIntS_x := laws_heldIntS_ok0 hm
theorem laws_FnExactTilesOf_ok (hm : Try.prog.follows .mixedOrders = true) : Sound Try.prog 9 laws_FnExactTilesOf_x := laws_FnExactTilesOf_ok0 hm (laws_szBoxS_ok hm) (laws_toBoxS_ok hm) (spec_TilesOf_ok hm) (impl_TilesOf_ok hm) (laws_eqIntS_ok hm) (laws_eqBoxS_ok hm) (laws_markBoxS_ok hm) (laws_markIntS_ok hm) (laws_heldIntS_ok hm)
end Go.Proofs.Ytoafihhhdnmliaa.Am
