import Derived.Test.YtapchldnmkfkoabDoorAmRsPfa
import Derived.Test.YtapchldnmkfkoabDoorAmRsPfb
import Derived.Test.YtapchldnmkfkoabDoorAmRsPfc
set_option linter.unusedVariables false
set_option linter.unusedSimpArgs false
set_option linter.unusedSectionVars false
namespace Go.Proofs.YtapchldnmkfkoabDoor.Am
open Go Go.Proofs
set_option maxRecDepth 100000
set_option linter.unusedSimpArgs false
set_option linter.unusedVariables false
set_option maxHeartbeats 4000000
theorem spec_l24Lines_ok (hm : Tryd.prog.follows .mixedOrders = true) : Sound Tryd.prog 9 spec_l24Lines_x := spec_l24Lines_ok0 hm
theorem spec_PartsOf_ok (hm : Tryd.prog.follows .mixedOrders = true) : Sound Tryd.prog 10 spec_PartsOf_x := spec_PartsOf_ok0 hm
theorem spec_l01Figure_ok (hm : Tryd.prog.follows .mixedOrders = true) : Sound Tryd.prog 63 spec_l01Figure_x := spec_l01Figure_ok0 hm
theorem spec_Decimal_ok (hm : Tryd.prog.follows .mixedOrders = true) : Sound Tryd.prog 49 spec_Decimal_x := spec_Decimal_ok0 hm (spec_l01Figure_ok hm)
theorem spec_ReadDecimal_ok (hm : Tryd.prog.follows .mixedOrders = true) : Sound Tryd.prog 35 spec_ReadDecimal_x := spec_ReadDecimal_ok0 hm (spec_Decimal_ok hm)
theorem spec_l24Nums_ok (hm : Tryd.prog.follows .mixedOrders = true) : Sound Tryd.prog 23 spec_l24Nums_x := spec_l24Nums_ok0 hm (spec_ReadDecimal_ok hm)
theorem spec_Still_ok (hm : Tryd.prog.follows .mixedOrders = true) : Sound Tryd.prog 31 spec_Still_x := spec_Still_ok0 hm
theorem spec_Shift_ok (hm : Tryd.prog.follows .mixedOrders = true) : Sound Tryd.prog 32 spec_Shift_x := spec_Shift_ok0 hm
theorem spec_l01Value_ok (hm : Tryd.prog.follows .mixedOrders = true) : Sound Tryd.prog 62 spec_l01Value_x := spec_l01Value_ok0 hm
theorem spec_Unhex_ok (hm : Tryd.prog.follows .mixedOrders = true) : Sound Tryd.prog 46 spec_Unhex_x := spec_Unhex_ok0 hm (spec_l01Value_ok hm)
theorem spec_l24Plain_ok (hm : Tryd.prog.follows .mixedOrders = true) : Sound Tryd.prog 33 spec_l24Plain_x := spec_l24Plain_ok0 hm (spec_Unhex_ok hm)
theorem spec_Empty_ok (hm : Tryd.prog.follows .mixedOrders = true) : Sound Tryd.prog 47 spec_Empty_x := spec_Empty_ok0 hm
theorem spec_l01In_ok (hm : Tryd.prog.follows .mixedOrders = true) : Sound Tryd.prog 36 spec_l01In_x := spec_l01In_ok0 hm
theorem spec_PointOk_ok (hm : Tryd.prog.follows .mixedOrders = true) : Sound Tryd.prog 48 spec_PointOk_x := spec_PointOk_ok0 hm (spec_l01In_ok hm)
theorem spec_RectPath_ok (hm : Tryd.prog.follows .mixedOrders = true) : Sound Tryd.prog 34 spec_RectPath_x := spec_RectPath_ok0 hm (spec_Empty_ok hm) (spec_PointOk_ok hm)
theorem spec_l24Create_ok (hm : Tryd.prog.follows .mixedOrders = true) : Sound Tryd.prog 22 spec_l24Create_x := spec_l24Create_ok0 hm (spec_l24Nums_ok hm) (spec_Still_ok hm) (spec_Shift_ok hm) (spec_l24Plain_ok hm) (spec_RectPath_ok hm)
theorem spec_l24Deed_ok (hm : Tryd.prog.follows .mixedOrders = true) : Sound Tryd.prog 11 spec_l24Deed_x := spec_l24Deed_ok0 hm (spec_l24Create_ok hm) (spec_l24Nums_ok hm)
theorem spec_SurfaceNew_ok (hm : Tryd.prog.follows .mixedOrders = true) : Sound Tryd.prog 24 spec_SurfaceNew_x := spec_SurfaceNew_ok0 hm (spec_l01In_ok hm)
theorem spec_TileCount_ok (hm : Tryd.prog.follows .mixedOrders = true) : Sound Tryd.prog 25 spec_TileCount_x := spec_TileCount_ok0 hm (spec_l01In_ok hm)
theorem spec_EngineNew_ok (hm : Tryd.prog.follows .mixedOrders = true) : Sound Tryd.prog 12 spec_EngineNew_x := spec_EngineNew_ok0 hm (spec_SurfaceNew_ok hm) (spec_TileCount_ok hm)
theorem spec_ReadScript_ok (hm : Tryd.prog.follows .mixedOrders = true) : Sound Tryd.prog 4 spec_ReadScript_x := spec_ReadScript_ok0 hm (spec_l24Lines_ok hm) (spec_PartsOf_ok hm) (spec_l24Deed_ok hm) (spec_EngineNew_ok hm)
theorem strings_TrimSuffix_ok (hm : Tryd.prog.follows .mixedOrders = true) : Sound Tryd.prog 27 strings_TrimSuffix_x := strings_TrimSuffix_ok0 hm
theorem strings_Split_ok (hm : Tryd.prog.follows .mixedOrders = true) : Sound Tryd.prog 26 strings_Split_x := strings_Split_ok0 hm
theorem impl_scriptLines_ok (hm : Tryd.prog.follows .mixedOrders = true) : Sound Tryd.prog 13 impl_scriptLines_x := impl_scriptLines_ok0 hm (strings_TrimSuffix_ok hm) (strings_Split_ok hm)
theorem impl_PartsOf_ok (hm : Tryd.prog.follows .mixedOrders = true) : Sound Tryd.prog 14 impl_PartsOf_x := impl_PartsOf_ok0 hm (strings_Split_ok hm)
theorem impl_lineReader_next_ok (hm : Tryd.prog.follows .mixedOrders = true) : Sound Tryd.prog 39 impl_lineReader_next_x := impl_lineReader_next_ok0 hm
theorem strconv_Itoa_ok (hm : Tryd.prog.follows .mixedOrders = true) : Sound Tryd.prog 80 strconv_Itoa_x := strconv_Itoa_ok0 hm
theorem impl_Decimal_ok (hm : Tryd.prog.follows .mixedOrders = true) : Sound Tryd.prog 72 impl_Decimal_x := impl_Decimal_ok0 hm (strconv_Itoa_ok hm)
theorem impl_ReadDecimal_ok (hm : Tryd.prog.follows .mixedOrders = true) : Sound Tryd.prog 58 impl_ReadDecimal_x := impl_ReadDecimal_ok0 hm (impl_Decimal_ok hm)
theorem impl_lineReader_number_ok (hm : Tryd.prog.follows .mixedOrders = true) : Sound Tryd.prog 41 impl_lineReader_number_x := impl_lineReader_number_ok0 hm (impl_lineReader_next_ok hm) (impl_ReadDecimal_ok hm)
theorem impl_Still_ok (hm : Tryd.prog.follows .mixedOrders = true) : Sound Tryd.prog 54 impl_Still_x := impl_Still_ok0 hm
theorem impl_lineReader_box_ok (hm : Tryd.prog.follows .mixedOrders = true) : Sound Tryd.prog 55 impl_lineReader_box_x := impl_lineReader_box_ok0 hm (impl_lineReader_number_ok hm)
theorem impl_corners_ok (hm : Tryd.prog.follows .mixedOrders = true) : Sound Tryd.prog 68 impl_corners_x := impl_corners_ok0 hm
theorem impl_Empty_ok (hm : Tryd.prog.follows .mixedOrders = true) : Sound Tryd.prog 69 impl_Empty_x := impl_Empty_ok0 hm
theorem impl_inRange_ok (hm : Tryd.prog.follows .mixedOrders = true) : Sound Tryd.prog 29 impl_inRange_x := impl_inRange_ok0 hm
theorem impl_isFar_ok (hm : Tryd.prog.follows .mixedOrders = true) : Sound Tryd.prog 83 impl_isFar_x := impl_isFar_ok0 hm (impl_inRange_ok hm)
theorem impl_PointOk_ok (hm : Tryd.prog.follows .mixedOrders = true) : Sound Tryd.prog 78 impl_PointOk_x := impl_PointOk_ok0 hm (impl_isFar_ok hm)
theorem impl_pointsOk_ok (hm : Tryd.prog.follows .mixedOrders = true) : Sound Tryd.prog 70 impl_pointsOk_x := impl_pointsOk_ok0 hm (impl_PointOk_ok hm)
theorem impl_RectPath_ok (hm : Tryd.prog.follows .mixedOrders = true) : Sound Tryd.prog 56 impl_RectPath_x := impl_RectPath_ok0 hm (impl_corners_ok hm) (impl_Empty_ok hm) (impl_pointsOk_ok hm)
theorem strings_IndexByte_ok (hm : Tryd.prog.follows .mixedOrders = true) : Sound Tryd.prog 79 strings_IndexByte_x := strings_IndexByte_ok0 hm
theorem impl_Unhex_ok (hm : Tryd.prog.follows .mixedOrders = true) : Sound Tryd.prog 71 impl_Unhex_x := impl_Unhex_ok0 hm (strings_IndexByte_ok hm)
theorem impl_lineReader_color_ok (hm : Tryd.prog.follows .mixedOrders = true) : Sound Tryd.prog 57 impl_lineReader_color_x := impl_lineReader_color_ok0 hm (impl_lineReader_next_ok hm) (impl_Unhex_ok hm)
theorem impl_lineReader_created_ok (hm : Tryd.prog.follows .mixedOrders = true) : Sound Tryd.prog 40 impl_lineReader_created_x := impl_lineReader_created_ok0 hm (impl_lineReader_number_ok hm) (impl_Still_ok hm) (impl_lineReader_box_ok hm) (impl_RectPath_ok hm) (impl_lineReader_color_ok hm)
theorem impl_lineReader_deed_ok (hm : Tryd.prog.follows .mixedOrders = true) : Sound Tryd.prog 28 impl_lineReader_deed_x := impl_lineReader_deed_ok0 hm (impl_lineReader_next_ok hm) (impl_lineReader_created_ok hm) (impl_lineReader_number_ok hm)
theorem impl_readDeed_ok (hm : Tryd.prog.follows .mixedOrders = true) : Sound Tryd.prog 15 impl_readDeed_x := impl_readDeed_ok0 hm (impl_lineReader_deed_ok hm)
theorem impl_isSide_ok (hm : Tryd.prog.follows .mixedOrders = true) : Sound Tryd.prog 16 impl_isSide_x := impl_isSide_ok0 hm (impl_inRange_ok hm)
theorem impl_ReadScript_ok (hm : Tryd.prog.follows .mixedOrders = true) : Sound Tryd.prog 5 impl_ReadScript_x := impl_ReadScript_ok0 hm (impl_scriptLines_ok hm) (impl_PartsOf_ok hm) (impl_readDeed_ok hm) (impl_isSide_ok hm)
theorem laws_eqMat_ok (hm : Tryd.prog.follows .mixedOrders = true) : Sound Tryd.prog 42 laws_eqMat_x := laws_eqMat_ok0 hm
theorem laws_eqIntS_ok (hm : Tryd.prog.follows .mixedOrders = true) : Sound Tryd.prog 44 laws_eqIntS_x := laws_eqIntS_ok0 hm
theorem laws_eqPoint_ok (hm : Tryd.prog.follows .mixedOrders = true) : Sound Tryd.prog 61 laws_eqPoint_x := laws_eqPoint_ok0 hm
theorem laws_eqPointS_ok (hm : Tryd.prog.follows .mixedOrders = true) : Sound Tryd.prog 59 laws_eqPointS_x := laws_eqPointS_ok0 hm (laws_eqPoint_ok hm)
theorem laws_eqPath_ok (hm : Tryd.prog.follows .mixedOrders = true) : Sound Tryd.prog 43 laws_eqPath_x := laws_eqPath_ok0 hm (laws_eqIntS_ok hm) (laws_eqPointS_ok hm)
theorem laws_eqColor_ok (hm : Tryd.prog.follows .mixedOrders = true) : Sound Tryd.prog 60 laws_eqColor_x := laws_eqColor_ok0 hm
theorem laws_eqPaint_ok (hm : Tryd.prog.follows .mixedOrders = true) : Sound Tryd.prog 45 laws_eqPaint_x := laws_eqPaint_ok0 hm (laws_eqColor_ok hm) (laws_eqPoint_ok hm)
theorem laws_eqNode_ok (hm : Tryd.prog.follows .mixedOrders = true) : Sound Tryd.prog 30 laws_eqNode_x := laws_eqNode_ok0 hm (laws_eqMat_ok hm) (laws_eqPath_ok hm) (laws_eqIntS_ok hm) (laws_eqPaint_ok hm)
theorem laws_eqDeed_ok (hm : Tryd.prog.follows .mixedOrders = true) : Sound Tryd.prog 17 laws_eqDeed_x := laws_eqDeed_ok0 hm (laws_eqNode_ok hm)
theorem laws_eqDeedS_ok (hm : Tryd.prog.follows .mixedOrders = true) : Sound Tryd.prog 6 laws_eqDeedS_x := laws_eqDeedS_ok0 hm (laws_eqDeed_ok hm)
theorem laws_markIntS_ok (hm : Tryd.prog.follows .mixedOrders = true) : Sound Tryd.prog 18 laws_markIntS_x := laws_markIntS_ok0 hm
theorem laws_markPointS_ok (hm : Tryd.prog.follows .mixedOrders = true) : Sound Tryd.prog 19 laws_markPointS_x := laws_markPointS_ok0 hm
theorem laws_markDeedS_ok (hm : Tryd.prog.follows .mixedOrders = true) : Sound Tryd.prog 7 laws_markDeedS_x := laws_markDeedS_ok0 hm (laws_markIntS_ok hm) (laws_markPointS_ok hm)
theorem laws_heldIntS_ok (hm : Tryd.prog.follows .mixedOrders = true) : Sound Tryd.prog 20 laws_heldIntS_x := laws_heldIntS_ok0 hm
theorem laws_heldPointS_ok (hm : Tryd.prog.follows .mixedOrders = true) : Sound Tryd.prog 21 laws_heldPointS_x := laws_heldPointS_ok0 hm
theorem laws_heldDeedS_ok (hm : Tryd.prog.follows .mixedOrders = true) : Sound Tryd.prog 8 laws_heldDeedS_x := laws_heldDeedS_ok0 hm (laws_heldIntS_ok hm) (laws_heldPointS_ok hm)
theorem laws_FnExactReadScript_ok (hm : Tryd.prog.follows .mixedOrders = true) : Sound Tryd.prog 3 laws_FnExactReadScript_x := laws_FnExactReadScript_ok0 hm (spec_ReadScript_ok hm) (impl_ReadScript_ok hm) (laws_eqDeedS_ok hm) (laws_markDeedS_ok hm) (laws_heldDeedS_ok hm)
end Go.Proofs.YtapchldnmkfkoabDoor.Am
