import Derived.Test.YtokobfpimdadmaaAmN1Pfa
import Derived.Test.YtokobfpimdadmaaAmN1Pfb
set_option linter.unusedVariables false
set_option linter.unusedSimpArgs false
set_option linter.unusedSectionVars false
namespace Go.Proofs.Ytokobfpimdadmaa.Am
open Go Go.Proofs
set_option maxRecDepth 100000
set_option linter.unusedSimpArgs false
set_option linter.unusedVariables false
set_option maxHeartbeats 4000000
theorem spec_l01In_ok (hm : Try.prog.follows .mixedOrders = true) : Sound Try.prog 58 spec_l01In_x := spec_l01In_ok0 hm
theorem spec_SurfaceNew_ok (hm : Try.prog.follows .mixedOrders = true) : Sound Try.prog 18 spec_SurfaceNew_x := spec_SurfaceNew_ok0 hm (spec_l01In_ok hm)
theorem spec_TileCount_ok (hm : Try.prog.follows .mixedOrders = true) : Sound Try.prog 19 spec_TileCount_x := spec_TileCount_ok0 hm (spec_l01In_ok hm)
theorem spec_EngineNew_ok (hm : Try.prog.follows .mixedOrders = true) : Sound Try.prog 5 spec_EngineNew_x := spec_EngineNew_ok0 hm (spec_SurfaceNew_ok hm) (spec_TileCount_ok hm)
theorem impl_inRange_ok (hm : Try.prog.follows .mixedOrders = true) : Sound Try.prog 56 impl_inRange_x := impl_inRange_ok0 hm
theorem impl_isSide_ok (hm : Try.prog.follows .mixedOrders = true) : Sound Try.prog 59 impl_isSide_x := impl_isSide_ok0 hm (impl_inRange_ok hm)
theorem impl_SurfaceNew_ok (hm : Try.prog.follows .mixedOrders = true) : Sound Try.prog 20 impl_SurfaceNew_x := impl_SurfaceNew_ok0 hm (impl_isSide_ok hm)
theorem impl_tilesAlong_ok (hm : Try.prog.follows .mixedOrders = true) : Sound Try.prog 60 impl_tilesAlong_x := impl_tilesAlong_ok0 hm
theorem impl_TileCount_ok (hm : Try.prog.follows .mixedOrders = true) : Sound Try.prog 21 impl_TileCount_x := impl_TileCount_ok0 hm (impl_isSide_ok hm) (impl_tilesAlong_ok hm)
theorem impl_EngineNew_ok (hm : Try.prog.follows .mixedOrders = true) : Sound Try.prog 6 impl_EngineNew_x := impl_EngineNew_ok0 hm (impl_SurfaceNew_ok hm) (impl_TileCount_ok hm)
theorem laws_eqMat_ok (hm : Try.prog.follows .mixedOrders = true) : Sound Try.prog 119 laws_eqMat_x := laws_eqMat_ok0 hm
theorem laws_eqIntS_ok (hm : Try.prog.follows .mixedOrders = true) : Sound Try.prog 25 laws_eqIntS_x := laws_eqIntS_ok0 hm
theorem laws_eqPoint_ok (hm : Try.prog.follows .mixedOrders = true) : Sound Try.prog 125 laws_eqPoint_x := laws_eqPoint_ok0 hm
theorem laws_eqPointS_ok (hm : Try.prog.follows .mixedOrders = true) : Sound Try.prog 124 laws_eqPointS_x := laws_eqPointS_ok0 hm (laws_eqPoint_ok hm)
theorem laws_eqPath_ok (hm : Try.prog.follows .mixedOrders = true) : Sound Try.prog 120 laws_eqPath_x := laws_eqPath_ok0 hm (laws_eqIntS_ok hm) (laws_eqPointS_ok hm)
theorem laws_eqColor_ok (hm : Try.prog.follows .mixedOrders = true) : Sound Try.prog 101 laws_eqColor_x := laws_eqColor_ok0 hm
theorem laws_eqPaint_ok (hm : Try.prog.follows .mixedOrders = true) : Sound Try.prog 121 laws_eqPaint_x := laws_eqPaint_ok0 hm (laws_eqColor_ok hm) (laws_eqPoint_ok hm)
theorem laws_eqNode_ok (hm : Try.prog.follows .mixedOrders = true) : Sound Try.prog 100 laws_eqNode_x := laws_eqNode_ok0 hm (laws_eqMat_ok hm) (laws_eqPath_ok hm) (laws_eqIntS_ok hm) (laws_eqPaint_ok hm)
theorem laws_eqNodeS_ok (hm : Try.prog.follows .mixedOrders = true) : Sound Try.prog 61 laws_eqNodeS_x := laws_eqNodeS_ok0 hm (laws_eqNode_ok hm)
theorem laws_eqScene_ok (hm : Try.prog.follows .mixedOrders = true) : Sound Try.prog 22 laws_eqScene_x := laws_eqScene_ok0 hm (laws_eqNodeS_ok hm)
theorem laws_eqColorS_ok (hm : Try.prog.follows .mixedOrders = true) : Sound Try.prog 62 laws_eqColorS_x := laws_eqColorS_ok0 hm (laws_eqColor_ok hm)
theorem laws_eqSurface_ok (hm : Try.prog.follows .mixedOrders = true) : Sound Try.prog 23 laws_eqSurface_x := laws_eqSurface_ok0 hm (laws_eqColorS_ok hm)
theorem laws_eqBox_ok (hm : Try.prog.follows .mixedOrders = true) : Sound Try.prog 63 laws_eqBox_x := laws_eqBox_ok0 hm
theorem laws_eqBoxS_ok (hm : Try.prog.follows .mixedOrders = true) : Sound Try.prog 24 laws_eqBoxS_x := laws_eqBoxS_ok0 hm (laws_eqBox_ok hm)
theorem laws_eqMask_ok (hm : Try.prog.follows .mixedOrders = true) : Sound Try.prog 122 laws_eqMask_x := laws_eqMask_ok0 hm (laws_eqBox_ok hm) (laws_eqIntS_ok hm)
theorem laws_eqKept_ok (hm : Try.prog.follows .mixedOrders = true) : Sound Try.prog 102 laws_eqKept_x := laws_eqKept_ok0 hm (laws_eqMask_ok hm)
theorem laws_eqKeptS_ok (hm : Try.prog.follows .mixedOrders = true) : Sound Try.prog 64 laws_eqKeptS_x := laws_eqKeptS_ok0 hm (laws_eqKept_ok hm)
theorem laws_eqCache_ok (hm : Try.prog.follows .mixedOrders = true) : Sound Try.prog 26 laws_eqCache_x := laws_eqCache_ok0 hm (laws_eqKeptS_ok hm)
theorem laws_eqEngine_ok (hm : Try.prog.follows .mixedOrders = true) : Sound Try.prog 7 laws_eqEngine_x := laws_eqEngine_ok0 hm (laws_eqScene_ok hm) (laws_eqSurface_ok hm) (laws_eqBoxS_ok hm) (laws_eqIntS_ok hm) (laws_eqCache_ok hm)
theorem laws_markNodeS_ok (hm : Try.prog.follows .mixedOrders = true) : Sound Try.prog 65 laws_markNodeS_x := laws_markNodeS_ok0 hm
theorem laws_markScene_ok (hm : Try.prog.follows .mixedOrders = true) : Sound Try.prog 27 laws_markScene_x := laws_markScene_ok0 hm (laws_markNodeS_ok hm)
theorem laws_markColorS_ok (hm : Try.prog.follows .mixedOrders = true) : Sound Try.prog 66 laws_markColorS_x := laws_markColorS_ok0 hm
theorem laws_markSurface_ok (hm : Try.prog.follows .mixedOrders = true) : Sound Try.prog 28 laws_markSurface_x := laws_markSurface_ok0 hm (laws_markColorS_ok hm)
theorem laws_markBoxS_ok (hm : Try.prog.follows .mixedOrders = true) : Sound Try.prog 29 laws_markBoxS_x := laws_markBoxS_ok0 hm
theorem laws_markIntS_ok (hm : Try.prog.follows .mixedOrders = true) : Sound Try.prog 30 laws_markIntS_x := laws_markIntS_ok0 hm
theorem laws_markKeptS_ok (hm : Try.prog.follows .mixedOrders = true) : Sound Try.prog 67 laws_markKeptS_x := laws_markKeptS_ok0 hm
theorem laws_markCache_ok (hm : Try.prog.follows .mixedOrders = true) : Sound Try.prog 31 laws_markCache_x := laws_markCache_ok0 hm (laws_markKeptS_ok hm)
theorem laws_markEngine_ok (hm : Try.prog.follows .mixedOrders = true) : Sound Try.prog 8 laws_markEngine_x := laws_markEngine_ok0 hm (laws_markScene_ok hm) (laws_markSurface_ok hm) (laws_markBoxS_ok hm) (laws_markIntS_ok hm) (laws_markCache_ok hm)
theorem laws_heldIntS_ok (hm : Try.prog.follows .mixedOrders = true) : Sound Try.prog 35 laws_heldIntS_x := laws_heldIntS_ok0 hm
theorem laws_heldPointS_ok (hm : Try.prog.follows .mixedOrders = true) : Sound Try.prog 104 laws_heldPointS_x := laws_heldPointS_ok0 hm
theorem laws_heldNodeS_ok (hm : Try.prog.follows .mixedOrders = true) : Sound Try.prog 68 laws_heldNodeS_x := laws_heldNodeS_ok0 hm (laws_heldIntS_ok hm) (laws_heldPointS_ok hm)
theorem laws_heldScene_ok (hm : Try.prog.follows .mixedOrders = true) : Sound Try.prog 32 laws_heldScene_x := laws_heldScene_ok0 hm (laws_heldNodeS_ok hm)
theorem laws_heldColorS_ok (hm : Try.prog.follows .mixedOrders = true) : Sound Try.prog 69 laws_heldColorS_x := laws_heldColorS_ok0 hm
theorem laws_heldSurface_ok (hm : Try.prog.follows .mixedOrders = true) : Sound Try.prog 33 laws_heldSurface_x := laws_heldSurface_ok0 hm (laws_heldColorS_ok hm)
theorem laws_heldBoxS_ok (hm : Try.prog.follows .mixedOrders = true) : Sound Try.prog 34 laws_heldBoxS_x := laws_heldBoxS_ok0 hm
theorem laws_heldKeptS_ok (hm : Try.prog.follows .mixedOrders = true) : Sound Try.prog 70 laws_heldKeptS_x := laws_heldKeptS_ok0 hm (laws_heldIntS_ok hm)
theorem laws_heldCache_ok (hm : Try.prog.follows .mixedOrders = true) : Sound Try.prog 36 laws_heldCache_x := laws_heldCache_ok0 hm (laws_heldKeptS_ok hm)
theorem laws_heldEngine_ok (hm : Try.prog.follows .mixedOrders = true) : Sound Try.prog 9 laws_heldEngine_x := laws_heldEngine_ok0 hm (laws_heldScene_ok hm) (laws_heldSurface_ok hm) (laws_heldBoxS_ok hm) (laws_heldIntS_ok hm) (laws_heldCache_ok hm)
theorem laws_FnExactEngineNew_ok (hm : Try.prog.follows .mixedOrders = true) : Sound Try.prog 3 laws_FnExactEngineNew_x := laws_FnExactEngineNew_ok0 hm (spec_EngineNew_ok hm) (impl_EngineNew_ok hm) (laws_eqEngine_ok hm) (laws_markEngine_ok hm) (laws_heldEngine_ok hm)
end Go.Proofs.Ytokobfpimdadmaa.Am
