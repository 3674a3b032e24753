import Derived.Test.YtapchldnmkfkoabDoorAmLb
import Derived.Test.YtapchldnmkfkoabDoorProg
import Derived.KernelRfl
set_option linter.unusedVariables false
set_option linter.unusedSimpArgs false
set_option linter.unusedSectionVars false
namespace Go.Proofs.YtapchldnmkfkoabDoor.Am
open Go Go.Proofs
set_option maxRecDepth 100000
set_option linter.unusedSimpArgs false
@[simp] theorem art_9 : art Tryd.prog 9 = none := by kernel_rfl
@[simp] theorem art_22 : art Tryd.prog 22 = none := by kernel_rfl
@[simp] theorem art_28 : art Tryd.prog 28 = none := by kernel_rfl
@[simp] theorem art_33 : art Tryd.prog 33 = none := by kernel_rfl
@[simp] theorem art_34 : art Tryd.prog 34 = none := by kernel_rfl
@[simp] theorem art_35 : art Tryd.prog 35 = none := by kernel_rfl
@[simp] theorem art_37 : art Tryd.prog 37 = none := by kernel_rfl
@[simp] theorem art_39 : art Tryd.prog 39 = none := by kernel_rfl
@[simp] theorem art_41 : art Tryd.prog 41 = none := by kernel_rfl
@[simp] theorem art_43 : art Tryd.prog 43 = none := by kernel_rfl
@[simp] theorem art_45 : art Tryd.prog 45 = none := by kernel_rfl
@[simp] theorem art_47 : art Tryd.prog 47 = none := by kernel_rfl
@[simp] theorem art_55 : art Tryd.prog 55 = none := by kernel_rfl
@[simp] theorem art_59 : art Tryd.prog 59 = none := by kernel_rfl
@[simp] theorem art_61 : art Tryd.prog 61 = none := by kernel_rfl
@[simp] theorem art_76 : art Tryd.prog 76 = none := by kernel_rfl
@[simp] theorem art_86 : art Tryd.prog 86 = none := by kernel_rfl
@[simp] theorem cvt_3_5 : cvt Tryd.prog 3 5 = some (.int .u8) := by kernel_rfl
@[simp] theorem cvt_5_3 : cvt Tryd.prog 5 3 = some (.int .i64) := by kernel_rfl
@[simp] theorem cvt_111_9 : cvt Tryd.prog 111 9 = some .bytesStr := by kernel_rfl
@[simp] theorem deepP_3 : deepP Tryd.prog 3 = false := by kernel_rfl
@[simp] theorem deepP_5 : deepP Tryd.prog 5 = false := by kernel_rfl
@[simp] theorem deepP_9 : deepP Tryd.prog 9 = false := by kernel_rfl
@[simp] theorem deepP_39 : deepP Tryd.prog 39 = false := by kernel_rfl
@[simp] theorem deepP_41 : deepP Tryd.prog 41 = false := by kernel_rfl
@[simp] theorem deepP_47 : deepP Tryd.prog 47 = true := by kernel_rfl
@[simp] theorem elt_9 : elt Tryd.prog 9 = none := by kernel_rfl
@[simp] theorem elt_22 : elt Tryd.prog 22 = some (47, (.ag 37), 376) := by kernel_rfl
@[simp] theorem elt_28 : elt Tryd.prog 28 = some (9, .sc, 16) := by kernel_rfl
@[simp] theorem elt_34 : elt Tryd.prog 34 = some (3, .sc, 8) := by kernel_rfl
@[simp] theorem elt_35 : elt Tryd.prog 35 = some (41, (.ag 2), 16) := by kernel_rfl
@[simp] theorem elt_53 : elt Tryd.prog 53 = some (39, (.ag 4), 32) := by kernel_rfl
@[simp] theorem elt_111 : elt Tryd.prog 111 = some (5, .sc, 1) := by kernel_rfl
@[simp] theorem eqk_3 : eqk Tryd.prog 3 = some (false, [.i]) := by kernel_rfl
@[simp] theorem eqk_4 : eqk Tryd.prog 4 = some (false, [.b]) := by kernel_rfl
@[simp] theorem eqk_5 : eqk Tryd.prog 5 = some (false, [.i]) := by kernel_rfl
@[simp] theorem eqk_9 : eqk Tryd.prog 9 = some (false, [.s]) := by kernel_rfl
@[simp] theorem fld_33_0 : fld Tryd.prog 33 0 = some (0, .sc) := by kernel_rfl
@[simp] theorem fld_33_1 : fld Tryd.prog 33 1 = some (1, .sc) := by kernel_rfl
@[simp] theorem fld_33_2 : fld Tryd.prog 33 2 = some (2, .sc) := by kernel_rfl
@[simp] theorem fld_33_3 : fld Tryd.prog 33 3 = some (3, .sc) := by kernel_rfl
@[simp] theorem fld_33_4 : fld Tryd.prog 33 4 = some (4, .sc) := by kernel_rfl
@[simp] theorem fld_33_5 : fld Tryd.prog 33 5 = some (5, .sc) := by kernel_rfl
@[simp] theorem fld_37_0 : fld Tryd.prog 37 0 = some (0, .sc) := by kernel_rfl
@[simp] theorem fld_37_1 : fld Tryd.prog 37 1 = some (1, .sc) := by kernel_rfl
@[simp] theorem fld_39_0 : fld Tryd.prog 39 0 = some (0, .sc) := by kernel_rfl
@[simp] theorem fld_39_1 : fld Tryd.prog 39 1 = some (1, .sc) := by kernel_rfl
@[simp] theorem fld_39_2 : fld Tryd.prog 39 2 = some (2, .sc) := by kernel_rfl
@[simp] theorem fld_39_3 : fld Tryd.prog 39 3 = some (3, .sc) := by kernel_rfl
@[simp] theorem fld_41_0 : fld Tryd.prog 41 0 = some (0, .sc) := by kernel_rfl
@[simp] theorem fld_41_1 : fld Tryd.prog 41 1 = some (1, .sc) := by kernel_rfl
@[simp] theorem fld_43_0 : fld Tryd.prog 43 0 = some (0, .sc) := by kernel_rfl
@[simp] theorem fld_43_1 : fld Tryd.prog 43 1 = some (1, (.ag 4)) := by kernel_rfl
@[simp] theorem fld_43_2 : fld Tryd.prog 43 2 = some (5, (.ag 4)) := by kernel_rfl
@[simp] theorem fld_43_3 : fld Tryd.prog 43 3 = some (9, (.ag 2)) := by kernel_rfl
@[simp] theorem fld_43_4 : fld Tryd.prog 43 4 = some (11, (.ag 2)) := by kernel_rfl
@[simp] theorem fld_45_0 : fld Tryd.prog 45 0 = some (0, .sc) := by kernel_rfl
@[simp] theorem fld_45_1 : fld Tryd.prog 45 1 = some (1, .sc) := by kernel_rfl
@[simp] theorem fld_45_2 : fld Tryd.prog 45 2 = some (2, .sc) := by kernel_rfl
@[simp] theorem fld_45_3 : fld Tryd.prog 45 3 = some (3, (.ag 6)) := by kernel_rfl
@[simp] theorem fld_45_4 : fld Tryd.prog 45 4 = some (9, (.ag 2)) := by kernel_rfl
@[simp] theorem fld_45_5 : fld Tryd.prog 45 5 = some (11, .sc) := by kernel_rfl
@[simp] theorem fld_45_6 : fld Tryd.prog 45 6 = some (12, .sc) := by kernel_rfl
@[simp] theorem fld_45_7 : fld Tryd.prog 45 7 = some (13, .sc) := by kernel_rfl
@[simp] theorem fld_45_8 : fld Tryd.prog 45 8 = some (14, (.ag 13)) := by kernel_rfl
@[simp] theorem fld_45_9 : fld Tryd.prog 45 9 = some (27, .sc) := by kernel_rfl
@[simp] theorem fld_45_10 : fld Tryd.prog 45 10 = some (28, .sc) := by kernel_rfl
@[simp] theorem fld_45_11 : fld Tryd.prog 45 11 = some (29, (.ag 2)) := by kernel_rfl
@[simp] theorem fld_47_0 : fld Tryd.prog 47 0 = some (0, .sc) := by kernel_rfl
@[simp] theorem fld_47_1 : fld Tryd.prog 47 1 = some (1, (.ag 31)) := by kernel_rfl
@[simp] theorem fld_47_2 : fld Tryd.prog 47 2 = some (32, .sc) := by kernel_rfl
@[simp] theorem fld_47_3 : fld Tryd.prog 47 3 = some (33, .sc) := by kernel_rfl
@[simp] theorem fld_47_4 : fld Tryd.prog 47 4 = some (34, .sc) := by kernel_rfl
@[simp] theorem fld_47_5 : fld Tryd.prog 47 5 = some (35, .sc) := by kernel_rfl
@[simp] theorem fld_47_6 : fld Tryd.prog 47 6 = some (36, .sc) := by kernel_rfl
@[simp] theorem fld_76_0 : fld Tryd.prog 76 0 = some (0, .sc) := by kernel_rfl
@[simp] theorem fld_76_1 : fld Tryd.prog 76 1 = some (1, .sc) := by kernel_rfl
@[simp] theorem fld_86_0 : fld Tryd.prog 86 0 = some (0, .sc) := by kernel_rfl
@[simp] theorem fld_86_1 : fld Tryd.prog 86 1 = some (1, .sc) := by kernel_rfl
@[simp] theorem fld_86_2 : fld Tryd.prog 86 2 = some (2, .sc) := by kernel_rfl
@[simp] theorem fld_86_3 : fld Tryd.prog 86 3 = some (3, .sc) := by kernel_rfl
@[simp] theorem isArr_33 : isArr Tryd.prog 33 = false := by kernel_rfl
@[simp] theorem isArr_37 : isArr Tryd.prog 37 = false := by kernel_rfl
@[simp] theorem isArr_39 : isArr Tryd.prog 39 = false := by kernel_rfl
@[simp] theorem isArr_41 : isArr Tryd.prog 41 = false := by kernel_rfl
@[simp] theorem isArr_43 : isArr Tryd.prog 43 = false := by kernel_rfl
@[simp] theorem isArr_45 : isArr Tryd.prog 45 = false := by kernel_rfl
@[simp] theorem isArr_47 : isArr Tryd.prog 47 = false := by kernel_rfl
@[simp] theorem isArr_55 : isArr Tryd.prog 55 = false := by kernel_rfl
@[simp] theorem isArr_59 : isArr Tryd.prog 59 = false := by kernel_rfl
@[simp] theorem isArr_61 : isArr Tryd.prog 61 = false := by kernel_rfl
@[simp] theorem isArr_76 : isArr Tryd.prog 76 = false := by kernel_rfl
@[simp] theorem isArr_86 : isArr Tryd.prog 86 = false := by kernel_rfl
@[simp] theorem isBld_33 : isBld Tryd.prog 33 = false := by kernel_rfl
@[simp] theorem isBld_37 : isBld Tryd.prog 37 = false := by kernel_rfl
@[simp] theorem isBld_39 : isBld Tryd.prog 39 = false := by kernel_rfl
@[simp] theorem isBld_41 : isBld Tryd.prog 41 = false := by kernel_rfl
@[simp] theorem isBld_43 : isBld Tryd.prog 43 = false := by kernel_rfl
@[simp] theorem isBld_45 : isBld Tryd.prog 45 = false := by kernel_rfl
@[simp] theorem isBld_47 : isBld Tryd.prog 47 = false := by kernel_rfl
@[simp] theorem isBld_55 : isBld Tryd.prog 55 = false := by kernel_rfl
@[simp] theorem isBld_61 : isBld Tryd.prog 61 = false := by kernel_rfl
@[simp] theorem isBld_76 : isBld Tryd.prog 76 = false := by kernel_rfl
@[simp] theorem isBld_86 : isBld Tryd.prog 86 = false := by kernel_rfl
@[simp] theorem isStr_9 : isStr Tryd.prog 9 = true := by kernel_rfl
@[simp] theorem isStr_28 : isStr Tryd.prog 28 = false := by kernel_rfl
@[simp] theorem lnK_9 : lnK Tryd.prog 9 = some .st := by kernel_rfl
@[simp] theorem lnK_22 : lnK Tryd.prog 22 = some .sl := by kernel_rfl
@[simp] theorem lnK_28 : lnK Tryd.prog 28 = some .sl := by kernel_rfl
@[simp] theorem lnK_34 : lnK Tryd.prog 34 = some .sl := by kernel_rfl
@[simp] theorem lnK_35 : lnK Tryd.prog 35 = some .sl := by kernel_rfl
@[simp] theorem plc_33 : plc Tryd.prog 33 = some [(0, 1), (1, 1), (2, 1), (3, 1), (4, 1), (5, 1)] := by kernel_rfl
@[simp] theorem plc_37 : plc Tryd.prog 37 = some [(0, 1), (1, 1)] := by kernel_rfl
@[simp] theorem plc_39 : plc Tryd.prog 39 = some [(0, 1), (1, 1), (2, 1), (3, 1)] := by kernel_rfl
@[simp] theorem plc_41 : plc Tryd.prog 41 = some [(0, 1), (1, 1)] := by kernel_rfl
@[simp] theorem plc_43 : plc Tryd.prog 43 = some [(0, 1), (1, 4), (5, 4), (9, 2), (11, 2)] := by kernel_rfl
@[simp] theorem plc_45 : plc Tryd.prog 45 = some [(0, 1), (1, 1), (2, 1), (3, 6), (9, 2), (11, 1), (12, 1), (13, 1), (14, 13), (27, 1), (28, 1), (29, 2)] := by kernel_rfl
@[simp] theorem plc_47 : plc Tryd.prog 47 = some [(0, 1), (1, 31), (32, 1), (33, 1), (34, 1), (35, 1), (36, 1)] := by kernel_rfl
@[simp] theorem plc_55 : plc Tryd.prog 55 = some [(0, 1), (1, 1), (2, 1)] := by kernel_rfl
@[simp] theorem plc_59 : plc Tryd.prog 59 = some [(0, 1), (1, 1)] := by kernel_rfl
@[simp] theorem plc_61 : plc Tryd.prog 61 = some [(0, 1), (1, 3), (4, 1), (5, 1), (6, 2), (8, 1)] := by kernel_rfl
@[simp] theorem plc_76 : plc Tryd.prog 76 = some [(0, 1), (1, 1)] := by kernel_rfl
@[simp] theorem plc_86 : plc Tryd.prog 86 = some [(0, 1), (1, 1), (2, 1), (3, 1)] := by kernel_rfl
@[simp] theorem srcTy_22 : srcTy Tryd.prog 22 = true := by kernel_rfl
@[simp] theorem srcTy_28 : srcTy Tryd.prog 28 = true := by kernel_rfl
@[simp] theorem srcTy_34 : srcTy Tryd.prog 34 = true := by kernel_rfl
@[simp] theorem srcTy_111 : srcTy Tryd.prog 111 = true := by kernel_rfl
@[simp] theorem tsh_3 : tsh Tryd.prog 3 = some .sc := by kernel_rfl
@[simp] theorem tsh_4 : tsh Tryd.prog 4 = some .sc := by kernel_rfl
@[simp] theorem tsh_9 : tsh Tryd.prog 9 = some .sc := by kernel_rfl
@[simp] theorem tsh_28 : tsh Tryd.prog 28 = some .sc := by kernel_rfl
@[simp] theorem tsh_33 : tsh Tryd.prog 33 = some (.ag 6) := by kernel_rfl
@[simp] theorem tsh_34 : tsh Tryd.prog 34 = some .sc := by kernel_rfl
@[simp] theorem tsh_35 : tsh Tryd.prog 35 = some .sc := by kernel_rfl
@[simp] theorem tsh_37 : tsh Tryd.prog 37 = some (.ag 2) := by kernel_rfl
@[simp] theorem tsh_39 : tsh Tryd.prog 39 = some (.ag 4) := by kernel_rfl
@[simp] theorem tsh_41 : tsh Tryd.prog 41 = some (.ag 2) := by kernel_rfl
@[simp] theorem tsh_43 : tsh Tryd.prog 43 = some (.ag 13) := by kernel_rfl
@[simp] theorem tsh_45 : tsh Tryd.prog 45 = some (.ag 31) := by kernel_rfl
@[simp] theorem tsh_47 : tsh Tryd.prog 47 = some (.ag 37) := by kernel_rfl
@[simp] theorem tsh_55 : tsh Tryd.prog 55 = some (.ag 3) := by kernel_rfl
@[simp] theorem tsh_61 : tsh Tryd.prog 61 = some (.ag 9) := by kernel_rfl
@[simp] theorem tsh_76 : tsh Tryd.prog 76 = some (.ag 2) := by kernel_rfl
@[simp] theorem tsh_86 : tsh Tryd.prog 86 = some (.ag 4) := by kernel_rfl
@[simp] theorem zer_3 : zer Tryd.prog 3 = some (AV.int .i64 0) := by kernel_rfl
@[simp] theorem zer_5 : zer Tryd.prog 5 = some (AV.int .u8 0) := by kernel_rfl
@[simp] theorem zer_9 : zer Tryd.prog 9 = some (AV.str (bs [])) := by kernel_rfl
@[simp] theorem zer_33 : zer Tryd.prog 33 = some (AV.agg [AV.int .i64 0, AV.int .i64 0, AV.int .i64 0, AV.int .i64 0, AV.int .i64 0, AV.int .i64 0]) := by kernel_rfl
@[simp] theorem zer_37 : zer Tryd.prog 37 = some (AV.agg [AV.nilsl, AV.nilsl]) := by kernel_rfl
@[simp] theorem zer_39 : zer Tryd.prog 39 = some (AV.agg [AV.int .i64 0, AV.int .i64 0, AV.int .i64 0, AV.int .i64 0]) := by kernel_rfl
@[simp] theorem zer_41 : zer Tryd.prog 41 = some (AV.agg [AV.int .i64 0, AV.int .i64 0]) := by kernel_rfl
@[simp] theorem zer_43 : zer Tryd.prog 43 = some (AV.agg [AV.int .i64 0, AV.int .i64 0, AV.int .i64 0, AV.int .i64 0, AV.int .i64 0, AV.int .i64 0, AV.int .i64 0, AV.int .i64 0, AV.int .i64 0, AV.int .i64 0, AV.int .i64 0, AV.int .i64 0, AV.int .i64 0]) := by kernel_rfl
@[simp] theorem zer_45 : zer Tryd.prog 45 = some (AV.agg [AV.int .i64 0, AV.int .i64 0, AV.bool false, AV.int .i64 0, AV.int .i64 0, AV.int .i64 0, AV.int .i64 0, AV.int .i64 0, AV.int .i64 0, AV.nilsl, AV.nilsl, AV.bool false, AV.int .i64 0, AV.nilsl, AV.int .i64 0, AV.int .i64 0, AV.int .i64 0, AV.int .i64 0, AV.int .i64 0, AV.int .i64 0, AV.int .i64 0, AV.int .i64 0, AV.int .i64 0, AV.int .i64 0, AV.int .i64 0, AV.int .i64 0, AV.int .i64 0, AV.int .i64 0, AV.int .i64 0, AV.nilsl, AV.nilsl]) := by kernel_rfl
@[simp] theorem zer_47 : zer Tryd.prog 47 = some (AV.agg [AV.int .i64 0, AV.int .i64 0, AV.int .i64 0, AV.bool false, AV.int .i64 0, AV.int .i64 0, AV.int .i64 0, AV.int .i64 0, AV.int .i64 0, AV.int .i64 0, AV.nilsl, AV.nilsl, AV.bool false, AV.int .i64 0, AV.nilsl, AV.int .i64 0, AV.int .i64 0, AV.int .i64 0, AV.int .i64 0, AV.int .i64 0, AV.int .i64 0, AV.int .i64 0, AV.int .i64 0, AV.int .i64 0, AV.int .i64 0, AV.int .i64 0, AV.int .i64 0, AV.int .i64 0, AV.int .i64 0, AV.int .i64 0, AV.nilsl, AV.nilsl, AV.int .i64 0, AV.int .i64 0, AV.int .i64 0, AV.int .i64 0, AV.int .i64 0]) := by kernel_rfl
@[simp] theorem zer_55 : zer Tryd.prog 55 = some (AV.agg [AV.int .i64 0, AV.int .i64 0, AV.nilsl]) := by kernel_rfl
@[simp] theorem zer_59 : zer Tryd.prog 59 = some (AV.agg [AV.int .i64 0, AV.nilsl]) := by kernel_rfl
@[simp] theorem zer_61 : zer Tryd.prog 61 = some (AV.agg [AV.nilsl, AV.int .i64 0, AV.int .i64 0, AV.nilsl, AV.nilsl, AV.nilsl, AV.int .i64 0, AV.nilsl, AV.int .i64 0]) := by kernel_rfl
@[simp] theorem zer_76 : zer Tryd.prog 76 = some (AV.agg [AV.nilsl, AV.bool false]) := by kernel_rfl
@[simp] theorem zer_86 : zer Tryd.prog 86 = some (AV.agg [AV.int .i64 0, AV.int .i64 0, AV.int .i64 0, AV.int .i64 0]) := by kernel_rfl
@[simp] theorem zsP_6_3 : zsP Tryd.prog 6 3 = [0] := by kernel_rfl
@[simp] theorem zsP_6_5 : zsP Tryd.prog 6 5 = [0] := by kernel_rfl
@[simp] theorem zsP_6_9 : zsP Tryd.prog 6 9 = [0] := by kernel_rfl
@[simp] theorem zsP_6_39 : zsP Tryd.prog 6 39 = [0, 0, 0, 0] := by kernel_rfl
@[simp] theorem zsP_6_41 : zsP Tryd.prog 6 41 = [0, 0] := by kernel_rfl
@[simp] theorem zsP_6_47 : zsP Tryd.prog 6 47 = [0, 0, 0, 0, 0, 0, 0, 0, 0, 0, 1, 2, 0, 0, 1, 0, 0, 0, 0, 0, 0, 0, 0, 0, 0, 0, 0, 0, 0, 0, 1, 2, 0, 0, 0, 0, 0] := by kernel_rfl
def E0 : FuncId → Md := fun f => (lkp [(5, { keep := true, lend := true }), (7, { own := true }), (14, { lend := true }), (15, { own := true, keep := true }), (18, { own := true }), (19, { own := true }), (28, { own := true, keep := true }), (34, { keep := true, lend := true }), (39, { own := true }), (40, { own := true, keep := true }), (41, { own := true }), (55, { own := true }), (56, { keep := true, lend := true }), (57, { own := true }), (68, { keep := true, lend := true })] f).getD {}
@[simp] theorem E0_3 : E0 3 = {} := rfl
@[simp] theorem E0_4 : E0 4 = {} := rfl
@[simp] theorem E0_5 : E0 5 = { keep := true, lend := true } := rfl
@[simp] theorem E0_6 : E0 6 = {} := rfl
@[simp] theorem E0_7 : E0 7 = { own := true } := rfl
@[simp] theorem E0_8 : E0 8 = {} := rfl
@[simp] theorem E0_9 : E0 9 = {} := rfl
@[simp] theorem E0_10 : E0 10 = {} := rfl
@[simp] theorem E0_11 : E0 11 = {} := rfl
@[simp] theorem E0_12 : E0 12 = {} := rfl
@[simp] theorem E0_13 : E0 13 = {} := rfl
@[simp] theorem E0_14 : E0 14 = { lend := true } := rfl
@[simp] theorem E0_15 : E0 15 = { own := true, keep := true } := rfl
@[simp] theorem E0_16 : E0 16 = {} := rfl
@[simp] theorem E0_17 : E0 17 = {} := rfl
@[simp] theorem E0_18 : E0 18 = { own := true } := rfl
@[simp] theorem E0_19 : E0 19 = { own := true } := rfl
@[simp] theorem E0_20 : E0 20 = {} := rfl
@[simp] theorem E0_21 : E0 21 = {} := rfl
@[simp] theorem E0_22 : E0 22 = {} := rfl
@[simp] theorem E0_23 : E0 23 = {} := rfl
@[simp] theorem E0_24 : E0 24 = {} := rfl
@[simp] theorem E0_25 : E0 25 = {} := rfl
@[simp] theorem E0_26 : E0 26 = {} := rfl
@[simp] theorem E0_27 : E0 27 = {} := rfl
@[simp] theorem E0_28 : E0 28 = { own := true, keep := true } := rfl
@[simp] theorem E0_29 : E0 29 = {} := rfl
@[simp] theorem E0_30 : E0 30 = {} := rfl
@[simp] theorem E0_31 : E0 31 = {} := rfl
@[simp] theorem E0_32 : E0 32 = {} := rfl
@[simp] theorem E0_33 : E0 33 = {} := rfl
@[simp] theorem E0_34 : E0 34 = { keep := true, lend := true } := rfl
@[simp] theorem E0_35 : E0 35 = {} := rfl
@[simp] theorem E0_36 : E0 36 = {} := rfl
@[simp] theorem E0_39 : E0 39 = { own := true } := rfl
@[simp] theorem E0_40 : E0 40 = { own := true, keep := true } := rfl
@[simp] theorem E0_41 : E0 41 = { own := true } := rfl
@[simp] theorem E0_42 : E0 42 = {} := rfl
@[simp] theorem E0_43 : E0 43 = {} := rfl
@[simp] theorem E0_44 : E0 44 = {} := rfl
@[simp] theorem E0_45 : E0 45 = {} := rfl
@[simp] theorem E0_46 : E0 46 = {} := rfl
@[simp] theorem E0_47 : E0 47 = {} := rfl
@[simp] theorem E0_48 : E0 48 = {} := rfl
@[simp] theorem E0_49 : E0 49 = {} := rfl
@[simp] theorem E0_54 : E0 54 = {} := rfl
@[simp] theorem E0_55 : E0 55 = { own := true } := rfl
@[simp] theorem E0_56 : E0 56 = { keep := true, lend := true } := rfl
@[simp] theorem E0_57 : E0 57 = { own := true } := rfl
@[simp] theorem E0_58 : E0 58 = {} := rfl
@[simp] theorem E0_59 : E0 59 = {} := rfl
@[simp] theorem E0_60 : E0 60 = {} := rfl
@[simp] theorem E0_61 : E0 61 = {} := rfl
@[simp] theorem E0_62 : E0 62 = {} := rfl
@[simp] theorem E0_63 : E0 63 = {} := rfl
@[simp] theorem E0_68 : E0 68 = { keep := true, lend := true } := rfl
@[simp] theorem E0_69 : E0 69 = {} := rfl
@[simp] theorem E0_70 : E0 70 = {} := rfl
@[simp] theorem E0_71 : E0 71 = {} := rfl
@[simp] theorem E0_72 : E0 72 = {} := rfl
@[simp] theorem E0_78 : E0 78 = {} := rfl
@[simp] theorem E0_79 : E0 79 = {} := rfl
@[simp] theorem E0_80 : E0 80 = {} := rfl
@[simp] theorem E0_83 : E0 83 = {} := rfl
structure TPoint where
  x : Int
  y : Int
@[simp] def ePoint (a : TPoint) : AV := .agg [AV.int .i64 a.x, AV.int .i64 a.y]
@[simp] theorem wid_ePoint : wid ePoint 2 = True := eq_true ⟨by simp⟩
@[simp] theorem eta_TPoint (a : TPoint) : TPoint.mk a.x a.y = a := rfl
theorem inj_ePoint : Inj ePoint := by
  constructor
  rintro ⟨x0, x1⟩ ⟨y0, y1⟩ h
  simp at h
  simp [h]
@[simp] theorem Inj_ePoint : Inj ePoint = True := eq_true inj_ePoint
@[simp] theorem nid_ePoint : nid ePoint = True := eq_true ⟨fun a => by simp⟩
@[simp] theorem pln_ePoint : pln ePoint = True := eq_true ⟨fun a => by simp⟩
structure TMat where
  a : Int
  b : Int
  c : Int
  d : Int
  e : Int
  f : Int
@[simp] def eMat (a : TMat) : AV := .agg [AV.int .i64 a.a, AV.int .i64 a.b, AV.int .i64 a.c, AV.int .i64 a.d, AV.int .i64 a.e, AV.int .i64 a.f]
@[simp] theorem wid_eMat : wid eMat 6 = True := eq_true ⟨by simp⟩
@[simp] theorem eta_TMat (a : TMat) : TMat.mk a.a a.b a.c a.d a.e a.f = a := rfl
theorem inj_eMat : Inj eMat := by
  constructor
  rintro ⟨x0, x1, x2, x3, x4, x5⟩ ⟨y0, y1, y2, y3, y4, y5⟩ h
  simp at h
  simp [h]
@[simp] theorem Inj_eMat : Inj eMat = True := eq_true inj_eMat
@[simp] theorem nid_eMat : nid eMat = True := eq_true ⟨fun a => by simp⟩
@[simp] theorem pln_eMat : pln eMat = True := eq_true ⟨fun a => by simp⟩
structure TPath where
  verbs : List Int
  points : List TPoint
@[simp] def ePath (a : TPath) : AV := .agg [AV.fsl (List.map (AV.int .i64) a.verbs), AV.fsl (List.map ePoint a.points)]
@[simp] theorem wid_ePath : wid ePath 2 = True := eq_true ⟨by simp⟩
@[simp] theorem eta_TPath (a : TPath) : TPath.mk a.verbs a.points = a := rfl
theorem inj_ePath : Inj ePath := by
  constructor
  rintro ⟨x0, x1⟩ ⟨y0, y1⟩ h
  simp at h
  simp [h]
@[simp] theorem Inj_ePath : Inj ePath = True := eq_true inj_ePath
@[simp] theorem nid_ePath : nid ePath = True := eq_true ⟨fun a => by simp⟩
structure TColor where
  r : Int
  g : Int
  b : Int
  a : Int
@[simp] def eColor (a : TColor) : AV := .agg [AV.int .i64 a.r, AV.int .i64 a.g, AV.int .i64 a.b, AV.int .i64 a.a]
@[simp] theorem wid_eColor : wid eColor 4 = True := eq_true ⟨by simp⟩
@[simp] theorem eta_TColor (a : TColor) : TColor.mk a.r a.g a.b a.a = a := rfl
theorem inj_eColor : Inj eColor := by
  constructor
  rintro ⟨x0, x1, x2, x3⟩ ⟨y0, y1, y2, y3⟩ h
  simp at h
  simp [h]
@[simp] theorem Inj_eColor : Inj eColor = True := eq_true inj_eColor
@[simp] theorem nid_eColor : nid eColor = True := eq_true ⟨fun a => by simp⟩
@[simp] theorem pln_eColor : pln eColor = True := eq_true ⟨fun a => by simp⟩
structure TPaint where
  kind : Int
  first : TColor
  last : TColor
  from_ : TPoint
  to : TPoint
@[simp] def ePaint (a : TPaint) : AV := .agg [AV.int .i64 a.kind, AV.int .i64 a.first.r, AV.int .i64 a.first.g, AV.int .i64 a.first.b, AV.int .i64 a.first.a, AV.int .i64 a.last.r, AV.int .i64 a.last.g, AV.int .i64 a.last.b, AV.int .i64 a.last.a, AV.int .i64 a.from_.x, AV.int .i64 a.from_.y, AV.int .i64 a.to.x, AV.int .i64 a.to.y]
@[simp] theorem wid_ePaint : wid ePaint 13 = True := eq_true ⟨by simp⟩
@[simp] theorem eta_TPaint (a : TPaint) : TPaint.mk a.kind a.first a.last a.from_ a.to = a := rfl
theorem inj_ePaint : Inj ePaint := by
  constructor
  rintro ⟨x0, ⟨x1, x2, x3, x4⟩, ⟨x5, x6, x7, x8⟩, ⟨x9, x10⟩, ⟨x11, x12⟩⟩ ⟨y0, ⟨y1, y2, y3, y4⟩, ⟨y5, y6, y7, y8⟩, ⟨y9, y10⟩, ⟨y11, y12⟩⟩ h
  simp at h
  simp [h]
@[simp] theorem Inj_ePaint : Inj ePaint = True := eq_true inj_ePaint
@[simp] theorem nid_ePaint : nid ePaint = True := eq_true ⟨fun a => by simp⟩
@[simp] theorem pln_ePaint : pln ePaint = True := eq_true ⟨fun a => by simp⟩
structure TNode where
  id : Int
  parent : Int
  group : Bool
  mat : TMat
  path : TPath
  even : Bool
  width : Int
  dashes : List Int
  paint : TPaint
  mode : Int
  fade : Int
  clip : TPath
@[simp] def eNode (a : TNode) : AV := .agg [AV.int .i64 a.id, AV.int .i64 a.parent, AV.bool a.group, AV.int .i64 a.mat.a, AV.int .i64 a.mat.b, AV.int .i64 a.mat.c, AV.int .i64 a.mat.d, AV.int .i64 a.mat.e, AV.int .i64 a.mat.f, AV.fsl (List.map (AV.int .i64) a.path.verbs), AV.fsl (List.map ePoint a.path.points), AV.bool a.even, AV.int .i64 a.width, AV.fsl (List.map (AV.int .i64) a.dashes), AV.int .i64 a.paint.kind, AV.int .i64 a.paint.first.r, AV.int .i64 a.paint.first.g, AV.int .i64 a.paint.first.b, AV.int .i64 a.paint.first.a, AV.int .i64 a.paint.last.r, AV.int .i64 a.paint.last.g, AV.int .i64 a.paint.last.b, AV.int .i64 a.paint.last.a, AV.int .i64 a.paint.from_.x, AV.int .i64 a.paint.from_.y, AV.int .i64 a.paint.to.x, AV.int .i64 a.paint.to.y, AV.int .i64 a.mode, AV.int .i64 a.fade, AV.fsl (List.map (AV.int .i64) a.clip.verbs), AV.fsl (List.map ePoint a.clip.points)]
@[simp] theorem wid_eNode : wid eNode 31 = True := eq_true ⟨by simp⟩
@[simp] theorem eta_TNode (a : TNode) : TNode.mk a.id a.parent a.group a.mat a.path a.even a.width a.dashes a.paint a.mode a.fade a.clip = a := rfl
theorem inj_eNode : Inj eNode := by
  constructor
  rintro ⟨x0, x1, x2, ⟨x3, x4, x5, x6, x7, x8⟩, ⟨x9, x10⟩, x11, x12, x13, ⟨x14, ⟨x15, x16, x17, x18⟩, ⟨x19, x20, x21, x22⟩, ⟨x23, x24⟩, ⟨x25, x26⟩⟩, x27, x28, ⟨x29, x30⟩⟩ ⟨y0, y1, y2, ⟨y3, y4, y5, y6, y7, y8⟩, ⟨y9, y10⟩, y11, y12, y13, ⟨y14, ⟨y15, y16, y17, y18⟩, ⟨y19, y20, y21, y22⟩, ⟨y23, y24⟩, ⟨y25, y26⟩⟩, y27, y28, ⟨y29, y30⟩⟩ h
  simp at h
  simp [h]
@[simp] theorem Inj_eNode : Inj eNode = True := eq_true inj_eNode
@[simp] theorem nid_eNode : nid eNode = True := eq_true ⟨fun a => by simp⟩
structure TDeed where
  kind : Int
  node : TNode
  id : Int
  parent : Int
  behind : Int
  x : Int
  y : Int
@[simp] def eDeed (a : TDeed) : AV := .agg [AV.int .i64 a.kind, AV.int .i64 a.node.id, AV.int .i64 a.node.parent, AV.bool a.node.group, AV.int .i64 a.node.mat.a, AV.int .i64 a.node.mat.b, AV.int .i64 a.node.mat.c, AV.int .i64 a.node.mat.d, AV.int .i64 a.node.mat.e, AV.int .i64 a.node.mat.f, AV.fsl (List.map (AV.int .i64) a.node.path.verbs), AV.fsl (List.map ePoint a.node.path.points), AV.bool a.node.even, AV.int .i64 a.node.width, AV.fsl (List.map (AV.int .i64) a.node.dashes), AV.int .i64 a.node.paint.kind, AV.int .i64 a.node.paint.first.r, AV.int .i64 a.node.paint.first.g, AV.int .i64 a.node.paint.first.b, AV.int .i64 a.node.paint.first.a, AV.int .i64 a.node.paint.last.r, AV.int .i64 a.node.paint.last.g, AV.int .i64 a.node.paint.last.b, AV.int .i64 a.node.paint.last.a, AV.int .i64 a.node.paint.from_.x, AV.int .i64 a.node.paint.from_.y, AV.int .i64 a.node.paint.to.x, AV.int .i64 a.node.paint.to.y, AV.int .i64 a.node.mode, AV.int .i64 a.node.fade, AV.fsl (List.map (AV.int .i64) a.node.clip.verbs), AV.fsl (List.map ePoint a.node.clip.points), AV.int .i64 a.id, AV.int .i64 a.parent, AV.int .i64 a.behind, AV.int .i64 a.x, AV.int .i64 a.y]
@[simp] theorem wid_eDeed : wid eDeed 37 = True := eq_true ⟨by simp⟩
@[simp] theorem eta_TDeed (a : TDeed) : TDeed.mk a.kind a.node a.id a.parent a.behind a.x a.y = a := rfl
theorem inj_eDeed : Inj eDeed := by
  constructor
  rintro ⟨x0, ⟨x1, x2, x3, ⟨x4, x5, x6, x7, x8, x9⟩, ⟨x10, x11⟩, x12, x13, x14, ⟨x15, ⟨x16, x17, x18, x19⟩, ⟨x20, x21, x22, x23⟩, ⟨x24, x25⟩, ⟨x26, x27⟩⟩, x28, x29, ⟨x30, x31⟩⟩, x32, x33, x34, x35, x36⟩ ⟨y0, ⟨y1, y2, y3, ⟨y4, y5, y6, y7, y8, y9⟩, ⟨y10, y11⟩, y12, y13, y14, ⟨y15, ⟨y16, y17, y18, y19⟩, ⟨y20, y21, y22, y23⟩, ⟨y24, y25⟩, ⟨y26, y27⟩⟩, y28, y29, ⟨y30, y31⟩⟩, y32, y33, y34, y35, y36⟩ h
  simp at h
  simp [h]
@[simp] theorem Inj_eDeed : Inj eDeed = True := eq_true inj_eDeed
@[simp] theorem nid_eDeed : nid eDeed = True := eq_true ⟨fun a => by simp⟩
structure TBox where
  x0 : Int
  y0 : Int
  x1 : Int
  y1 : Int
@[simp] def eBox (a : TBox) : AV := .agg [AV.int .i64 a.x0, AV.int .i64 a.y0, AV.int .i64 a.x1, AV.int .i64 a.y1]
@[simp] theorem wid_eBox : wid eBox 4 = True := eq_true ⟨by simp⟩
@[simp] theorem eta_TBox (a : TBox) : TBox.mk a.x0 a.y0 a.x1 a.y1 = a := rfl
theorem inj_eBox : Inj eBox := by
  constructor
  rintro ⟨x0, x1, x2, x3⟩ ⟨y0, y1, y2, y3⟩ h
  simp at h
  simp [h]
@[simp] theorem Inj_eBox : Inj eBox = True := eq_true inj_eBox
@[simp] theorem nid_eBox : nid eBox = True := eq_true ⟨fun a => by simp⟩
@[simp] theorem pln_eBox : pln eBox = True := eq_true ⟨fun a => by simp⟩
structure TSurface where
  w : Int
  h : Int
  pix : List TColor
@[simp] def eSurface (a : TSurface) : AV := .agg [AV.int .i64 a.w, AV.int .i64 a.h, AV.fsl (List.map eColor a.pix)]
@[simp] theorem wid_eSurface : wid eSurface 3 = True := eq_true ⟨by simp⟩
@[simp] theorem eta_TSurface (a : TSurface) : TSurface.mk a.w a.h a.pix = a := rfl
theorem inj_eSurface : Inj eSurface := by
  constructor
  rintro ⟨x0, x1, x2⟩ ⟨y0, y1, y2⟩ h
  simp at h
  simp [h]
@[simp] theorem Inj_eSurface : Inj eSurface = True := eq_true inj_eSurface
@[simp] theorem nid_eSurface : nid eSurface = True := eq_true ⟨fun a => by simp⟩
structure TScene where
  nodes : List TNode
@[simp] def eScene (a : TScene) : AV := .agg [AV.fsl (List.map eNode a.nodes)]
@[simp] theorem wid_eScene : wid eScene 1 = True := eq_true ⟨by simp⟩
@[simp] theorem eta_TScene (a : TScene) : TScene.mk a.nodes = a := rfl
theorem inj_eScene : Inj eScene := by
  constructor
  rintro ⟨x0⟩ ⟨y0⟩ h
  simp at h
  simp [h]
@[simp] theorem Inj_eScene : Inj eScene = True := eq_true inj_eScene
@[simp] theorem nid_eScene : nid eScene = True := eq_true ⟨fun a => by simp⟩
structure TMask where
  box : TBox
  bits : List Int
@[simp] def eMask (a : TMask) : AV := .agg [AV.int .i64 a.box.x0, AV.int .i64 a.box.y0, AV.int .i64 a.box.x1, AV.int .i64 a.box.y1, AV.fsl (List.map (AV.int .i64) a.bits)]
@[simp] theorem wid_eMask : wid eMask 5 = True := eq_true ⟨by simp⟩
@[simp] theorem eta_TMask (a : TMask) : TMask.mk a.box a.bits = a := rfl
theorem inj_eMask : Inj eMask := by
  constructor
  rintro ⟨⟨x0, x1, x2, x3⟩, x4⟩ ⟨⟨y0, y1, y2, y3⟩, y4⟩ h
  simp at h
  simp [h]
@[simp] theorem Inj_eMask : Inj eMask = True := eq_true inj_eMask
@[simp] theorem nid_eMask : nid eMask = True := eq_true ⟨fun a => by simp⟩
structure TKept where
  id : Int
  mask : TMask
@[simp] def eKept (a : TKept) : AV := .agg [AV.int .i64 a.id, AV.int .i64 a.mask.box.x0, AV.int .i64 a.mask.box.y0, AV.int .i64 a.mask.box.x1, AV.int .i64 a.mask.box.y1, AV.fsl (List.map (AV.int .i64) a.mask.bits)]
@[simp] theorem wid_eKept : wid eKept 6 = True := eq_true ⟨by simp⟩
@[simp] theorem eta_TKept (a : TKept) : TKept.mk a.id a.mask = a := rfl
theorem inj_eKept : Inj eKept := by
  constructor
  rintro ⟨x0, ⟨⟨x1, x2, x3, x4⟩, x5⟩⟩ ⟨y0, ⟨⟨y1, y2, y3, y4⟩, y5⟩⟩ h
  simp at h
  simp [h]
@[simp] theorem Inj_eKept : Inj eKept = True := eq_true inj_eKept
@[simp] theorem nid_eKept : nid eKept = True := eq_true ⟨fun a => by simp⟩
structure TCache where
  most : Int
  list : List TKept
@[simp] def eCache (a : TCache) : AV := .agg [AV.int .i64 a.most, AV.fsl (List.map eKept a.list)]
@[simp] theorem wid_eCache : wid eCache 2 = True := eq_true ⟨by simp⟩
@[simp] theorem eta_TCache (a : TCache) : TCache.mk a.most a.list = a := rfl
theorem inj_eCache : Inj eCache := by
  constructor
  rintro ⟨x0, x1⟩ ⟨y0, y1⟩ h
  simp at h
  simp [h]
@[simp] theorem Inj_eCache : Inj eCache = True := eq_true inj_eCache
@[simp] theorem nid_eCache : nid eCache = True := eq_true ⟨fun a => by simp⟩
structure TEngine where
  scene : TScene
  frame : TSurface
  dirty : List TBox
  stamps : List Int
  cache : TCache
  painted : Int
@[simp] def eEngine (a : TEngine) : AV := .agg [AV.fsl (List.map eNode a.scene.nodes), AV.int .i64 a.frame.w, AV.int .i64 a.frame.h, AV.fsl (List.map eColor a.frame.pix), AV.fsl (List.map eBox a.dirty), AV.fsl (List.map (AV.int .i64) a.stamps), AV.int .i64 a.cache.most, AV.fsl (List.map eKept a.cache.list), AV.int .i64 a.painted]
@[simp] theorem wid_eEngine : wid eEngine 9 = True := eq_true ⟨by simp⟩
@[simp] theorem eta_TEngine (a : TEngine) : TEngine.mk a.scene a.frame a.dirty a.stamps a.cache a.painted = a := rfl
theorem inj_eEngine : Inj eEngine := by
  constructor
  rintro ⟨⟨x0⟩, ⟨x1, x2, x3⟩, x4, x5, ⟨x6, x7⟩, x8⟩ ⟨⟨y0⟩, ⟨y1, y2, y3⟩, y4, y5, ⟨y6, y7⟩, y8⟩ h
  simp at h
  simp [h]
@[simp] theorem Inj_eEngine : Inj eEngine = True := eq_true inj_eEngine
@[simp] theorem nid_eEngine : nid eEngine = True := eq_true ⟨fun a => by simp⟩
structure TLineReader where
  parts : List (List UInt8)
  bad : Bool
@[simp] def eLineReader (a : TLineReader) : AV := .agg [AV.fsl (List.map eS a.parts), AV.bool a.bad]
@[simp] theorem wid_eLineReader : wid eLineReader 2 = True := eq_true ⟨by simp⟩
@[simp] theorem eta_TLineReader (a : TLineReader) : TLineReader.mk a.parts a.bad = a := rfl
theorem inj_eLineReader : Inj eLineReader := by
  constructor
  rintro ⟨x0, x1⟩ ⟨y0, y1⟩ h
  simp at h
  simp [h]
@[simp] theorem Inj_eLineReader : Inj eLineReader = True := eq_true inj_eLineReader
@[simp] theorem nid_eLineReader : nid eLineReader = True := eq_true ⟨fun a => by simp⟩
end Go.Proofs.YtapchldnmkfkoabDoor.Am
