import Derived.Test.YtokobfpimdadmaaGreatAmNm
import Derived.Test.YtokobfpimdadmaaGreatProg
import Derived.KernelRfl
set_option linter.unusedVariables false
set_option linter.unusedSimpArgs false
set_option linter.unusedSectionVars false
namespace Go.Proofs.YtokobfpimdadmaaGreat.Am
open Go Go.Proofs
set_option maxRecDepth 100000
set_option linter.unusedSimpArgs false
@[simp] theorem art_22 : art Tryz.prog 22 = none := by kernel_rfl
@[simp] theorem art_25 : art Tryz.prog 25 = none := by kernel_rfl
@[simp] theorem art_28 : art Tryz.prog 28 = none := by kernel_rfl
@[simp] theorem art_29 : art Tryz.prog 29 = none := by kernel_rfl
@[simp] theorem art_30 : art Tryz.prog 30 = none := by kernel_rfl
@[simp] theorem art_37 : art Tryz.prog 37 = none := by kernel_rfl
@[simp] theorem art_40 : art Tryz.prog 40 = none := by kernel_rfl
@[simp] theorem art_43 : art Tryz.prog 43 = none := by kernel_rfl
@[simp] theorem art_44 : art Tryz.prog 44 = none := by kernel_rfl
@[simp] theorem art_76 : art Tryz.prog 76 = none := by kernel_rfl
@[simp] theorem art_80 : art Tryz.prog 80 = none := by kernel_rfl
@[simp] theorem art_82 : art Tryz.prog 82 = none := by kernel_rfl
@[simp] theorem art_84 : art Tryz.prog 84 = none := by kernel_rfl
@[simp] theorem art_92 : art Tryz.prog 92 = none := by kernel_rfl
@[simp] theorem art_111 : art Tryz.prog 111 = none := by kernel_rfl
@[simp] theorem art_149 : art Tryz.prog 149 = some (4, .sc) := by kernel_rfl
@[simp] theorem elt_22 : elt Tryz.prog 22 = some (119, (.ag 31), 328) := by kernel_rfl
@[simp] theorem elt_25 : elt Tryz.prog 25 = some (114, (.ag 4), 32) := by kernel_rfl
@[simp] theorem elt_28 : elt Tryz.prog 28 = some (101, (.ag 4), 32) := by kernel_rfl
@[simp] theorem elt_29 : elt Tryz.prog 29 = some (3, .sc, 8) := by kernel_rfl
@[simp] theorem elt_30 : elt Tryz.prog 30 = some (124, (.ag 6), 64) := by kernel_rfl
@[simp] theorem elt_37 : elt Tryz.prog 37 = some (86, (.ag 31), 328) := by kernel_rfl
@[simp] theorem elt_40 : elt Tryz.prog 40 = some (80, (.ag 4), 32) := by kernel_rfl
@[simp] theorem elt_43 : elt Tryz.prog 43 = some (92, (.ag 4), 32) := by kernel_rfl
@[simp] theorem elt_44 : elt Tryz.prog 44 = some (96, (.ag 6), 64) := by kernel_rfl
@[simp] theorem elt_76 : elt Tryz.prog 76 = some (82, (.ag 2), 16) := by kernel_rfl
@[simp] theorem elt_111 : elt Tryz.prog 111 = some (115, (.ag 2), 16) := by kernel_rfl
@[simp] theorem eqk_3 : eqk Tryz.prog 3 = some (false, [.i]) := by kernel_rfl
@[simp] theorem eqk_4 : eqk Tryz.prog 4 = some (false, [.b]) := by kernel_rfl
@[simp] theorem eqk_80 : eqk Tryz.prog 80 = some (true, [.i, .i, .i, .i]) := by kernel_rfl
@[simp] theorem eqk_82 : eqk Tryz.prog 82 = some (true, [.i, .i]) := by kernel_rfl
@[simp] theorem eqk_84 : eqk Tryz.prog 84 = some (true, [.i, .i, .i, .i, .i, .i, .i, .i, .i, .i, .i, .i, .i]) := by kernel_rfl
@[simp] theorem eqk_92 : eqk Tryz.prog 92 = some (true, [.i, .i, .i, .i]) := by kernel_rfl
@[simp] theorem fld_24_0 : fld Tryz.prog 24 0 = some (0, .sc) := by kernel_rfl
@[simp] theorem fld_27_0 : fld Tryz.prog 27 0 = some (0, .sc) := by kernel_rfl
@[simp] theorem fld_27_1 : fld Tryz.prog 27 1 = some (1, .sc) := by kernel_rfl
@[simp] theorem fld_27_2 : fld Tryz.prog 27 2 = some (2, .sc) := by kernel_rfl
@[simp] theorem fld_32_0 : fld Tryz.prog 32 0 = some (0, .sc) := by kernel_rfl
@[simp] theorem fld_32_1 : fld Tryz.prog 32 1 = some (1, .sc) := by kernel_rfl
@[simp] theorem fld_34_0 : fld Tryz.prog 34 0 = some (0, (.ag 1)) := by kernel_rfl
@[simp] theorem fld_34_1 : fld Tryz.prog 34 1 = some (1, (.ag 3)) := by kernel_rfl
@[simp] theorem fld_34_2 : fld Tryz.prog 34 2 = some (4, .sc) := by kernel_rfl
@[simp] theorem fld_34_3 : fld Tryz.prog 34 3 = some (5, .sc) := by kernel_rfl
@[simp] theorem fld_34_4 : fld Tryz.prog 34 4 = some (6, (.ag 2)) := by kernel_rfl
@[simp] theorem fld_34_5 : fld Tryz.prog 34 5 = some (8, .sc) := by kernel_rfl
@[simp] theorem fld_39_0 : fld Tryz.prog 39 0 = some (0, .sc) := by kernel_rfl
@[simp] theorem fld_42_0 : fld Tryz.prog 42 0 = some (0, .sc) := by kernel_rfl
@[simp] theorem fld_42_1 : fld Tryz.prog 42 1 = some (1, .sc) := by kernel_rfl
@[simp] theorem fld_42_2 : fld Tryz.prog 42 2 = some (2, .sc) := by kernel_rfl
@[simp] theorem fld_46_0 : fld Tryz.prog 46 0 = some (0, .sc) := by kernel_rfl
@[simp] theorem fld_46_1 : fld Tryz.prog 46 1 = some (1, .sc) := by kernel_rfl
@[simp] theorem fld_48_0 : fld Tryz.prog 48 0 = some (0, (.ag 1)) := by kernel_rfl
@[simp] theorem fld_48_1 : fld Tryz.prog 48 1 = some (1, (.ag 3)) := by kernel_rfl
@[simp] theorem fld_48_2 : fld Tryz.prog 48 2 = some (4, .sc) := by kernel_rfl
@[simp] theorem fld_48_3 : fld Tryz.prog 48 3 = some (5, .sc) := by kernel_rfl
@[simp] theorem fld_48_4 : fld Tryz.prog 48 4 = some (6, (.ag 2)) := by kernel_rfl
@[simp] theorem fld_48_5 : fld Tryz.prog 48 5 = some (8, .sc) := by kernel_rfl
@[simp] theorem fld_75_0 : fld Tryz.prog 75 0 = some (0, .sc) := by kernel_rfl
@[simp] theorem fld_75_1 : fld Tryz.prog 75 1 = some (1, .sc) := by kernel_rfl
@[simp] theorem fld_75_2 : fld Tryz.prog 75 2 = some (2, .sc) := by kernel_rfl
@[simp] theorem fld_75_3 : fld Tryz.prog 75 3 = some (3, .sc) := by kernel_rfl
@[simp] theorem fld_75_4 : fld Tryz.prog 75 4 = some (4, .sc) := by kernel_rfl
@[simp] theorem fld_75_5 : fld Tryz.prog 75 5 = some (5, .sc) := by kernel_rfl
@[simp] theorem fld_78_0 : fld Tryz.prog 78 0 = some (0, .sc) := by kernel_rfl
@[simp] theorem fld_78_1 : fld Tryz.prog 78 1 = some (1, .sc) := by kernel_rfl
@[simp] theorem fld_80_0 : fld Tryz.prog 80 0 = some (0, .sc) := by kernel_rfl
@[simp] theorem fld_80_1 : fld Tryz.prog 80 1 = some (1, .sc) := by kernel_rfl
@[simp] theorem fld_80_2 : fld Tryz.prog 80 2 = some (2, .sc) := by kernel_rfl
@[simp] theorem fld_80_3 : fld Tryz.prog 80 3 = some (3, .sc) := by kernel_rfl
@[simp] theorem fld_82_0 : fld Tryz.prog 82 0 = some (0, .sc) := by kernel_rfl
@[simp] theorem fld_82_1 : fld Tryz.prog 82 1 = some (1, .sc) := by kernel_rfl
@[simp] theorem fld_84_0 : fld Tryz.prog 84 0 = some (0, .sc) := by kernel_rfl
@[simp] theorem fld_84_1 : fld Tryz.prog 84 1 = some (1, (.ag 4)) := by kernel_rfl
@[simp] theorem fld_84_2 : fld Tryz.prog 84 2 = some (5, (.ag 4)) := by kernel_rfl
@[simp] theorem fld_84_3 : fld Tryz.prog 84 3 = some (9, (.ag 2)) := by kernel_rfl
@[simp] theorem fld_84_4 : fld Tryz.prog 84 4 = some (11, (.ag 2)) := by kernel_rfl
@[simp] theorem fld_86_0 : fld Tryz.prog 86 0 = some (0, .sc) := by kernel_rfl
@[simp] theorem fld_86_1 : fld Tryz.prog 86 1 = some (1, .sc) := by kernel_rfl
@[simp] theorem fld_86_2 : fld Tryz.prog 86 2 = some (2, .sc) := by kernel_rfl
@[simp] theorem fld_86_3 : fld Tryz.prog 86 3 = some (3, (.ag 6)) := by kernel_rfl
@[simp] theorem fld_86_4 : fld Tryz.prog 86 4 = some (9, (.ag 2)) := by kernel_rfl
@[simp] theorem fld_86_5 : fld Tryz.prog 86 5 = some (11, .sc) := by kernel_rfl
@[simp] theorem fld_86_6 : fld Tryz.prog 86 6 = some (12, .sc) := by kernel_rfl
@[simp] theorem fld_86_7 : fld Tryz.prog 86 7 = some (13, .sc) := by kernel_rfl
@[simp] theorem fld_86_8 : fld Tryz.prog 86 8 = some (14, (.ag 13)) := by kernel_rfl
@[simp] theorem fld_86_9 : fld Tryz.prog 86 9 = some (27, .sc) := by kernel_rfl
@[simp] theorem fld_86_10 : fld Tryz.prog 86 10 = some (28, .sc) := by kernel_rfl
@[simp] theorem fld_86_11 : fld Tryz.prog 86 11 = some (29, (.ag 2)) := by kernel_rfl
@[simp] theorem fld_92_0 : fld Tryz.prog 92 0 = some (0, .sc) := by kernel_rfl
@[simp] theorem fld_92_1 : fld Tryz.prog 92 1 = some (1, .sc) := by kernel_rfl
@[simp] theorem fld_92_2 : fld Tryz.prog 92 2 = some (2, .sc) := by kernel_rfl
@[simp] theorem fld_92_3 : fld Tryz.prog 92 3 = some (3, .sc) := by kernel_rfl
@[simp] theorem fld_94_0 : fld Tryz.prog 94 0 = some (0, (.ag 4)) := by kernel_rfl
@[simp] theorem fld_94_1 : fld Tryz.prog 94 1 = some (4, .sc) := by kernel_rfl
@[simp] theorem fld_96_0 : fld Tryz.prog 96 0 = some (0, .sc) := by kernel_rfl
@[simp] theorem fld_96_1 : fld Tryz.prog 96 1 = some (1, (.ag 5)) := by kernel_rfl
@[simp] theorem fld_101_0 : fld Tryz.prog 101 0 = some (0, .sc) := by kernel_rfl
@[simp] theorem fld_101_1 : fld Tryz.prog 101 1 = some (1, .sc) := by kernel_rfl
@[simp] theorem fld_101_2 : fld Tryz.prog 101 2 = some (2, .sc) := by kernel_rfl
@[simp] theorem fld_101_3 : fld Tryz.prog 101 3 = some (3, .sc) := by kernel_rfl
@[simp] theorem fld_110_0 : fld Tryz.prog 110 0 = some (0, .sc) := by kernel_rfl
@[simp] theorem fld_110_1 : fld Tryz.prog 110 1 = some (1, .sc) := by kernel_rfl
@[simp] theorem fld_110_2 : fld Tryz.prog 110 2 = some (2, .sc) := by kernel_rfl
@[simp] theorem fld_110_3 : fld Tryz.prog 110 3 = some (3, .sc) := by kernel_rfl
@[simp] theorem fld_110_4 : fld Tryz.prog 110 4 = some (4, .sc) := by kernel_rfl
@[simp] theorem fld_110_5 : fld Tryz.prog 110 5 = some (5, .sc) := by kernel_rfl
@[simp] theorem fld_113_0 : fld Tryz.prog 113 0 = some (0, .sc) := by kernel_rfl
@[simp] theorem fld_113_1 : fld Tryz.prog 113 1 = some (1, .sc) := by kernel_rfl
@[simp] theorem fld_114_0 : fld Tryz.prog 114 0 = some (0, .sc) := by kernel_rfl
@[simp] theorem fld_114_1 : fld Tryz.prog 114 1 = some (1, .sc) := by kernel_rfl
@[simp] theorem fld_114_2 : fld Tryz.prog 114 2 = some (2, .sc) := by kernel_rfl
@[simp] theorem fld_114_3 : fld Tryz.prog 114 3 = some (3, .sc) := by kernel_rfl
@[simp] theorem fld_115_0 : fld Tryz.prog 115 0 = some (0, .sc) := by kernel_rfl
@[simp] theorem fld_115_1 : fld Tryz.prog 115 1 = some (1, .sc) := by kernel_rfl
@[simp] theorem fld_117_0 : fld Tryz.prog 117 0 = some (0, .sc) := by kernel_rfl
@[simp] theorem fld_117_1 : fld Tryz.prog 117 1 = some (1, (.ag 4)) := by kernel_rfl
@[simp] theorem fld_117_2 : fld Tryz.prog 117 2 = some (5, (.ag 4)) := by kernel_rfl
@[simp] theorem fld_117_3 : fld Tryz.prog 117 3 = some (9, (.ag 2)) := by kernel_rfl
@[simp] theorem fld_117_4 : fld Tryz.prog 117 4 = some (11, (.ag 2)) := by kernel_rfl
@[simp] theorem fld_119_0 : fld Tryz.prog 119 0 = some (0, .sc) := by kernel_rfl
@[simp] theorem fld_119_1 : fld Tryz.prog 119 1 = some (1, .sc) := by kernel_rfl
@[simp] theorem fld_119_2 : fld Tryz.prog 119 2 = some (2, .sc) := by kernel_rfl
@[simp] theorem fld_119_3 : fld Tryz.prog 119 3 = some (3, (.ag 6)) := by kernel_rfl
@[simp] theorem fld_119_4 : fld Tryz.prog 119 4 = some (9, (.ag 2)) := by kernel_rfl
@[simp] theorem fld_119_5 : fld Tryz.prog 119 5 = some (11, .sc) := by kernel_rfl
@[simp] theorem fld_119_6 : fld Tryz.prog 119 6 = some (12, .sc) := by kernel_rfl
@[simp] theorem fld_119_7 : fld Tryz.prog 119 7 = some (13, .sc) := by kernel_rfl
@[simp] theorem fld_119_8 : fld Tryz.prog 119 8 = some (14, (.ag 13)) := by kernel_rfl
@[simp] theorem fld_119_9 : fld Tryz.prog 119 9 = some (27, .sc) := by kernel_rfl
@[simp] theorem fld_119_10 : fld Tryz.prog 119 10 = some (28, .sc) := by kernel_rfl
@[simp] theorem fld_119_11 : fld Tryz.prog 119 11 = some (29, (.ag 2)) := by kernel_rfl
@[simp] theorem fld_122_0 : fld Tryz.prog 122 0 = some (0, (.ag 4)) := by kernel_rfl
@[simp] theorem fld_122_1 : fld Tryz.prog 122 1 = some (4, .sc) := by kernel_rfl
@[simp] theorem fld_124_0 : fld Tryz.prog 124 0 = some (0, .sc) := by kernel_rfl
@[simp] theorem fld_124_1 : fld Tryz.prog 124 1 = some (1, (.ag 5)) := by kernel_rfl
@[simp] theorem isArr_80 : isArr Tryz.prog 80 = false := by kernel_rfl
@[simp] theorem isArr_82 : isArr Tryz.prog 82 = false := by kernel_rfl
@[simp] theorem isArr_84 : isArr Tryz.prog 84 = false := by kernel_rfl
@[simp] theorem isArr_92 : isArr Tryz.prog 92 = false := by kernel_rfl
@[simp] theorem isArr_149 : isArr Tryz.prog 149 = true := by kernel_rfl
@[simp] theorem isStr_149 : isStr Tryz.prog 149 = false := by kernel_rfl
@[simp] theorem lnK_22 : lnK Tryz.prog 22 = some .sl := by kernel_rfl
@[simp] theorem lnK_25 : lnK Tryz.prog 25 = some .sl := by kernel_rfl
@[simp] theorem lnK_28 : lnK Tryz.prog 28 = some .sl := by kernel_rfl
@[simp] theorem lnK_29 : lnK Tryz.prog 29 = some .sl := by kernel_rfl
@[simp] theorem lnK_30 : lnK Tryz.prog 30 = some .sl := by kernel_rfl
@[simp] theorem lnK_37 : lnK Tryz.prog 37 = some .sl := by kernel_rfl
@[simp] theorem lnK_40 : lnK Tryz.prog 40 = some .sl := by kernel_rfl
@[simp] theorem lnK_43 : lnK Tryz.prog 43 = some .sl := by kernel_rfl
@[simp] theorem lnK_44 : lnK Tryz.prog 44 = some .sl := by kernel_rfl
@[simp] theorem lnK_76 : lnK Tryz.prog 76 = some .sl := by kernel_rfl
@[simp] theorem lnK_111 : lnK Tryz.prog 111 = some .sl := by kernel_rfl
@[simp] theorem plc_80 : plc Tryz.prog 80 = some [(0, 1), (1, 1), (2, 1), (3, 1)] := by kernel_rfl
@[simp] theorem plc_82 : plc Tryz.prog 82 = some [(0, 1), (1, 1)] := by kernel_rfl
@[simp] theorem plc_84 : plc Tryz.prog 84 = some [(0, 1), (1, 4), (5, 4), (9, 2), (11, 2)] := by kernel_rfl
@[simp] theorem plc_92 : plc Tryz.prog 92 = some [(0, 1), (1, 1), (2, 1), (3, 1)] := by kernel_rfl
@[simp] theorem plc_149 : plc Tryz.prog 149 = none := by kernel_rfl
@[simp] theorem tsh_3 : tsh Tryz.prog 3 = some .sc := by kernel_rfl
@[simp] theorem tsh_4 : tsh Tryz.prog 4 = some .sc := by kernel_rfl
@[simp] theorem tsh_22 : tsh Tryz.prog 22 = some .sc := by kernel_rfl
@[simp] theorem tsh_24 : tsh Tryz.prog 24 = some (.ag 1) := by kernel_rfl
@[simp] theorem tsh_25 : tsh Tryz.prog 25 = some .sc := by kernel_rfl
@[simp] theorem tsh_27 : tsh Tryz.prog 27 = some (.ag 3) := by kernel_rfl
@[simp] theorem tsh_28 : tsh Tryz.prog 28 = some .sc := by kernel_rfl
@[simp] theorem tsh_29 : tsh Tryz.prog 29 = some .sc := by kernel_rfl
@[simp] theorem tsh_30 : tsh Tryz.prog 30 = some .sc := by kernel_rfl
@[simp] theorem tsh_32 : tsh Tryz.prog 32 = some (.ag 2) := by kernel_rfl
@[simp] theorem tsh_34 : tsh Tryz.prog 34 = some (.ag 9) := by kernel_rfl
@[simp] theorem tsh_37 : tsh Tryz.prog 37 = some .sc := by kernel_rfl
@[simp] theorem tsh_39 : tsh Tryz.prog 39 = some (.ag 1) := by kernel_rfl
@[simp] theorem tsh_40 : tsh Tryz.prog 40 = some .sc := by kernel_rfl
@[simp] theorem tsh_42 : tsh Tryz.prog 42 = some (.ag 3) := by kernel_rfl
@[simp] theorem tsh_43 : tsh Tryz.prog 43 = some .sc := by kernel_rfl
@[simp] theorem tsh_44 : tsh Tryz.prog 44 = some .sc := by kernel_rfl
@[simp] theorem tsh_46 : tsh Tryz.prog 46 = some (.ag 2) := by kernel_rfl
@[simp] theorem tsh_48 : tsh Tryz.prog 48 = some (.ag 9) := by kernel_rfl
@[simp] theorem tsh_75 : tsh Tryz.prog 75 = some (.ag 6) := by kernel_rfl
@[simp] theorem tsh_76 : tsh Tryz.prog 76 = some .sc := by kernel_rfl
@[simp] theorem tsh_78 : tsh Tryz.prog 78 = some (.ag 2) := by kernel_rfl
@[simp] theorem tsh_80 : tsh Tryz.prog 80 = some (.ag 4) := by kernel_rfl
@[simp] theorem tsh_82 : tsh Tryz.prog 82 = some (.ag 2) := by kernel_rfl
@[simp] theorem tsh_84 : tsh Tryz.prog 84 = some (.ag 13) := by kernel_rfl
@[simp] theorem tsh_86 : tsh Tryz.prog 86 = some (.ag 31) := by kernel_rfl
@[simp] theorem tsh_92 : tsh Tryz.prog 92 = some (.ag 4) := by kernel_rfl
@[simp] theorem tsh_94 : tsh Tryz.prog 94 = some (.ag 5) := by kernel_rfl
@[simp] theorem tsh_96 : tsh Tryz.prog 96 = some (.ag 6) := by kernel_rfl
@[simp] theorem tsh_101 : tsh Tryz.prog 101 = some (.ag 4) := by kernel_rfl
@[simp] theorem tsh_110 : tsh Tryz.prog 110 = some (.ag 6) := by kernel_rfl
@[simp] theorem tsh_111 : tsh Tryz.prog 111 = some .sc := by kernel_rfl
@[simp] theorem tsh_113 : tsh Tryz.prog 113 = some (.ag 2) := by kernel_rfl
@[simp] theorem tsh_114 : tsh Tryz.prog 114 = some (.ag 4) := by kernel_rfl
@[simp] theorem tsh_115 : tsh Tryz.prog 115 = some (.ag 2) := by kernel_rfl
@[simp] theorem tsh_117 : tsh Tryz.prog 117 = some (.ag 13) := by kernel_rfl
@[simp] theorem tsh_119 : tsh Tryz.prog 119 = some (.ag 31) := by kernel_rfl
@[simp] theorem tsh_122 : tsh Tryz.prog 122 = some (.ag 5) := by kernel_rfl
@[simp] theorem tsh_124 : tsh Tryz.prog 124 = some (.ag 6) := by kernel_rfl
@[simp] theorem zer_3 : zer Tryz.prog 3 = some (AV.int .i64 0) := by kernel_rfl
@[simp] theorem zer_39 : zer Tryz.prog 39 = some (AV.agg [AV.nilsl]) := by kernel_rfl
@[simp] theorem zer_42 : zer Tryz.prog 42 = some (AV.agg [AV.int .i64 0, AV.int .i64 0, AV.nilsl]) := by kernel_rfl
@[simp] theorem zer_46 : zer Tryz.prog 46 = some (AV.agg [AV.int .i64 0, AV.nilsl]) := by kernel_rfl
@[simp] theorem zer_48 : zer Tryz.prog 48 = some (AV.agg [AV.nilsl, AV.int .i64 0, AV.int .i64 0, AV.nilsl, AV.nilsl, AV.nilsl, AV.int .i64 0, AV.nilsl, AV.int .i64 0]) := by kernel_rfl
@[simp] theorem zer_75 : zer Tryz.prog 75 = some (AV.agg [AV.int .i64 0, AV.int .i64 0, AV.int .i64 0, AV.int .i64 0, AV.int .i64 0, AV.int .i64 0]) := by kernel_rfl
@[simp] theorem zer_78 : zer Tryz.prog 78 = some (AV.agg [AV.nilsl, AV.nilsl]) := by kernel_rfl
@[simp] theorem zer_80 : zer Tryz.prog 80 = some (AV.agg [AV.int .i64 0, AV.int .i64 0, AV.int .i64 0, AV.int .i64 0]) := by kernel_rfl
@[simp] theorem zer_82 : zer Tryz.prog 82 = some (AV.agg [AV.int .i64 0, AV.int .i64 0]) := by kernel_rfl
@[simp] theorem zer_84 : zer Tryz.prog 84 = some (AV.agg [AV.int .i64 0, AV.int .i64 0, AV.int .i64 0, AV.int .i64 0, AV.int .i64 0, AV.int .i64 0, AV.int .i64 0, AV.int .i64 0, AV.int .i64 0, AV.int .i64 0, AV.int .i64 0, AV.int .i64 0, AV.int .i64 0]) := by kernel_rfl
@[simp] theorem zer_86 : zer Tryz.prog 86 = some (AV.agg [AV.int .i64 0, AV.int .i64 0, AV.bool false, AV.int .i64 0, AV.int .i64 0, AV.int .i64 0, AV.int .i64 0, AV.int .i64 0, AV.int .i64 0, AV.nilsl, AV.nilsl, AV.bool false, AV.int .i64 0, AV.nilsl, AV.int .i64 0, AV.int .i64 0, AV.int .i64 0, AV.int .i64 0, AV.int .i64 0, AV.int .i64 0, AV.int .i64 0, AV.int .i64 0, AV.int .i64 0, AV.int .i64 0, AV.int .i64 0, AV.int .i64 0, AV.int .i64 0, AV.int .i64 0, AV.int .i64 0, AV.nilsl, AV.nilsl]) := by kernel_rfl
@[simp] theorem zer_92 : zer Tryz.prog 92 = some (AV.agg [AV.int .i64 0, AV.int .i64 0, AV.int .i64 0, AV.int .i64 0]) := by kernel_rfl
@[simp] theorem zer_94 : zer Tryz.prog 94 = some (AV.agg [AV.int .i64 0, AV.int .i64 0, AV.int .i64 0, AV.int .i64 0, AV.nilsl]) := by kernel_rfl
@[simp] theorem zer_96 : zer Tryz.prog 96 = some (AV.agg [AV.int .i64 0, AV.int .i64 0, AV.int .i64 0, AV.int .i64 0, AV.int .i64 0, AV.nilsl]) := by kernel_rfl
@[simp] theorem zer_101 : zer Tryz.prog 101 = some (AV.agg [AV.int .i64 0, AV.int .i64 0, AV.int .i64 0, AV.int .i64 0]) := by kernel_rfl
@[simp] theorem zer_114 : zer Tryz.prog 114 = some (AV.agg [AV.int .i64 0, AV.int .i64 0, AV.int .i64 0, AV.int .i64 0]) := by kernel_rfl
@[simp] theorem zer_115 : zer Tryz.prog 115 = some (AV.agg [AV.int .i64 0, AV.int .i64 0]) := by kernel_rfl
@[simp] theorem zer_119 : zer Tryz.prog 119 = some (AV.agg [AV.int .i64 0, AV.int .i64 0, AV.bool false, AV.int .i64 0, AV.int .i64 0, AV.int .i64 0, AV.int .i64 0, AV.int .i64 0, AV.int .i64 0, AV.nilsl, AV.nilsl, AV.bool false, AV.int .i64 0, AV.nilsl, AV.int .i64 0, AV.int .i64 0, AV.int .i64 0, AV.int .i64 0, AV.int .i64 0, AV.int .i64 0, AV.int .i64 0, AV.int .i64 0, AV.int .i64 0, AV.int .i64 0, AV.int .i64 0, AV.int .i64 0, AV.int .i64 0, AV.int .i64 0, AV.int .i64 0, AV.nilsl, AV.nilsl]) := by kernel_rfl
@[simp] theorem zer_124 : zer Tryz.prog 124 = some (AV.agg [AV.int .i64 0, AV.int .i64 0, AV.int .i64 0, AV.int .i64 0, AV.int .i64 0, AV.nilsl]) := by kernel_rfl
@[simp] theorem zer_149 : zer Tryz.prog 149 = some (AV.agg [AV.int .i64 0, AV.int .i64 0, AV.int .i64 0, AV.int .i64 0]) := by kernel_rfl
def E0 : FuncId → Md := fun f => (lkp [] f).getD {}
@[simp] theorem E0_3 : E0 3 = {} := rfl
@[simp] theorem E0_4 : E0 4 = {} := rfl
@[simp] theorem E0_5 : E0 5 = {} := rfl
@[simp] theorem E0_6 : E0 6 = {} := rfl
@[simp] theorem E0_7 : E0 7 = {} := rfl
@[simp] theorem E0_8 : E0 8 = {} := rfl
@[simp] theorem E0_9 : E0 9 = {} := rfl
@[simp] theorem E0_10 : E0 10 = {} := rfl
@[simp] theorem E0_11 : E0 11 = {} := rfl
@[simp] theorem E0_12 : E0 12 = {} := rfl
@[simp] theorem E0_13 : E0 13 = {} := rfl
@[simp] theorem E0_14 : E0 14 = {} := rfl
@[simp] theorem E0_15 : E0 15 = {} := rfl
@[simp] theorem E0_16 : E0 16 = {} := rfl
@[simp] theorem E0_17 : E0 17 = {} := rfl
@[simp] theorem E0_18 : E0 18 = {} := rfl
@[simp] theorem E0_19 : E0 19 = {} := rfl
@[simp] theorem E0_20 : E0 20 = {} := rfl
@[simp] theorem E0_21 : E0 21 = {} := rfl
@[simp] theorem E0_22 : E0 22 = {} := rfl
@[simp] theorem E0_23 : E0 23 = {} := rfl
@[simp] theorem E0_24 : E0 24 = {} := rfl
@[simp] theorem E0_25 : E0 25 = {} := rfl
@[simp] theorem E0_26 : E0 26 = {} := rfl
@[simp] theorem E0_27 : E0 27 = {} := rfl
@[simp] theorem E0_28 : E0 28 = {} := rfl
@[simp] theorem E0_29 : E0 29 = {} := rfl
@[simp] theorem E0_30 : E0 30 = {} := rfl
@[simp] theorem E0_31 : E0 31 = {} := rfl
@[simp] theorem E0_32 : E0 32 = {} := rfl
@[simp] theorem E0_33 : E0 33 = {} := rfl
@[simp] theorem E0_34 : E0 34 = {} := rfl
@[simp] theorem E0_35 : E0 35 = {} := rfl
@[simp] theorem E0_36 : E0 36 = {} := rfl
@[simp] theorem E0_37 : E0 37 = {} := rfl
@[simp] theorem E0_38 : E0 38 = {} := rfl
@[simp] theorem E0_39 : E0 39 = {} := rfl
@[simp] theorem E0_40 : E0 40 = {} := rfl
@[simp] theorem E0_41 : E0 41 = {} := rfl
@[simp] theorem E0_42 : E0 42 = {} := rfl
@[simp] theorem E0_43 : E0 43 = {} := rfl
@[simp] theorem E0_44 : E0 44 = {} := rfl
@[simp] theorem E0_45 : E0 45 = {} := rfl
@[simp] theorem E0_46 : E0 46 = {} := rfl
@[simp] theorem E0_47 : E0 47 = {} := rfl
@[simp] theorem E0_48 : E0 48 = {} := rfl
@[simp] theorem E0_49 : E0 49 = {} := rfl
@[simp] theorem E0_50 : E0 50 = {} := rfl
@[simp] theorem E0_51 : E0 51 = {} := rfl
@[simp] theorem E0_52 : E0 52 = {} := rfl
@[simp] theorem E0_53 : E0 53 = {} := rfl
@[simp] theorem E0_54 : E0 54 = {} := rfl
@[simp] theorem E0_55 : E0 55 = {} := rfl
@[simp] theorem E0_56 : E0 56 = {} := rfl
@[simp] theorem E0_57 : E0 57 = {} := rfl
@[simp] theorem E0_58 : E0 58 = {} := rfl
@[simp] theorem E0_59 : E0 59 = {} := rfl
@[simp] theorem E0_60 : E0 60 = {} := rfl
@[simp] theorem E0_61 : E0 61 = {} := rfl
@[simp] theorem E0_62 : E0 62 = {} := rfl
@[simp] theorem E0_63 : E0 63 = {} := rfl
@[simp] theorem E0_64 : E0 64 = {} := rfl
@[simp] theorem E0_65 : E0 65 = {} := rfl
@[simp] theorem E0_66 : E0 66 = {} := rfl
@[simp] theorem E0_67 : E0 67 = {} := rfl
@[simp] theorem E0_68 : E0 68 = {} := rfl
@[simp] theorem E0_69 : E0 69 = {} := rfl
@[simp] theorem E0_70 : E0 70 = {} := rfl
@[simp] theorem E0_71 : E0 71 = {} := rfl
@[simp] theorem E0_72 : E0 72 = {} := rfl
@[simp] theorem E0_73 : E0 73 = {} := rfl
@[simp] theorem E0_74 : E0 74 = {} := rfl
@[simp] theorem E0_75 : E0 75 = {} := rfl
@[simp] theorem E0_76 : E0 76 = {} := rfl
@[simp] theorem E0_77 : E0 77 = {} := rfl
@[simp] theorem E0_78 : E0 78 = {} := rfl
@[simp] theorem E0_79 : E0 79 = {} := rfl
@[simp] theorem E0_80 : E0 80 = {} := rfl
@[simp] theorem E0_81 : E0 81 = {} := rfl
@[simp] theorem E0_82 : E0 82 = {} := rfl
@[simp] theorem E0_83 : E0 83 = {} := rfl
@[simp] theorem E0_84 : E0 84 = {} := rfl
@[simp] theorem E0_85 : E0 85 = {} := rfl
@[simp] theorem E0_86 : E0 86 = {} := rfl
@[simp] theorem E0_87 : E0 87 = {} := rfl
@[simp] theorem E0_88 : E0 88 = {} := rfl
@[simp] theorem E0_89 : E0 89 = {} := rfl
@[simp] theorem E0_90 : E0 90 = {} := rfl
@[simp] theorem E0_91 : E0 91 = {} := rfl
@[simp] theorem E0_92 : E0 92 = {} := rfl
@[simp] theorem E0_93 : E0 93 = {} := rfl
@[simp] theorem E0_94 : E0 94 = {} := rfl
@[simp] theorem E0_95 : E0 95 = {} := rfl
@[simp] theorem E0_96 : E0 96 = {} := rfl
@[simp] theorem E0_97 : E0 97 = {} := rfl
@[simp] theorem E0_98 : E0 98 = {} := rfl
@[simp] theorem E0_99 : E0 99 = {} := rfl
@[simp] theorem E0_100 : E0 100 = {} := rfl
@[simp] theorem E0_101 : E0 101 = {} := rfl
@[simp] theorem E0_102 : E0 102 = {} := rfl
@[simp] theorem E0_103 : E0 103 = {} := rfl
@[simp] theorem E0_104 : E0 104 = {} := rfl
@[simp] theorem E0_105 : E0 105 = {} := rfl
@[simp] theorem E0_106 : E0 106 = {} := rfl
@[simp] theorem E0_107 : E0 107 = {} := rfl
@[simp] theorem E0_108 : E0 108 = {} := rfl
@[simp] theorem E0_109 : E0 109 = {} := rfl
@[simp] theorem E0_110 : E0 110 = {} := rfl
structure TMat where
  a : Int
  b : Int
  c : Int
  d : Int
  e : Int
  f : Int
@[simp] def eMat (a : TMat) : AV := .agg [AV.int .i64 a.a, AV.int .i64 a.b, AV.int .i64 a.c, AV.int .i64 a.d, AV.int .i64 a.e, AV.int .i64 a.f]
@[simp] theorem wid_eMat : wid eMat 6 = True := eq_true ⟨by simp⟩
@[simp] theorem eta_TMat (a : TMat) : TMat.mk a.a a.b a.c a.d a.e a.f = a := rfl
theorem inj_eMat : Inj eMat := by
  constructor
  rintro ⟨x0, x1, x2, x3, x4, x5⟩ ⟨y0, y1, y2, y3, y4, y5⟩ h
  simp at h
  simp [h]
@[simp] theorem Inj_eMat : Inj eMat = True := eq_true inj_eMat
@[simp] theorem pln_eMat : pln eMat = True := eq_true ⟨fun a => by simp⟩
structure TPoint where
  x : Int
  y : Int
@[simp] def ePoint (a : TPoint) : AV := .agg [AV.int .i64 a.x, AV.int .i64 a.y]
@[simp] theorem wid_ePoint : wid ePoint 2 = True := eq_true ⟨by simp⟩
@[simp] theorem eta_TPoint (a : TPoint) : TPoint.mk a.x a.y = a := rfl
theorem inj_ePoint : Inj ePoint := by
  constructor
  rintro ⟨x0, x1⟩ ⟨y0, y1⟩ h
  simp at h
  simp [h]
@[simp] theorem Inj_ePoint : Inj ePoint = True := eq_true inj_ePoint
@[simp] theorem pln_ePoint : pln ePoint = True := eq_true ⟨fun a => by simp⟩
structure TPath where
  verbs : List Int
  points : List TPoint
@[simp] def ePath (a : TPath) : AV := .agg [AV.fsl (List.map (AV.int .i64) a.verbs), AV.fsl (List.map ePoint a.points)]
@[simp] theorem wid_ePath : wid ePath 2 = True := eq_true ⟨by simp⟩
@[simp] theorem eta_TPath (a : TPath) : TPath.mk a.verbs a.points = a := rfl
theorem inj_ePath : Inj ePath := by
  constructor
  rintro ⟨x0, x1⟩ ⟨y0, y1⟩ h
  simp at h
  simp [h]
@[simp] theorem Inj_ePath : Inj ePath = True := eq_true inj_ePath
structure TColor where
  r : Int
  g : Int
  b : Int
  a : Int
@[simp] def eColor (a : TColor) : AV := .agg [AV.int .i64 a.r, AV.int .i64 a.g, AV.int .i64 a.b, AV.int .i64 a.a]
@[simp] theorem wid_eColor : wid eColor 4 = True := eq_true ⟨by simp⟩
@[simp] theorem eta_TColor (a : TColor) : TColor.mk a.r a.g a.b a.a = a := rfl
theorem inj_eColor : Inj eColor := by
  constructor
  rintro ⟨x0, x1, x2, x3⟩ ⟨y0, y1, y2, y3⟩ h
  simp at h
  simp [h]
@[simp] theorem Inj_eColor : Inj eColor = True := eq_true inj_eColor
@[simp] theorem pln_eColor : pln eColor = True := eq_true ⟨fun a => by simp⟩
structure TPaint where
  kind : Int
  first : TColor
  last : TColor
  from_ : TPoint
  to : TPoint
@[simp] def ePaint (a : TPaint) : AV := .agg [AV.int .i64 a.kind, AV.int .i64 a.first.r, AV.int .i64 a.first.g, AV.int .i64 a.first.b, AV.int .i64 a.first.a, AV.int .i64 a.last.r, AV.int .i64 a.last.g, AV.int .i64 a.last.b, AV.int .i64 a.last.a, AV.int .i64 a.from_.x, AV.int .i64 a.from_.y, AV.int .i64 a.to.x, AV.int .i64 a.to.y]
@[simp] theorem wid_ePaint : wid ePaint 13 = True := eq_true ⟨by simp⟩
@[simp] theorem eta_TPaint (a : TPaint) : TPaint.mk a.kind a.first a.last a.from_ a.to = a := rfl
theorem inj_ePaint : Inj ePaint := by
  constructor
  rintro ⟨x0, ⟨x1, x2, x3, x4⟩, ⟨x5, x6, x7, x8⟩, ⟨x9, x10⟩, ⟨x11, x12⟩⟩ ⟨y0, ⟨y1, y2, y3, y4⟩, ⟨y5, y6, y7, y8⟩, ⟨y9, y10⟩, ⟨y11, y12⟩⟩ h
  simp at h
  simp [h]
@[simp] theorem Inj_ePaint : Inj ePaint = True := eq_true inj_ePaint
@[simp] theorem pln_ePaint : pln ePaint = True := eq_true ⟨fun a => by simp⟩
structure TNode where
  id : Int
  parent : Int
  group : Bool
  mat : TMat
  path : TPath
  even : Bool
  width : Int
  dashes : List Int
  paint : TPaint
  mode : Int
  fade : Int
  clip : TPath
@[simp] def eNode (a : TNode) : AV := .agg [AV.int .i64 a.id, AV.int .i64 a.parent, AV.bool a.group, AV.int .i64 a.mat.a, AV.int .i64 a.mat.b, AV.int .i64 a.mat.c, AV.int .i64 a.mat.d, AV.int .i64 a.mat.e, AV.int .i64 a.mat.f, AV.fsl (List.map (AV.int .i64) a.path.verbs), AV.fsl (List.map ePoint a.path.points), AV.bool a.even, AV.int .i64 a.width, AV.fsl (List.map (AV.int .i64) a.dashes), AV.int .i64 a.paint.kind, AV.int .i64 a.paint.first.r, AV.int .i64 a.paint.first.g, AV.int .i64 a.paint.first.b, AV.int .i64 a.paint.first.a, AV.int .i64 a.paint.last.r, AV.int .i64 a.paint.last.g, AV.int .i64 a.paint.last.b, AV.int .i64 a.paint.last.a, AV.int .i64 a.paint.from_.x, AV.int .i64 a.paint.from_.y, AV.int .i64 a.paint.to.x, AV.int .i64 a.paint.to.y, AV.int .i64 a.mode, AV.int .i64 a.fade, AV.fsl (List.map (AV.int .i64) a.clip.verbs), AV.fsl (List.map ePoint a.clip.points)]
@[simp] theorem wid_eNode : wid eNode 31 = True := eq_true ⟨by simp⟩
@[simp] theorem eta_TNode (a : TNode) : TNode.mk a.id a.parent a.group a.mat a.path a.even a.width a.dashes a.paint a.mode a.fade a.clip = a := rfl
theorem inj_eNode : Inj eNode := by
  constructor
  rintro ⟨x0, x1, x2, ⟨x3, x4, x5, x6, x7, x8⟩, ⟨x9, x10⟩, x11, x12, x13, ⟨x14, ⟨x15, x16, x17, x18⟩, ⟨x19, x20, x21, x22⟩, ⟨x23, x24⟩, ⟨x25, x26⟩⟩, x27, x28, ⟨x29, x30⟩⟩ ⟨y0, y1, y2, ⟨y3, y4, y5, y6, y7, y8⟩, ⟨y9, y10⟩, y11, y12, y13, ⟨y14, ⟨y15, y16, y17, y18⟩, ⟨y19, y20, y21, y22⟩, ⟨y23, y24⟩, ⟨y25, y26⟩⟩, y27, y28, ⟨y29, y30⟩⟩ h
  simp at h
  simp [h]
@[simp] theorem Inj_eNode : Inj eNode = True := eq_true inj_eNode
structure TScene where
  nodes : List TNode
@[simp] def eScene (a : TScene) : AV := .agg [AV.fsl (List.map eNode a.nodes)]
@[simp] theorem wid_eScene : wid eScene 1 = True := eq_true ⟨by simp⟩
@[simp] theorem eta_TScene (a : TScene) : TScene.mk a.nodes = a := rfl
theorem inj_eScene : Inj eScene := by
  constructor
  rintro ⟨x0⟩ ⟨y0⟩ h
  simp at h
  simp [h]
@[simp] theorem Inj_eScene : Inj eScene = True := eq_true inj_eScene
structure TSurface where
  w : Int
  h : Int
  pix : List TColor
@[simp] def eSurface (a : TSurface) : AV := .agg [AV.int .i64 a.w, AV.int .i64 a.h, AV.fsl (List.map eColor a.pix)]
@[simp] theorem wid_eSurface : wid eSurface 3 = True := eq_true ⟨by simp⟩
@[simp] theorem eta_TSurface (a : TSurface) : TSurface.mk a.w a.h a.pix = a := rfl
theorem inj_eSurface : Inj eSurface := by
  constructor
  rintro ⟨x0, x1, x2⟩ ⟨y0, y1, y2⟩ h
  simp at h
  simp [h]
@[simp] theorem Inj_eSurface : Inj eSurface = True := eq_true inj_eSurface
structure TBox where
  x0 : Int
  y0 : Int
  x1 : Int
  y1 : Int
@[simp] def eBox (a : TBox) : AV := .agg [AV.int .i64 a.x0, AV.int .i64 a.y0, AV.int .i64 a.x1, AV.int .i64 a.y1]
@[simp] theorem wid_eBox : wid eBox 4 = True := eq_true ⟨by simp⟩
@[simp] theorem eta_TBox (a : TBox) : TBox.mk a.x0 a.y0 a.x1 a.y1 = a := rfl
theorem inj_eBox : Inj eBox := by
  constructor
  rintro ⟨x0, x1, x2, x3⟩ ⟨y0, y1, y2, y3⟩ h
  simp at h
  simp [h]
@[simp] theorem Inj_eBox : Inj eBox = True := eq_true inj_eBox
@[simp] theorem pln_eBox : pln eBox = True := eq_true ⟨fun a => by simp⟩
structure TMask where
  box : TBox
  bits : List Int
@[simp] def eMask (a : TMask) : AV := .agg [AV.int .i64 a.box.x0, AV.int .i64 a.box.y0, AV.int .i64 a.box.x1, AV.int .i64 a.box.y1, AV.fsl (List.map (AV.int .i64) a.bits)]
@[simp] theorem wid_eMask : wid eMask 5 = True := eq_true ⟨by simp⟩
@[simp] theorem eta_TMask (a : TMask) : TMask.mk a.box a.bits = a := rfl
theorem inj_eMask : Inj eMask := by
  constructor
  rintro ⟨⟨x0, x1, x2, x3⟩, x4⟩ ⟨⟨y0, y1, y2, y3⟩, y4⟩ h
  simp at h
  simp [h]
@[simp] theorem Inj_eMask : Inj eMask = True := eq_true inj_eMask
structure TKept where
  id : Int
  mask : TMask
@[simp] def eKept (a : TKept) : AV := .agg [AV.int .i64 a.id, AV.int .i64 a.mask.box.x0, AV.int .i64 a.mask.box.y0, AV.int .i64 a.mask.box.x1, AV.int .i64 a.mask.box.y1, AV.fsl (List.map (AV.int .i64) a.mask.bits)]
@[simp] theorem wid_eKept : wid eKept 6 = True := eq_true ⟨by simp⟩
@[simp] theorem eta_TKept (a : TKept) : TKept.mk a.id a.mask = a := rfl
theorem inj_eKept : Inj eKept := by
  constructor
  rintro ⟨x0, ⟨⟨x1, x2, x3, x4⟩, x5⟩⟩ ⟨y0, ⟨⟨y1, y2, y3, y4⟩, y5⟩⟩ h
  simp at h
  simp [h]
@[simp] theorem Inj_eKept : Inj eKept = True := eq_true inj_eKept
structure TCache where
  most : Int
  list : List TKept
@[simp] def eCache (a : TCache) : AV := .agg [AV.int .i64 a.most, AV.fsl (List.map eKept a.list)]
@[simp] theorem wid_eCache : wid eCache 2 = True := eq_true ⟨by simp⟩
@[simp] theorem eta_TCache (a : TCache) : TCache.mk a.most a.list = a := rfl
theorem inj_eCache : Inj eCache := by
  constructor
  rintro ⟨x0, x1⟩ ⟨y0, y1⟩ h
  simp at h
  simp [h]
@[simp] theorem Inj_eCache : Inj eCache = True := eq_true inj_eCache
structure TEngine where
  scene : TScene
  frame : TSurface
  dirty : List TBox
  stamps : List Int
  cache : TCache
  painted : Int
@[simp] def eEngine (a : TEngine) : AV := .agg [AV.fsl (List.map eNode a.scene.nodes), AV.int .i64 a.frame.w, AV.int .i64 a.frame.h, AV.fsl (List.map eColor a.frame.pix), AV.fsl (List.map eBox a.dirty), AV.fsl (List.map (AV.int .i64) a.stamps), AV.int .i64 a.cache.most, AV.fsl (List.map eKept a.cache.list), AV.int .i64 a.painted]
@[simp] theorem wid_eEngine : wid eEngine 9 = True := eq_true ⟨by simp⟩
@[simp] theorem eta_TEngine (a : TEngine) : TEngine.mk a.scene a.frame a.dirty a.stamps a.cache a.painted = a := rfl
theorem inj_eEngine : Inj eEngine := by
  constructor
  rintro ⟨⟨x0⟩, ⟨x1, x2, x3⟩, x4, x5, ⟨x6, x7⟩, x8⟩ ⟨⟨y0⟩, ⟨y1, y2, y3⟩, y4, y5, ⟨y6, y7⟩, y8⟩ h
  simp at h
  simp [h]
@[simp] theorem Inj_eEngine : Inj eEngine = True := eq_true inj_eEngine
end Go.Proofs.YtokobfpimdadmaaGreat.Am
