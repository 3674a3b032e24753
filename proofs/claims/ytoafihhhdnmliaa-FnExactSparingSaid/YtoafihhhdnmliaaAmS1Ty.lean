import Derived.Test.YtoafihhhdnmliaaAmMe
import Derived.Test.YtoafihhhdnmliaaProg
import Derived.KernelRfl
set_option linter.unusedVariables false
set_option linter.unusedSimpArgs false
set_option linter.unusedSectionVars false
namespace Go.Proofs.Ytoafihhhdnmliaa.Am
open Go Go.Proofs
set_option maxRecDepth 100000
set_option linter.unusedSimpArgs false
@[simp] theorem art_22 : art Try.prog 22 = none := by kernel_rfl
@[simp] theorem art_27 : art Try.prog 27 = none := by kernel_rfl
@[simp] theorem art_33 : art Try.prog 33 = none := by kernel_rfl
@[simp] theorem art_36 : art Try.prog 36 = none := by kernel_rfl
@[simp] theorem art_39 : art Try.prog 39 = none := by kernel_rfl
@[simp] theorem art_40 : art Try.prog 40 = none := by kernel_rfl
@[simp] theorem art_45 : art Try.prog 45 = none := by kernel_rfl
@[simp] theorem art_48 : art Try.prog 48 = none := by kernel_rfl
@[simp] theorem art_51 : art Try.prog 51 = none := by kernel_rfl
@[simp] theorem art_75 : art Try.prog 75 = none := by kernel_rfl
@[simp] theorem art_143 : art Try.prog 143 = none := by kernel_rfl
@[simp] theorem art_195 : art Try.prog 195 = none := by kernel_rfl
@[simp] theorem elt_22 : elt Try.prog 22 = some (188, (.ag 6), 64) := by kernel_rfl
@[simp] theorem elt_27 : elt Try.prog 27 = some (101, (.ag 6), 64) := by kernel_rfl
@[simp] theorem elt_33 : elt Try.prog 33 = some (199, (.ag 31), 328) := by kernel_rfl
@[simp] theorem elt_36 : elt Try.prog 36 = some (117, (.ag 4), 32) := by kernel_rfl
@[simp] theorem elt_39 : elt Try.prog 39 = some (114, (.ag 4), 32) := by kernel_rfl
@[simp] theorem elt_40 : elt Try.prog 40 = some (3, .sc, 8) := by kernel_rfl
@[simp] theorem elt_45 : elt Try.prog 45 = some (147, (.ag 31), 328) := by kernel_rfl
@[simp] theorem elt_48 : elt Try.prog 48 = some (81, (.ag 4), 32) := by kernel_rfl
@[simp] theorem elt_51 : elt Try.prog 51 = some (75, (.ag 4), 32) := by kernel_rfl
@[simp] theorem elt_143 : elt Try.prog 143 = some (83, (.ag 2), 16) := by kernel_rfl
@[simp] theorem elt_195 : elt Try.prog 195 = some (118, (.ag 2), 16) := by kernel_rfl
@[simp] theorem eqk_3 : eqk Try.prog 3 = some (false, [.i]) := by kernel_rfl
@[simp] theorem eqk_4 : eqk Try.prog 4 = some (false, [.b]) := by kernel_rfl
@[simp] theorem eqk_81 : eqk Try.prog 81 = some (true, [.i, .i, .i, .i]) := by kernel_rfl
@[simp] theorem fld_24_0 : fld Try.prog 24 0 = some (0, .sc) := by kernel_rfl
@[simp] theorem fld_24_1 : fld Try.prog 24 1 = some (1, .sc) := by kernel_rfl
@[simp] theorem fld_29_0 : fld Try.prog 29 0 = some (0, .sc) := by kernel_rfl
@[simp] theorem fld_29_1 : fld Try.prog 29 1 = some (1, .sc) := by kernel_rfl
@[simp] theorem fld_35_0 : fld Try.prog 35 0 = some (0, .sc) := by kernel_rfl
@[simp] theorem fld_38_0 : fld Try.prog 38 0 = some (0, .sc) := by kernel_rfl
@[simp] theorem fld_38_1 : fld Try.prog 38 1 = some (1, .sc) := by kernel_rfl
@[simp] theorem fld_38_2 : fld Try.prog 38 2 = some (2, .sc) := by kernel_rfl
@[simp] theorem fld_42_0 : fld Try.prog 42 0 = some (0, (.ag 1)) := by kernel_rfl
@[simp] theorem fld_42_1 : fld Try.prog 42 1 = some (1, (.ag 3)) := by kernel_rfl
@[simp] theorem fld_42_2 : fld Try.prog 42 2 = some (4, .sc) := by kernel_rfl
@[simp] theorem fld_42_3 : fld Try.prog 42 3 = some (5, .sc) := by kernel_rfl
@[simp] theorem fld_42_4 : fld Try.prog 42 4 = some (6, (.ag 2)) := by kernel_rfl
@[simp] theorem fld_42_5 : fld Try.prog 42 5 = some (8, .sc) := by kernel_rfl
@[simp] theorem fld_47_0 : fld Try.prog 47 0 = some (0, .sc) := by kernel_rfl
@[simp] theorem fld_50_0 : fld Try.prog 50 0 = some (0, .sc) := by kernel_rfl
@[simp] theorem fld_50_1 : fld Try.prog 50 1 = some (1, .sc) := by kernel_rfl
@[simp] theorem fld_50_2 : fld Try.prog 50 2 = some (2, .sc) := by kernel_rfl
@[simp] theorem fld_53_0 : fld Try.prog 53 0 = some (0, (.ag 1)) := by kernel_rfl
@[simp] theorem fld_53_1 : fld Try.prog 53 1 = some (1, (.ag 3)) := by kernel_rfl
@[simp] theorem fld_53_2 : fld Try.prog 53 2 = some (4, .sc) := by kernel_rfl
@[simp] theorem fld_53_3 : fld Try.prog 53 3 = some (5, .sc) := by kernel_rfl
@[simp] theorem fld_53_4 : fld Try.prog 53 4 = some (6, (.ag 2)) := by kernel_rfl
@[simp] theorem fld_53_5 : fld Try.prog 53 5 = some (8, .sc) := by kernel_rfl
@[simp] theorem fld_58_0 : fld Try.prog 58 0 = some (0, .sc) := by kernel_rfl
@[simp] theorem fld_58_1 : fld Try.prog 58 1 = some (1, .sc) := by kernel_rfl
@[simp] theorem fld_58_2 : fld Try.prog 58 2 = some (2, .sc) := by kernel_rfl
@[simp] theorem fld_58_3 : fld Try.prog 58 3 = some (3, .sc) := by kernel_rfl
@[simp] theorem fld_58_4 : fld Try.prog 58 4 = some (4, .sc) := by kernel_rfl
@[simp] theorem fld_58_5 : fld Try.prog 58 5 = some (5, .sc) := by kernel_rfl
@[simp] theorem fld_75_0 : fld Try.prog 75 0 = some (0, .sc) := by kernel_rfl
@[simp] theorem fld_75_1 : fld Try.prog 75 1 = some (1, .sc) := by kernel_rfl
@[simp] theorem fld_75_2 : fld Try.prog 75 2 = some (2, .sc) := by kernel_rfl
@[simp] theorem fld_75_3 : fld Try.prog 75 3 = some (3, .sc) := by kernel_rfl
@[simp] theorem fld_77_0 : fld Try.prog 77 0 = some (0, (.ag 4)) := by kernel_rfl
@[simp] theorem fld_77_1 : fld Try.prog 77 1 = some (4, .sc) := by kernel_rfl
@[simp] theorem fld_81_0 : fld Try.prog 81 0 = some (0, .sc) := by kernel_rfl
@[simp] theorem fld_81_1 : fld Try.prog 81 1 = some (1, .sc) := by kernel_rfl
@[simp] theorem fld_81_2 : fld Try.prog 81 2 = some (2, .sc) := by kernel_rfl
@[simp] theorem fld_81_3 : fld Try.prog 81 3 = some (3, .sc) := by kernel_rfl
@[simp] theorem fld_83_0 : fld Try.prog 83 0 = some (0, .sc) := by kernel_rfl
@[simp] theorem fld_83_1 : fld Try.prog 83 1 = some (1, .sc) := by kernel_rfl
@[simp] theorem fld_85_0 : fld Try.prog 85 0 = some (0, .sc) := by kernel_rfl
@[simp] theorem fld_85_1 : fld Try.prog 85 1 = some (1, (.ag 4)) := by kernel_rfl
@[simp] theorem fld_85_2 : fld Try.prog 85 2 = some (5, (.ag 4)) := by kernel_rfl
@[simp] theorem fld_85_3 : fld Try.prog 85 3 = some (9, (.ag 2)) := by kernel_rfl
@[simp] theorem fld_85_4 : fld Try.prog 85 4 = some (11, (.ag 2)) := by kernel_rfl
@[simp] theorem fld_101_0 : fld Try.prog 101 0 = some (0, .sc) := by kernel_rfl
@[simp] theorem fld_101_1 : fld Try.prog 101 1 = some (1, (.ag 5)) := by kernel_rfl
@[simp] theorem fld_114_0 : fld Try.prog 114 0 = some (0, .sc) := by kernel_rfl
@[simp] theorem fld_114_1 : fld Try.prog 114 1 = some (1, .sc) := by kernel_rfl
@[simp] theorem fld_114_2 : fld Try.prog 114 2 = some (2, .sc) := by kernel_rfl
@[simp] theorem fld_114_3 : fld Try.prog 114 3 = some (3, .sc) := by kernel_rfl
@[simp] theorem fld_116_0 : fld Try.prog 116 0 = some (0, (.ag 4)) := by kernel_rfl
@[simp] theorem fld_116_1 : fld Try.prog 116 1 = some (4, .sc) := by kernel_rfl
@[simp] theorem fld_117_0 : fld Try.prog 117 0 = some (0, .sc) := by kernel_rfl
@[simp] theorem fld_117_1 : fld Try.prog 117 1 = some (1, .sc) := by kernel_rfl
@[simp] theorem fld_117_2 : fld Try.prog 117 2 = some (2, .sc) := by kernel_rfl
@[simp] theorem fld_117_3 : fld Try.prog 117 3 = some (3, .sc) := by kernel_rfl
@[simp] theorem fld_118_0 : fld Try.prog 118 0 = some (0, .sc) := by kernel_rfl
@[simp] theorem fld_118_1 : fld Try.prog 118 1 = some (1, .sc) := by kernel_rfl
@[simp] theorem fld_120_0 : fld Try.prog 120 0 = some (0, .sc) := by kernel_rfl
@[simp] theorem fld_120_1 : fld Try.prog 120 1 = some (1, (.ag 4)) := by kernel_rfl
@[simp] theorem fld_120_2 : fld Try.prog 120 2 = some (5, (.ag 4)) := by kernel_rfl
@[simp] theorem fld_120_3 : fld Try.prog 120 3 = some (9, (.ag 2)) := by kernel_rfl
@[simp] theorem fld_120_4 : fld Try.prog 120 4 = some (11, (.ag 2)) := by kernel_rfl
@[simp] theorem fld_145_0 : fld Try.prog 145 0 = some (0, .sc) := by kernel_rfl
@[simp] theorem fld_145_1 : fld Try.prog 145 1 = some (1, .sc) := by kernel_rfl
@[simp] theorem fld_147_0 : fld Try.prog 147 0 = some (0, .sc) := by kernel_rfl
@[simp] theorem fld_147_1 : fld Try.prog 147 1 = some (1, .sc) := by kernel_rfl
@[simp] theorem fld_147_2 : fld Try.prog 147 2 = some (2, .sc) := by kernel_rfl
@[simp] theorem fld_147_3 : fld Try.prog 147 3 = some (3, (.ag 6)) := by kernel_rfl
@[simp] theorem fld_147_4 : fld Try.prog 147 4 = some (9, (.ag 2)) := by kernel_rfl
@[simp] theorem fld_147_5 : fld Try.prog 147 5 = some (11, .sc) := by kernel_rfl
@[simp] theorem fld_147_6 : fld Try.prog 147 6 = some (12, .sc) := by kernel_rfl
@[simp] theorem fld_147_7 : fld Try.prog 147 7 = some (13, .sc) := by kernel_rfl
@[simp] theorem fld_147_8 : fld Try.prog 147 8 = some (14, (.ag 13)) := by kernel_rfl
@[simp] theorem fld_147_9 : fld Try.prog 147 9 = some (27, .sc) := by kernel_rfl
@[simp] theorem fld_147_10 : fld Try.prog 147 10 = some (28, .sc) := by kernel_rfl
@[simp] theorem fld_147_11 : fld Try.prog 147 11 = some (29, (.ag 2)) := by kernel_rfl
@[simp] theorem fld_188_0 : fld Try.prog 188 0 = some (0, .sc) := by kernel_rfl
@[simp] theorem fld_188_1 : fld Try.prog 188 1 = some (1, (.ag 5)) := by kernel_rfl
@[simp] theorem fld_194_0 : fld Try.prog 194 0 = some (0, .sc) := by kernel_rfl
@[simp] theorem fld_194_1 : fld Try.prog 194 1 = some (1, .sc) := by kernel_rfl
@[simp] theorem fld_194_2 : fld Try.prog 194 2 = some (2, .sc) := by kernel_rfl
@[simp] theorem fld_194_3 : fld Try.prog 194 3 = some (3, .sc) := by kernel_rfl
@[simp] theorem fld_194_4 : fld Try.prog 194 4 = some (4, .sc) := by kernel_rfl
@[simp] theorem fld_194_5 : fld Try.prog 194 5 = some (5, .sc) := by kernel_rfl
@[simp] theorem fld_197_0 : fld Try.prog 197 0 = some (0, .sc) := by kernel_rfl
@[simp] theorem fld_197_1 : fld Try.prog 197 1 = some (1, .sc) := by kernel_rfl
@[simp] theorem fld_199_0 : fld Try.prog 199 0 = some (0, .sc) := by kernel_rfl
@[simp] theorem fld_199_1 : fld Try.prog 199 1 = some (1, .sc) := by kernel_rfl
@[simp] theorem fld_199_2 : fld Try.prog 199 2 = some (2, .sc) := by kernel_rfl
@[simp] theorem fld_199_3 : fld Try.prog 199 3 = some (3, (.ag 6)) := by kernel_rfl
@[simp] theorem fld_199_4 : fld Try.prog 199 4 = some (9, (.ag 2)) := by kernel_rfl
@[simp] theorem fld_199_5 : fld Try.prog 199 5 = some (11, .sc) := by kernel_rfl
@[simp] theorem fld_199_6 : fld Try.prog 199 6 = some (12, .sc) := by kernel_rfl
@[simp] theorem fld_199_7 : fld Try.prog 199 7 = some (13, .sc) := by kernel_rfl
@[simp] theorem fld_199_8 : fld Try.prog 199 8 = some (14, (.ag 13)) := by kernel_rfl
@[simp] theorem fld_199_9 : fld Try.prog 199 9 = some (27, .sc) := by kernel_rfl
@[simp] theorem fld_199_10 : fld Try.prog 199 10 = some (28, .sc) := by kernel_rfl
@[simp] theorem fld_199_11 : fld Try.prog 199 11 = some (29, (.ag 2)) := by kernel_rfl
@[simp] theorem isArr_75 : isArr Try.prog 75 = false := by kernel_rfl
@[simp] theorem lnK_22 : lnK Try.prog 22 = some .sl := by kernel_rfl
@[simp] theorem lnK_27 : lnK Try.prog 27 = some .sl := by kernel_rfl
@[simp] theorem lnK_33 : lnK Try.prog 33 = some .sl := by kernel_rfl
@[simp] theorem lnK_36 : lnK Try.prog 36 = some .sl := by kernel_rfl
@[simp] theorem lnK_39 : lnK Try.prog 39 = some .sl := by kernel_rfl
@[simp] theorem lnK_40 : lnK Try.prog 40 = some .sl := by kernel_rfl
@[simp] theorem lnK_45 : lnK Try.prog 45 = some .sl := by kernel_rfl
@[simp] theorem lnK_48 : lnK Try.prog 48 = some .sl := by kernel_rfl
@[simp] theorem lnK_51 : lnK Try.prog 51 = some .sl := by kernel_rfl
@[simp] theorem lnK_143 : lnK Try.prog 143 = some .sl := by kernel_rfl
@[simp] theorem lnK_195 : lnK Try.prog 195 = some .sl := by kernel_rfl
@[simp] theorem plc_75 : plc Try.prog 75 = some [(0, 1), (1, 1), (2, 1), (3, 1)] := by kernel_rfl
@[simp] theorem tsh_3 : tsh Try.prog 3 = some .sc := by kernel_rfl
@[simp] theorem tsh_4 : tsh Try.prog 4 = some .sc := by kernel_rfl
@[simp] theorem tsh_22 : tsh Try.prog 22 = some .sc := by kernel_rfl
@[simp] theorem tsh_24 : tsh Try.prog 24 = some (.ag 2) := by kernel_rfl
@[simp] theorem tsh_27 : tsh Try.prog 27 = some .sc := by kernel_rfl
@[simp] theorem tsh_29 : tsh Try.prog 29 = some (.ag 2) := by kernel_rfl
@[simp] theorem tsh_33 : tsh Try.prog 33 = some .sc := by kernel_rfl
@[simp] theorem tsh_35 : tsh Try.prog 35 = some (.ag 1) := by kernel_rfl
@[simp] theorem tsh_36 : tsh Try.prog 36 = some .sc := by kernel_rfl
@[simp] theorem tsh_38 : tsh Try.prog 38 = some (.ag 3) := by kernel_rfl
@[simp] theorem tsh_39 : tsh Try.prog 39 = some .sc := by kernel_rfl
@[simp] theorem tsh_40 : tsh Try.prog 40 = some .sc := by kernel_rfl
@[simp] theorem tsh_42 : tsh Try.prog 42 = some (.ag 9) := by kernel_rfl
@[simp] theorem tsh_45 : tsh Try.prog 45 = some .sc := by kernel_rfl
@[simp] theorem tsh_47 : tsh Try.prog 47 = some (.ag 1) := by kernel_rfl
@[simp] theorem tsh_48 : tsh Try.prog 48 = some .sc := by kernel_rfl
@[simp] theorem tsh_50 : tsh Try.prog 50 = some (.ag 3) := by kernel_rfl
@[simp] theorem tsh_51 : tsh Try.prog 51 = some .sc := by kernel_rfl
@[simp] theorem tsh_53 : tsh Try.prog 53 = some (.ag 9) := by kernel_rfl
@[simp] theorem tsh_58 : tsh Try.prog 58 = some (.ag 6) := by kernel_rfl
@[simp] theorem tsh_75 : tsh Try.prog 75 = some (.ag 4) := by kernel_rfl
@[simp] theorem tsh_77 : tsh Try.prog 77 = some (.ag 5) := by kernel_rfl
@[simp] theorem tsh_81 : tsh Try.prog 81 = some (.ag 4) := by kernel_rfl
@[simp] theorem tsh_83 : tsh Try.prog 83 = some (.ag 2) := by kernel_rfl
@[simp] theorem tsh_85 : tsh Try.prog 85 = some (.ag 13) := by kernel_rfl
@[simp] theorem tsh_101 : tsh Try.prog 101 = some (.ag 6) := by kernel_rfl
@[simp] theorem tsh_114 : tsh Try.prog 114 = some (.ag 4) := by kernel_rfl
@[simp] theorem tsh_116 : tsh Try.prog 116 = some (.ag 5) := by kernel_rfl
@[simp] theorem tsh_117 : tsh Try.prog 117 = some (.ag 4) := by kernel_rfl
@[simp] theorem tsh_118 : tsh Try.prog 118 = some (.ag 2) := by kernel_rfl
@[simp] theorem tsh_120 : tsh Try.prog 120 = some (.ag 13) := by kernel_rfl
@[simp] theorem tsh_143 : tsh Try.prog 143 = some .sc := by kernel_rfl
@[simp] theorem tsh_145 : tsh Try.prog 145 = some (.ag 2) := by kernel_rfl
@[simp] theorem tsh_147 : tsh Try.prog 147 = some (.ag 31) := by kernel_rfl
@[simp] theorem tsh_188 : tsh Try.prog 188 = some (.ag 6) := by kernel_rfl
@[simp] theorem tsh_194 : tsh Try.prog 194 = some (.ag 6) := by kernel_rfl
@[simp] theorem tsh_195 : tsh Try.prog 195 = some .sc := by kernel_rfl
@[simp] theorem tsh_197 : tsh Try.prog 197 = some (.ag 2) := by kernel_rfl
@[simp] theorem tsh_199 : tsh Try.prog 199 = some (.ag 31) := by kernel_rfl
@[simp] theorem zer_3 : zer Try.prog 3 = some (AV.int .i64 0) := by kernel_rfl
@[simp] theorem zer_29 : zer Try.prog 29 = some (AV.agg [AV.int .i64 0, AV.nilsl]) := by kernel_rfl
@[simp] theorem zer_47 : zer Try.prog 47 = some (AV.agg [AV.nilsl]) := by kernel_rfl
@[simp] theorem zer_50 : zer Try.prog 50 = some (AV.agg [AV.int .i64 0, AV.int .i64 0, AV.nilsl]) := by kernel_rfl
@[simp] theorem zer_53 : zer Try.prog 53 = some (AV.agg [AV.nilsl, AV.int .i64 0, AV.int .i64 0, AV.nilsl, AV.nilsl, AV.nilsl, AV.int .i64 0, AV.nilsl, AV.int .i64 0]) := by kernel_rfl
@[simp] theorem zer_58 : zer Try.prog 58 = some (AV.agg [AV.int .i64 0, AV.int .i64 0, AV.int .i64 0, AV.int .i64 0, AV.int .i64 0, AV.int .i64 0]) := by kernel_rfl
@[simp] theorem zer_75 : zer Try.prog 75 = some (AV.agg [AV.int .i64 0, AV.int .i64 0, AV.int .i64 0, AV.int .i64 0]) := by kernel_rfl
@[simp] theorem zer_77 : zer Try.prog 77 = some (AV.agg [AV.int .i64 0, AV.int .i64 0, AV.int .i64 0, AV.int .i64 0, AV.nilsl]) := by kernel_rfl
@[simp] theorem zer_81 : zer Try.prog 81 = some (AV.agg [AV.int .i64 0, AV.int .i64 0, AV.int .i64 0, AV.int .i64 0]) := by kernel_rfl
@[simp] theorem zer_83 : zer Try.prog 83 = some (AV.agg [AV.int .i64 0, AV.int .i64 0]) := by kernel_rfl
@[simp] theorem zer_85 : zer Try.prog 85 = some (AV.agg [AV.int .i64 0, AV.int .i64 0, AV.int .i64 0, AV.int .i64 0, AV.int .i64 0, AV.int .i64 0, AV.int .i64 0, AV.int .i64 0, AV.int .i64 0, AV.int .i64 0, AV.int .i64 0, AV.int .i64 0, AV.int .i64 0]) := by kernel_rfl
@[simp] theorem zer_101 : zer Try.prog 101 = some (AV.agg [AV.int .i64 0, AV.int .i64 0, AV.int .i64 0, AV.int .i64 0, AV.int .i64 0, AV.nilsl]) := by kernel_rfl
@[simp] theorem zer_114 : zer Try.prog 114 = some (AV.agg [AV.int .i64 0, AV.int .i64 0, AV.int .i64 0, AV.int .i64 0]) := by kernel_rfl
@[simp] theorem zer_117 : zer Try.prog 117 = some (AV.agg [AV.int .i64 0, AV.int .i64 0, AV.int .i64 0, AV.int .i64 0]) := by kernel_rfl
@[simp] theorem zer_118 : zer Try.prog 118 = some (AV.agg [AV.int .i64 0, AV.int .i64 0]) := by kernel_rfl
@[simp] theorem zer_145 : zer Try.prog 145 = some (AV.agg [AV.nilsl, AV.nilsl]) := by kernel_rfl
@[simp] theorem zer_147 : zer Try.prog 147 = some (AV.agg [AV.int .i64 0, AV.int .i64 0, AV.bool false, AV.int .i64 0, AV.int .i64 0, AV.int .i64 0, AV.int .i64 0, AV.int .i64 0, AV.int .i64 0, AV.nilsl, AV.nilsl, AV.bool false, AV.int .i64 0, AV.nilsl, AV.int .i64 0, AV.int .i64 0, AV.int .i64 0, AV.int .i64 0, AV.int .i64 0, AV.int .i64 0, AV.int .i64 0, AV.int .i64 0, AV.int .i64 0, AV.int .i64 0, AV.int .i64 0, AV.int .i64 0, AV.int .i64 0, AV.int .i64 0, AV.int .i64 0, AV.nilsl, AV.nilsl]) := by kernel_rfl
@[simp] theorem zer_188 : zer Try.prog 188 = some (AV.agg [AV.int .i64 0, AV.int .i64 0, AV.int .i64 0, AV.int .i64 0, AV.int .i64 0, AV.nilsl]) := by kernel_rfl
@[simp] theorem zer_199 : zer Try.prog 199 = some (AV.agg [AV.int .i64 0, AV.int .i64 0, AV.bool false, AV.int .i64 0, AV.int .i64 0, AV.int .i64 0, AV.int .i64 0, AV.int .i64 0, AV.int .i64 0, AV.nilsl, AV.nilsl, AV.bool false, AV.int .i64 0, AV.nilsl, AV.int .i64 0, AV.int .i64 0, AV.int .i64 0, AV.int .i64 0, AV.int .i64 0, AV.int .i64 0, AV.int .i64 0, AV.int .i64 0, AV.int .i64 0, AV.int .i64 0, AV.int .i64 0, AV.int .i64 0, AV.int .i64 0, AV.int .i64 0, AV.int .i64 0, AV.nilsl, AV.nilsl]) := by kernel_rfl
def E0 : FuncId → Md := fun f => (lkp [(54, { keep := true }), (62, { keep := true }), (68, { keep := true }), (86, { keep := true }), (141, { keep := true })] f).getD {}
@[simp] theorem E0_4 : E0 4 = {} := rfl
@[simp] theorem E0_12 : E0 12 = {} := rfl
@[simp] theorem E0_14 : E0 14 = {} := rfl
@[simp] theorem E0_16 : E0 16 = {} := rfl
@[simp] theorem E0_17 : E0 17 = {} := rfl
@[simp] theorem E0_18 : E0 18 = {} := rfl
@[simp] theorem E0_19 : E0 19 = {} := rfl
@[simp] theorem E0_20 : E0 20 = {} := rfl
@[simp] theorem E0_21 : E0 21 = {} := rfl
@[simp] theorem E0_22 : E0 22 = {} := rfl
@[simp] theorem E0_24 : E0 24 = {} := rfl
@[simp] theorem E0_26 : E0 26 = {} := rfl
@[simp] theorem E0_27 : E0 27 = {} := rfl
@[simp] theorem E0_34 : E0 34 = {} := rfl
@[simp] theorem E0_52 : E0 52 = {} := rfl
@[simp] theorem E0_54 : E0 54 = { keep := true } := rfl
@[simp] theorem E0_56 : E0 56 = {} := rfl
@[simp] theorem E0_57 : E0 57 = {} := rfl
@[simp] theorem E0_61 : E0 61 = {} := rfl
@[simp] theorem E0_62 : E0 62 = { keep := true } := rfl
@[simp] theorem E0_63 : E0 63 = {} := rfl
@[simp] theorem E0_66 : E0 66 = {} := rfl
@[simp] theorem E0_68 : E0 68 = { keep := true } := rfl
@[simp] theorem E0_69 : E0 69 = {} := rfl
@[simp] theorem E0_70 : E0 70 = {} := rfl
@[simp] theorem E0_72 : E0 72 = {} := rfl
@[simp] theorem E0_73 : E0 73 = {} := rfl
@[simp] theorem E0_75 : E0 75 = {} := rfl
@[simp] theorem E0_76 : E0 76 = {} := rfl
@[simp] theorem E0_79 : E0 79 = {} := rfl
@[simp] theorem E0_80 : E0 80 = {} := rfl
@[simp] theorem E0_81 : E0 81 = {} := rfl
@[simp] theorem E0_82 : E0 82 = {} := rfl
@[simp] theorem E0_83 : E0 83 = {} := rfl
@[simp] theorem E0_84 : E0 84 = {} := rfl
@[simp] theorem E0_85 : E0 85 = {} := rfl
@[simp] theorem E0_86 : E0 86 = { keep := true } := rfl
@[simp] theorem E0_87 : E0 87 = {} := rfl
@[simp] theorem E0_88 : E0 88 = {} := rfl
@[simp] theorem E0_89 : E0 89 = {} := rfl
@[simp] theorem E0_90 : E0 90 = {} := rfl
@[simp] theorem E0_91 : E0 91 = {} := rfl
@[simp] theorem E0_96 : E0 96 = {} := rfl
@[simp] theorem E0_99 : E0 99 = {} := rfl
@[simp] theorem E0_102 : E0 102 = {} := rfl
@[simp] theorem E0_112 : E0 112 = {} := rfl
@[simp] theorem E0_121 : E0 121 = {} := rfl
@[simp] theorem E0_137 : E0 137 = {} := rfl
@[simp] theorem E0_138 : E0 138 = {} := rfl
@[simp] theorem E0_139 : E0 139 = {} := rfl
@[simp] theorem E0_140 : E0 140 = {} := rfl
@[simp] theorem E0_141 : E0 141 = { keep := true } := rfl
@[simp] theorem E0_142 : E0 142 = {} := rfl
@[simp] theorem E0_145 : E0 145 = {} := rfl
@[simp] theorem E0_146 : E0 146 = {} := rfl
@[simp] theorem E0_147 : E0 147 = {} := rfl
@[simp] theorem E0_149 : E0 149 = {} := rfl
@[simp] theorem E0_153 : E0 153 = {} := rfl
@[simp] theorem E0_154 : E0 154 = {} := rfl
@[simp] theorem E0_155 : E0 155 = {} := rfl
@[simp] theorem E0_156 : E0 156 = {} := rfl
@[simp] theorem E0_157 : E0 157 = {} := rfl
@[simp] theorem E0_158 : E0 158 = {} := rfl
@[simp] theorem E0_159 : E0 159 = {} := rfl
@[simp] theorem E0_163 : E0 163 = {} := rfl
@[simp] theorem E0_169 : E0 169 = {} := rfl
@[simp] theorem E0_178 : E0 178 = {} := rfl
@[simp] theorem E0_180 : E0 180 = {} := rfl
@[simp] theorem E0_193 : E0 193 = {} := rfl
@[simp] theorem E0_202 : E0 202 = {} := rfl
@[simp] theorem E0_203 : E0 203 = {} := rfl
@[simp] theorem E0_208 : E0 208 = {} := rfl
@[simp] theorem E0_209 : E0 209 = {} := rfl
@[simp] theorem E0_217 : E0 217 = {} := rfl
@[simp] theorem E0_218 : E0 218 = {} := rfl
@[simp] theorem E0_235 : E0 235 = {} := rfl
@[simp] theorem E0_236 : E0 236 = {} := rfl
@[simp] theorem E0_239 : E0 239 = {} := rfl
@[simp] theorem E0_240 : E0 240 = {} := rfl
structure TMat where
  a : Int
  b : Int
  c : Int
  d : Int
  e : Int
  f : Int
@[simp] def eMat (a : TMat) : AV := .agg [AV.int .i64 a.a, AV.int .i64 a.b, AV.int .i64 a.c, AV.int .i64 a.d, AV.int .i64 a.e, AV.int .i64 a.f]
@[simp] theorem wid_eMat : wid eMat 6 = True := eq_true ⟨by simp⟩
@[simp] theorem eta_TMat (a : TMat) : TMat.mk a.a a.b a.c a.d a.e a.f = a := rfl
theorem inj_eMat : Inj eMat := by
  constructor
  rintro ⟨x0, x1, x2, x3, x4, x5⟩ ⟨y0, y1, y2, y3, y4, y5⟩ h
  simp at h
  simp [h]
@[simp] theorem Inj_eMat : Inj eMat = True := eq_true inj_eMat
structure TPoint where
  x : Int
  y : Int
@[simp] def ePoint (a : TPoint) : AV := .agg [AV.int .i64 a.x, AV.int .i64 a.y]
@[simp] theorem wid_ePoint : wid ePoint 2 = True := eq_true ⟨by simp⟩
@[simp] theorem eta_TPoint (a : TPoint) : TPoint.mk a.x a.y = a := rfl
theorem inj_ePoint : Inj ePoint := by
  constructor
  rintro ⟨x0, x1⟩ ⟨y0, y1⟩ h
  simp at h
  simp [h]
@[simp] theorem Inj_ePoint : Inj ePoint = True := eq_true inj_ePoint
structure TPath where
  verbs : List Int
  points : List TPoint
@[simp] def ePath (a : TPath) : AV := .agg [AV.fsl (List.map (AV.int .i64) a.verbs), AV.fsl (List.map ePoint a.points)]
@[simp] theorem wid_ePath : wid ePath 2 = True := eq_true ⟨by simp⟩
@[simp] theorem eta_TPath (a : TPath) : TPath.mk a.verbs a.points = a := rfl
theorem inj_ePath : Inj ePath := by
  constructor
  rintro ⟨x0, x1⟩ ⟨y0, y1⟩ h
  simp at h
  simp [h]
@[simp] theorem Inj_ePath : Inj ePath = True := eq_true inj_ePath
structure TColor where
  r : Int
  g : Int
  b : Int
  a : Int
@[simp] def eColor (a : TColor) : AV := .agg [AV.int .i64 a.r, AV.int .i64 a.g, AV.int .i64 a.b, AV.int .i64 a.a]
@[simp] theorem wid_eColor : wid eColor 4 = True := eq_true ⟨by simp⟩
@[simp] theorem eta_TColor (a : TColor) : TColor.mk a.r a.g a.b a.a = a := rfl
theorem inj_eColor : Inj eColor := by
  constructor
  rintro ⟨x0, x1, x2, x3⟩ ⟨y0, y1, y2, y3⟩ h
  simp at h
  simp [h]
@[simp] theorem Inj_eColor : Inj eColor = True := eq_true inj_eColor
structure TPaint where
  kind : Int
  first : TColor
  last : TColor
  from_ : TPoint
  to : TPoint
@[simp] def ePaint (a : TPaint) : AV := .agg [AV.int .i64 a.kind, AV.int .i64 a.first.r, AV.int .i64 a.first.g, AV.int .i64 a.first.b, AV.int .i64 a.first.a, AV.int .i64 a.last.r, AV.int .i64 a.last.g, AV.int .i64 a.last.b, AV.int .i64 a.last.a, AV.int .i64 a.from_.x, AV.int .i64 a.from_.y, AV.int .i64 a.to.x, AV.int .i64 a.to.y]
@[simp] theorem wid_ePaint : wid ePaint 13 = True := eq_true ⟨by simp⟩
@[simp] theorem eta_TPaint (a : TPaint) : TPaint.mk a.kind a.first a.last a.from_ a.to = a := rfl
theorem inj_ePaint : Inj ePaint := by
  constructor
  rintro ⟨x0, ⟨x1, x2, x3, x4⟩, ⟨x5, x6, x7, x8⟩, ⟨x9, x10⟩, ⟨x11, x12⟩⟩ ⟨y0, ⟨y1, y2, y3, y4⟩, ⟨y5, y6, y7, y8⟩, ⟨y9, y10⟩, ⟨y11, y12⟩⟩ h
  simp at h
  simp [h]
@[simp] theorem Inj_ePaint : Inj ePaint = True := eq_true inj_ePaint
structure TNode where
  id : Int
  parent : Int
  group : Bool
  mat : TMat
  path : TPath
  even : Bool
  width : Int
  dashes : List Int
  paint : TPaint
  mode : Int
  fade : Int
  clip : TPath
@[simp] def eNode (a : TNode) : AV := .agg [AV.int .i64 a.id, AV.int .i64 a.parent, AV.bool a.group, AV.int .i64 a.mat.a, AV.int .i64 a.mat.b, AV.int .i64 a.mat.c, AV.int .i64 a.mat.d, AV.int .i64 a.mat.e, AV.int .i64 a.mat.f, AV.fsl (List.map (AV.int .i64) a.path.verbs), AV.fsl (List.map ePoint a.path.points), AV.bool a.even, AV.int .i64 a.width, AV.fsl (List.map (AV.int .i64) a.dashes), AV.int .i64 a.paint.kind, AV.int .i64 a.paint.first.r, AV.int .i64 a.paint.first.g, AV.int .i64 a.paint.first.b, AV.int .i64 a.paint.first.a, AV.int .i64 a.paint.last.r, AV.int .i64 a.paint.last.g, AV.int .i64 a.paint.last.b, AV.int .i64 a.paint.last.a, AV.int .i64 a.paint.from_.x, AV.int .i64 a.paint.from_.y, AV.int .i64 a.paint.to.x, AV.int .i64 a.paint.to.y, AV.int .i64 a.mode, AV.int .i64 a.fade, AV.fsl (List.map (AV.int .i64) a.clip.verbs), AV.fsl (List.map ePoint a.clip.points)]
@[simp] theorem wid_eNode : wid eNode 31 = True := eq_true ⟨by simp⟩
@[simp] theorem eta_TNode (a : TNode) : TNode.mk a.id a.parent a.group a.mat a.path a.even a.width a.dashes a.paint a.mode a.fade a.clip = a := rfl
theorem inj_eNode : Inj eNode := by
  constructor
  rintro ⟨x0, x1, x2, ⟨x3, x4, x5, x6, x7, x8⟩, ⟨x9, x10⟩, x11, x12, x13, ⟨x14, ⟨x15, x16, x17, x18⟩, ⟨x19, x20, x21, x22⟩, ⟨x23, x24⟩, ⟨x25, x26⟩⟩, x27, x28, ⟨x29, x30⟩⟩ ⟨y0, y1, y2, ⟨y3, y4, y5, y6, y7, y8⟩, ⟨y9, y10⟩, y11, y12, y13, ⟨y14, ⟨y15, y16, y17, y18⟩, ⟨y19, y20, y21, y22⟩, ⟨y23, y24⟩, ⟨y25, y26⟩⟩, y27, y28, ⟨y29, y30⟩⟩ h
  simp at h
  simp [h]
@[simp] theorem Inj_eNode : Inj eNode = True := eq_true inj_eNode
structure TScene where
  nodes : List TNode
@[simp] def eScene (a : TScene) : AV := .agg [AV.fsl (List.map eNode a.nodes)]
@[simp] theorem wid_eScene : wid eScene 1 = True := eq_true ⟨by simp⟩
@[simp] theorem eta_TScene (a : TScene) : TScene.mk a.nodes = a := rfl
theorem inj_eScene : Inj eScene := by
  constructor
  rintro ⟨x0⟩ ⟨y0⟩ h
  simp at h
  simp [h]
@[simp] theorem Inj_eScene : Inj eScene = True := eq_true inj_eScene
structure TSurface where
  w : Int
  h : Int
  pix : List TColor
@[simp] def eSurface (a : TSurface) : AV := .agg [AV.int .i64 a.w, AV.int .i64 a.h, AV.fsl (List.map eColor a.pix)]
@[simp] theorem wid_eSurface : wid eSurface 3 = True := eq_true ⟨by simp⟩
@[simp] theorem eta_TSurface (a : TSurface) : TSurface.mk a.w a.h a.pix = a := rfl
theorem inj_eSurface : Inj eSurface := by
  constructor
  rintro ⟨x0, x1, x2⟩ ⟨y0, y1, y2⟩ h
  simp at h
  simp [h]
@[simp] theorem Inj_eSurface : Inj eSurface = True := eq_true inj_eSurface
structure TBox where
  x0 : Int
  y0 : Int
  x1 : Int
  y1 : Int
@[simp] def eBox (a : TBox) : AV := .agg [AV.int .i64 a.x0, AV.int .i64 a.y0, AV.int .i64 a.x1, AV.int .i64 a.y1]
@[simp] theorem wid_eBox : wid eBox 4 = True := eq_true ⟨by simp⟩
@[simp] theorem eta_TBox (a : TBox) : TBox.mk a.x0 a.y0 a.x1 a.y1 = a := rfl
theorem inj_eBox : Inj eBox := by
  constructor
  rintro ⟨x0, x1, x2, x3⟩ ⟨y0, y1, y2, y3⟩ h
  simp at h
  simp [h]
@[simp] theorem Inj_eBox : Inj eBox = True := eq_true inj_eBox
structure TMask where
  box : TBox
  bits : List Int
@[simp] def eMask (a : TMask) : AV := .agg [AV.int .i64 a.box.x0, AV.int .i64 a.box.y0, AV.int .i64 a.box.x1, AV.int .i64 a.box.y1, AV.fsl (List.map (AV.int .i64) a.bits)]
@[simp] theorem wid_eMask : wid eMask 5 = True := eq_true ⟨by simp⟩
@[simp] theorem eta_TMask (a : TMask) : TMask.mk a.box a.bits = a := rfl
theorem inj_eMask : Inj eMask := by
  constructor
  rintro ⟨⟨x0, x1, x2, x3⟩, x4⟩ ⟨⟨y0, y1, y2, y3⟩, y4⟩ h
  simp at h
  simp [h]
@[simp] theorem Inj_eMask : Inj eMask = True := eq_true inj_eMask
structure TKept where
  id : Int
  mask : TMask
@[simp] def eKept (a : TKept) : AV := .agg [AV.int .i64 a.id, AV.int .i64 a.mask.box.x0, AV.int .i64 a.mask.box.y0, AV.int .i64 a.mask.box.x1, AV.int .i64 a.mask.box.y1, AV.fsl (List.map (AV.int .i64) a.mask.bits)]
@[simp] theorem wid_eKept : wid eKept 6 = True := eq_true ⟨by simp⟩
@[simp] theorem eta_TKept (a : TKept) : TKept.mk a.id a.mask = a := rfl
theorem inj_eKept : Inj eKept := by
  constructor
  rintro ⟨x0, ⟨⟨x1, x2, x3, x4⟩, x5⟩⟩ ⟨y0, ⟨⟨y1, y2, y3, y4⟩, y5⟩⟩ h
  simp at h
  simp [h]
@[simp] theorem Inj_eKept : Inj eKept = True := eq_true inj_eKept
structure TCache where
  most : Int
  list : List TKept
@[simp] def eCache (a : TCache) : AV := .agg [AV.int .i64 a.most, AV.fsl (List.map eKept a.list)]
@[simp] theorem wid_eCache : wid eCache 2 = True := eq_true ⟨by simp⟩
@[simp] theorem eta_TCache (a : TCache) : TCache.mk a.most a.list = a := rfl
theorem inj_eCache : Inj eCache := by
  constructor
  rintro ⟨x0, x1⟩ ⟨y0, y1⟩ h
  simp at h
  simp [h]
@[simp] theorem Inj_eCache : Inj eCache = True := eq_true inj_eCache
structure TEngine where
  scene : TScene
  frame : TSurface
  dirty : List TBox
  stamps : List Int
  cache : TCache
  painted : Int
@[simp] def eEngine (a : TEngine) : AV := .agg [AV.fsl (List.map eNode a.scene.nodes), AV.int .i64 a.frame.w, AV.int .i64 a.frame.h, AV.fsl (List.map eColor a.frame.pix), AV.fsl (List.map eBox a.dirty), AV.fsl (List.map (AV.int .i64) a.stamps), AV.int .i64 a.cache.most, AV.fsl (List.map eKept a.cache.list), AV.int .i64 a.painted]
@[simp] theorem wid_eEngine : wid eEngine 9 = True := eq_true ⟨by simp⟩
@[simp] theorem eta_TEngine (a : TEngine) : TEngine.mk a.scene a.frame a.dirty a.stamps a.cache a.painted = a := rfl
theorem inj_eEngine : Inj eEngine := by
  constructor
  rintro ⟨⟨x0⟩, ⟨x1, x2, x3⟩, x4, x5, ⟨x6, x7⟩, x8⟩ ⟨⟨y0⟩, ⟨y1, y2, y3⟩, y4, y5, ⟨y6, y7⟩, y8⟩ h
  simp at h
  simp [h]
@[simp] theorem Inj_eEngine : Inj eEngine = True := eq_true inj_eEngine
end Go.Proofs.Ytoafihhhdnmliaa.Am
