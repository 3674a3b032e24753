import Derived.Test.YtokobfpimdadmaaAmNm
import Derived.Test.YtokobfpimdadmaaProg
import Derived.KernelRfl
set_option linter.unusedVariables false
set_option linter.unusedSimpArgs false
set_option linter.unusedSectionVars false
namespace Go.Proofs.Ytokobfpimdadmaa.Am
open Go Go.Proofs
set_option maxRecDepth 100000
set_option linter.unusedSimpArgs false
@[simp] theorem art_22 : art Try.prog 22 = none := by kernel_rfl
@[simp] theorem art_24 : art Try.prog 24 = none := by kernel_rfl
@[simp] theorem art_29 : art Try.prog 29 = none := by kernel_rfl
@[simp] theorem art_40 : art Try.prog 40 = none := by kernel_rfl
@[simp] theorem art_43 : art Try.prog 43 = none := by kernel_rfl
@[simp] theorem art_44 : art Try.prog 44 = none := by kernel_rfl
@[simp] theorem art_46 : art Try.prog 46 = none := by kernel_rfl
@[simp] theorem art_48 : art Try.prog 48 = none := by kernel_rfl
@[simp] theorem art_50 : art Try.prog 50 = none := by kernel_rfl
@[simp] theorem art_52 : art Try.prog 52 = none := by kernel_rfl
@[simp] theorem art_54 : art Try.prog 54 = none := by kernel_rfl
@[simp] theorem art_93 : art Try.prog 93 = none := by kernel_rfl
@[simp] theorem art_99 : art Try.prog 99 = none := by kernel_rfl
@[simp] theorem art_128 : art Try.prog 128 = some (4, .sc) := by kernel_rfl
@[simp] theorem cvt_5_3 : cvt Try.prog 5 3 = some (.int .i64) := by kernel_rfl
@[simp] theorem elt_22 : elt Try.prog 22 = some (54, (.ag 31), 328) := by kernel_rfl
@[simp] theorem elt_29 : elt Try.prog 29 = some (3, .sc, 8) := by kernel_rfl
@[simp] theorem elt_40 : elt Try.prog 40 = some (5, .sc, 1) := by kernel_rfl
@[simp] theorem elt_44 : elt Try.prog 44 = some (50, (.ag 2), 16) := by kernel_rfl
@[simp] theorem eqk_3 : eqk Try.prog 3 = some (false, [.i]) := by kernel_rfl
@[simp] theorem eqk_4 : eqk Try.prog 4 = some (false, [.b]) := by kernel_rfl
@[simp] theorem eqk_43 : eqk Try.prog 43 = some (true, [.i, .i, .i, .i, .i, .i]) := by kernel_rfl
@[simp] theorem eqk_48 : eqk Try.prog 48 = some (true, [.i, .i, .i, .i]) := by kernel_rfl
@[simp] theorem eqk_50 : eqk Try.prog 50 = some (true, [.i, .i]) := by kernel_rfl
@[simp] theorem eqk_52 : eqk Try.prog 52 = some (true, [.i, .i, .i, .i, .i, .i, .i, .i, .i, .i, .i, .i, .i]) := by kernel_rfl
@[simp] theorem fld_24_0 : fld Try.prog 24 0 = some (0, .sc) := by kernel_rfl
@[simp] theorem fld_43_0 : fld Try.prog 43 0 = some (0, .sc) := by kernel_rfl
@[simp] theorem fld_43_1 : fld Try.prog 43 1 = some (1, .sc) := by kernel_rfl
@[simp] theorem fld_43_2 : fld Try.prog 43 2 = some (2, .sc) := by kernel_rfl
@[simp] theorem fld_43_3 : fld Try.prog 43 3 = some (3, .sc) := by kernel_rfl
@[simp] theorem fld_43_4 : fld Try.prog 43 4 = some (4, .sc) := by kernel_rfl
@[simp] theorem fld_43_5 : fld Try.prog 43 5 = some (5, .sc) := by kernel_rfl
@[simp] theorem fld_46_0 : fld Try.prog 46 0 = some (0, .sc) := by kernel_rfl
@[simp] theorem fld_46_1 : fld Try.prog 46 1 = some (1, .sc) := by kernel_rfl
@[simp] theorem fld_48_0 : fld Try.prog 48 0 = some (0, .sc) := by kernel_rfl
@[simp] theorem fld_48_1 : fld Try.prog 48 1 = some (1, .sc) := by kernel_rfl
@[simp] theorem fld_48_2 : fld Try.prog 48 2 = some (2, .sc) := by kernel_rfl
@[simp] theorem fld_48_3 : fld Try.prog 48 3 = some (3, .sc) := by kernel_rfl
@[simp] theorem fld_50_0 : fld Try.prog 50 0 = some (0, .sc) := by kernel_rfl
@[simp] theorem fld_50_1 : fld Try.prog 50 1 = some (1, .sc) := by kernel_rfl
@[simp] theorem fld_52_0 : fld Try.prog 52 0 = some (0, .sc) := by kernel_rfl
@[simp] theorem fld_52_1 : fld Try.prog 52 1 = some (1, (.ag 4)) := by kernel_rfl
@[simp] theorem fld_52_2 : fld Try.prog 52 2 = some (5, (.ag 4)) := by kernel_rfl
@[simp] theorem fld_52_3 : fld Try.prog 52 3 = some (9, (.ag 2)) := by kernel_rfl
@[simp] theorem fld_52_4 : fld Try.prog 52 4 = some (11, (.ag 2)) := by kernel_rfl
@[simp] theorem fld_54_0 : fld Try.prog 54 0 = some (0, .sc) := by kernel_rfl
@[simp] theorem fld_54_1 : fld Try.prog 54 1 = some (1, .sc) := by kernel_rfl
@[simp] theorem fld_54_2 : fld Try.prog 54 2 = some (2, .sc) := by kernel_rfl
@[simp] theorem fld_54_3 : fld Try.prog 54 3 = some (3, (.ag 6)) := by kernel_rfl
@[simp] theorem fld_54_4 : fld Try.prog 54 4 = some (9, (.ag 2)) := by kernel_rfl
@[simp] theorem fld_54_5 : fld Try.prog 54 5 = some (11, .sc) := by kernel_rfl
@[simp] theorem fld_54_6 : fld Try.prog 54 6 = some (12, .sc) := by kernel_rfl
@[simp] theorem fld_54_7 : fld Try.prog 54 7 = some (13, .sc) := by kernel_rfl
@[simp] theorem fld_54_8 : fld Try.prog 54 8 = some (14, (.ag 13)) := by kernel_rfl
@[simp] theorem fld_54_9 : fld Try.prog 54 9 = some (27, .sc) := by kernel_rfl
@[simp] theorem fld_54_10 : fld Try.prog 54 10 = some (28, .sc) := by kernel_rfl
@[simp] theorem fld_54_11 : fld Try.prog 54 11 = some (29, (.ag 2)) := by kernel_rfl
@[simp] theorem fld_93_0 : fld Try.prog 93 0 = some (0, .sc) := by kernel_rfl
@[simp] theorem fld_93_1 : fld Try.prog 93 1 = some (1, .sc) := by kernel_rfl
@[simp] theorem fld_93_2 : fld Try.prog 93 2 = some (2, .sc) := by kernel_rfl
@[simp] theorem fld_93_3 : fld Try.prog 93 3 = some (3, .sc) := by kernel_rfl
@[simp] theorem fld_99_0 : fld Try.prog 99 0 = some (0, .sc) := by kernel_rfl
@[simp] theorem fld_99_1 : fld Try.prog 99 1 = some (1, .sc) := by kernel_rfl
@[simp] theorem fld_99_2 : fld Try.prog 99 2 = some (2, .sc) := by kernel_rfl
@[simp] theorem isArr_24 : isArr Try.prog 24 = false := by kernel_rfl
@[simp] theorem isArr_43 : isArr Try.prog 43 = false := by kernel_rfl
@[simp] theorem isArr_46 : isArr Try.prog 46 = false := by kernel_rfl
@[simp] theorem isArr_48 : isArr Try.prog 48 = false := by kernel_rfl
@[simp] theorem isArr_50 : isArr Try.prog 50 = false := by kernel_rfl
@[simp] theorem isArr_52 : isArr Try.prog 52 = false := by kernel_rfl
@[simp] theorem isArr_54 : isArr Try.prog 54 = false := by kernel_rfl
@[simp] theorem isArr_93 : isArr Try.prog 93 = false := by kernel_rfl
@[simp] theorem isArr_99 : isArr Try.prog 99 = false := by kernel_rfl
@[simp] theorem isArr_128 : isArr Try.prog 128 = true := by kernel_rfl
@[simp] theorem isStr_22 : isStr Try.prog 22 = false := by kernel_rfl
@[simp] theorem isStr_44 : isStr Try.prog 44 = false := by kernel_rfl
@[simp] theorem isStr_128 : isStr Try.prog 128 = false := by kernel_rfl
@[simp] theorem lnK_22 : lnK Try.prog 22 = some .sl := by kernel_rfl
@[simp] theorem lnK_29 : lnK Try.prog 29 = some .sl := by kernel_rfl
@[simp] theorem lnK_40 : lnK Try.prog 40 = some .sl := by kernel_rfl
@[simp] theorem lnK_44 : lnK Try.prog 44 = some .sl := by kernel_rfl
@[simp] theorem plc_24 : plc Try.prog 24 = some [(0, 1)] := by kernel_rfl
@[simp] theorem plc_43 : plc Try.prog 43 = some [(0, 1), (1, 1), (2, 1), (3, 1), (4, 1), (5, 1)] := by kernel_rfl
@[simp] theorem plc_46 : plc Try.prog 46 = some [(0, 1), (1, 1)] := by kernel_rfl
@[simp] theorem plc_48 : plc Try.prog 48 = some [(0, 1), (1, 1), (2, 1), (3, 1)] := by kernel_rfl
@[simp] theorem plc_50 : plc Try.prog 50 = some [(0, 1), (1, 1)] := by kernel_rfl
@[simp] theorem plc_52 : plc Try.prog 52 = some [(0, 1), (1, 4), (5, 4), (9, 2), (11, 2)] := by kernel_rfl
@[simp] theorem plc_54 : plc Try.prog 54 = some [(0, 1), (1, 1), (2, 1), (3, 6), (9, 2), (11, 1), (12, 1), (13, 1), (14, 13), (27, 1), (28, 1), (29, 2)] := by kernel_rfl
@[simp] theorem plc_93 : plc Try.prog 93 = some [(0, 1), (1, 1), (2, 1), (3, 1)] := by kernel_rfl
@[simp] theorem plc_99 : plc Try.prog 99 = some [(0, 1), (1, 1), (2, 1)] := by kernel_rfl
@[simp] theorem plc_128 : plc Try.prog 128 = none := by kernel_rfl
@[simp] theorem srcTy_22 : srcTy Try.prog 22 = true := by kernel_rfl
@[simp] theorem srcTy_29 : srcTy Try.prog 29 = true := by kernel_rfl
@[simp] theorem srcTy_44 : srcTy Try.prog 44 = true := by kernel_rfl
@[simp] theorem tsh_3 : tsh Try.prog 3 = some .sc := by kernel_rfl
@[simp] theorem tsh_4 : tsh Try.prog 4 = some .sc := by kernel_rfl
@[simp] theorem tsh_5 : tsh Try.prog 5 = some .sc := by kernel_rfl
@[simp] theorem tsh_22 : tsh Try.prog 22 = some .sc := by kernel_rfl
@[simp] theorem tsh_24 : tsh Try.prog 24 = some (.ag 1) := by kernel_rfl
@[simp] theorem tsh_29 : tsh Try.prog 29 = some .sc := by kernel_rfl
@[simp] theorem tsh_40 : tsh Try.prog 40 = some .sc := by kernel_rfl
@[simp] theorem tsh_43 : tsh Try.prog 43 = some (.ag 6) := by kernel_rfl
@[simp] theorem tsh_44 : tsh Try.prog 44 = some .sc := by kernel_rfl
@[simp] theorem tsh_46 : tsh Try.prog 46 = some (.ag 2) := by kernel_rfl
@[simp] theorem tsh_48 : tsh Try.prog 48 = some (.ag 4) := by kernel_rfl
@[simp] theorem tsh_50 : tsh Try.prog 50 = some (.ag 2) := by kernel_rfl
@[simp] theorem tsh_52 : tsh Try.prog 52 = some (.ag 13) := by kernel_rfl
@[simp] theorem tsh_54 : tsh Try.prog 54 = some (.ag 31) := by kernel_rfl
@[simp] theorem tsh_93 : tsh Try.prog 93 = some (.ag 4) := by kernel_rfl
@[simp] theorem zer_3 : zer Try.prog 3 = some (AV.int .i64 0) := by kernel_rfl
@[simp] theorem zer_5 : zer Try.prog 5 = some (AV.int .u8 0) := by kernel_rfl
@[simp] theorem zer_24 : zer Try.prog 24 = some (AV.agg [AV.nilsl]) := by kernel_rfl
@[simp] theorem zer_43 : zer Try.prog 43 = some (AV.agg [AV.int .i64 0, AV.int .i64 0, AV.int .i64 0, AV.int .i64 0, AV.int .i64 0, AV.int .i64 0]) := by kernel_rfl
@[simp] theorem zer_46 : zer Try.prog 46 = some (AV.agg [AV.nilsl, AV.nilsl]) := by kernel_rfl
@[simp] theorem zer_48 : zer Try.prog 48 = some (AV.agg [AV.int .i64 0, AV.int .i64 0, AV.int .i64 0, AV.int .i64 0]) := by kernel_rfl
@[simp] theorem zer_50 : zer Try.prog 50 = some (AV.agg [AV.int .i64 0, AV.int .i64 0]) := by kernel_rfl
@[simp] theorem zer_52 : zer Try.prog 52 = some (AV.agg [AV.int .i64 0, AV.int .i64 0, AV.int .i64 0, AV.int .i64 0, AV.int .i64 0, AV.int .i64 0, AV.int .i64 0, AV.int .i64 0, AV.int .i64 0, AV.int .i64 0, AV.int .i64 0, AV.int .i64 0, AV.int .i64 0]) := by kernel_rfl
@[simp] theorem zer_54 : zer Try.prog 54 = some (AV.agg [AV.int .i64 0, AV.int .i64 0, AV.bool false, AV.int .i64 0, AV.int .i64 0, AV.int .i64 0, AV.int .i64 0, AV.int .i64 0, AV.int .i64 0, AV.nilsl, AV.nilsl, AV.bool false, AV.int .i64 0, AV.nilsl, AV.int .i64 0, AV.int .i64 0, AV.int .i64 0, AV.int .i64 0, AV.int .i64 0, AV.int .i64 0, AV.int .i64 0, AV.int .i64 0, AV.int .i64 0, AV.int .i64 0, AV.int .i64 0, AV.int .i64 0, AV.int .i64 0, AV.int .i64 0, AV.int .i64 0, AV.nilsl, AV.nilsl]) := by kernel_rfl
@[simp] theorem zer_93 : zer Try.prog 93 = some (AV.agg [AV.int .i64 0, AV.int .i64 0, AV.int .i64 0, AV.int .i64 0]) := by kernel_rfl
@[simp] theorem zer_99 : zer Try.prog 99 = some (AV.agg [AV.nilsl, AV.int .i64 0, AV.int .i64 0]) := by kernel_rfl
@[simp] theorem zer_128 : zer Try.prog 128 = some (AV.agg [AV.int .i64 0, AV.int .i64 0, AV.int .i64 0, AV.int .i64 0]) := by kernel_rfl
def E0 : FuncId → Md := fun f => (lkp [(37, { keep := true }), (38, { own := true }), (39, { own := true }), (40, { own := true }), (41, { own := true }), (42, { own := true }), (43, { keep := true }), (48, { keep := true }), (71, { own := true }), (72, { own := true }), (73, { own := true }), (74, { own := true }), (76, { own := true }), (77, { own := true, keep := true }), (78, { own := true }), (79, { own := true }), (105, { own := true }), (107, { keep := true, lend := true }), (109, { own := true }), (110, { own := true })] f).getD {}
@[simp] theorem E0_4 : E0 4 = {} := rfl
@[simp] theorem E0_10 : E0 10 = {} := rfl
@[simp] theorem E0_11 : E0 11 = {} := rfl
@[simp] theorem E0_12 : E0 12 = {} := rfl
@[simp] theorem E0_13 : E0 13 = {} := rfl
@[simp] theorem E0_14 : E0 14 = {} := rfl
@[simp] theorem E0_15 : E0 15 = {} := rfl
@[simp] theorem E0_16 : E0 16 = {} := rfl
@[simp] theorem E0_17 : E0 17 = {} := rfl
@[simp] theorem E0_37 : E0 37 = { keep := true } := rfl
@[simp] theorem E0_38 : E0 38 = { own := true } := rfl
@[simp] theorem E0_39 : E0 39 = { own := true } := rfl
@[simp] theorem E0_40 : E0 40 = { own := true } := rfl
@[simp] theorem E0_41 : E0 41 = { own := true } := rfl
@[simp] theorem E0_42 : E0 42 = { own := true } := rfl
@[simp] theorem E0_43 : E0 43 = { keep := true } := rfl
@[simp] theorem E0_44 : E0 44 = {} := rfl
@[simp] theorem E0_45 : E0 45 = {} := rfl
@[simp] theorem E0_46 : E0 46 = {} := rfl
@[simp] theorem E0_47 : E0 47 = {} := rfl
@[simp] theorem E0_48 : E0 48 = { keep := true } := rfl
@[simp] theorem E0_49 : E0 49 = {} := rfl
@[simp] theorem E0_50 : E0 50 = {} := rfl
@[simp] theorem E0_51 : E0 51 = {} := rfl
@[simp] theorem E0_52 : E0 52 = {} := rfl
@[simp] theorem E0_53 : E0 53 = {} := rfl
@[simp] theorem E0_54 : E0 54 = {} := rfl
@[simp] theorem E0_55 : E0 55 = {} := rfl
@[simp] theorem E0_56 : E0 56 = {} := rfl
@[simp] theorem E0_57 : E0 57 = {} := rfl
@[simp] theorem E0_58 : E0 58 = {} := rfl
@[simp] theorem E0_71 : E0 71 = { own := true } := rfl
@[simp] theorem E0_72 : E0 72 = { own := true } := rfl
@[simp] theorem E0_73 : E0 73 = { own := true } := rfl
@[simp] theorem E0_74 : E0 74 = { own := true } := rfl
@[simp] theorem E0_75 : E0 75 = {} := rfl
@[simp] theorem E0_76 : E0 76 = { own := true } := rfl
@[simp] theorem E0_77 : E0 77 = { own := true, keep := true } := rfl
@[simp] theorem E0_78 : E0 78 = { own := true } := rfl
@[simp] theorem E0_79 : E0 79 = { own := true } := rfl
@[simp] theorem E0_80 : E0 80 = {} := rfl
@[simp] theorem E0_81 : E0 81 = {} := rfl
@[simp] theorem E0_82 : E0 82 = {} := rfl
@[simp] theorem E0_83 : E0 83 = {} := rfl
@[simp] theorem E0_84 : E0 84 = {} := rfl
@[simp] theorem E0_85 : E0 85 = {} := rfl
@[simp] theorem E0_86 : E0 86 = {} := rfl
@[simp] theorem E0_87 : E0 87 = {} := rfl
@[simp] theorem E0_88 : E0 88 = {} := rfl
@[simp] theorem E0_89 : E0 89 = {} := rfl
@[simp] theorem E0_90 : E0 90 = {} := rfl
@[simp] theorem E0_91 : E0 91 = {} := rfl
@[simp] theorem E0_92 : E0 92 = {} := rfl
@[simp] theorem E0_93 : E0 93 = {} := rfl
@[simp] theorem E0_94 : E0 94 = {} := rfl
@[simp] theorem E0_95 : E0 95 = {} := rfl
@[simp] theorem E0_96 : E0 96 = {} := rfl
@[simp] theorem E0_97 : E0 97 = {} := rfl
@[simp] theorem E0_98 : E0 98 = {} := rfl
@[simp] theorem E0_99 : E0 99 = {} := rfl
@[simp] theorem E0_105 : E0 105 = { own := true } := rfl
@[simp] theorem E0_106 : E0 106 = {} := rfl
@[simp] theorem E0_107 : E0 107 = { keep := true, lend := true } := rfl
@[simp] theorem E0_108 : E0 108 = {} := rfl
@[simp] theorem E0_109 : E0 109 = { own := true } := rfl
@[simp] theorem E0_110 : E0 110 = { own := true } := rfl
@[simp] theorem E0_111 : E0 111 = {} := rfl
@[simp] theorem E0_112 : E0 112 = {} := rfl
@[simp] theorem E0_113 : E0 113 = {} := rfl
@[simp] theorem E0_114 : E0 114 = {} := rfl
@[simp] theorem E0_115 : E0 115 = {} := rfl
@[simp] theorem E0_116 : E0 116 = {} := rfl
@[simp] theorem E0_117 : E0 117 = {} := rfl
@[simp] theorem E0_118 : E0 118 = {} := rfl
@[simp] theorem E0_123 : E0 123 = {} := rfl
structure TMat where
  a : Int
  b : Int
  c : Int
  d : Int
  e : Int
  f : Int
@[simp] def eMat (a : TMat) : AV := .agg [AV.int .i64 a.a, AV.int .i64 a.b, AV.int .i64 a.c, AV.int .i64 a.d, AV.int .i64 a.e, AV.int .i64 a.f]
@[simp] theorem wid_eMat : wid eMat 6 = True := eq_true ⟨by simp⟩
@[simp] theorem eta_TMat (a : TMat) : TMat.mk a.a a.b a.c a.d a.e a.f = a := rfl
theorem inj_eMat : Inj eMat := by
  constructor
  rintro ⟨x0, x1, x2, x3, x4, x5⟩ ⟨y0, y1, y2, y3, y4, y5⟩ h
  simp at h
  simp [h]
@[simp] theorem Inj_eMat : Inj eMat = True := eq_true inj_eMat
@[simp] theorem pln_eMat : pln eMat = True := eq_true ⟨fun a => by simp⟩
structure TPoint where
  x : Int
  y : Int
@[simp] def ePoint (a : TPoint) : AV := .agg [AV.int .i64 a.x, AV.int .i64 a.y]
@[simp] theorem wid_ePoint : wid ePoint 2 = True := eq_true ⟨by simp⟩
@[simp] theorem eta_TPoint (a : TPoint) : TPoint.mk a.x a.y = a := rfl
theorem inj_ePoint : Inj ePoint := by
  constructor
  rintro ⟨x0, x1⟩ ⟨y0, y1⟩ h
  simp at h
  simp [h]
@[simp] theorem Inj_ePoint : Inj ePoint = True := eq_true inj_ePoint
@[simp] theorem pln_ePoint : pln ePoint = True := eq_true ⟨fun a => by simp⟩
structure TPath where
  verbs : List Int
  points : List TPoint
@[simp] def ePath (a : TPath) : AV := .agg [AV.fsl (List.map (AV.int .i64) a.verbs), AV.fsl (List.map ePoint a.points)]
@[simp] theorem wid_ePath : wid ePath 2 = True := eq_true ⟨by simp⟩
@[simp] theorem eta_TPath (a : TPath) : TPath.mk a.verbs a.points = a := rfl
theorem inj_ePath : Inj ePath := by
  constructor
  rintro ⟨x0, x1⟩ ⟨y0, y1⟩ h
  simp at h
  simp [h]
@[simp] theorem Inj_ePath : Inj ePath = True := eq_true inj_ePath
structure TColor where
  r : Int
  g : Int
  b : Int
  a : Int
@[simp] def eColor (a : TColor) : AV := .agg [AV.int .i64 a.r, AV.int .i64 a.g, AV.int .i64 a.b, AV.int .i64 a.a]
@[simp] theorem wid_eColor : wid eColor 4 = True := eq_true ⟨by simp⟩
@[simp] theorem eta_TColor (a : TColor) : TColor.mk a.r a.g a.b a.a = a := rfl
theorem inj_eColor : Inj eColor := by
  constructor
  rintro ⟨x0, x1, x2, x3⟩ ⟨y0, y1, y2, y3⟩ h
  simp at h
  simp [h]
@[simp] theorem Inj_eColor : Inj eColor = True := eq_true inj_eColor
@[simp] theorem pln_eColor : pln eColor = True := eq_true ⟨fun a => by simp⟩
structure TPaint where
  kind : Int
  first : TColor
  last : TColor
  from_ : TPoint
  to : TPoint
@[simp] def ePaint (a : TPaint) : AV := .agg [AV.int .i64 a.kind, AV.int .i64 a.first.r, AV.int .i64 a.first.g, AV.int .i64 a.first.b, AV.int .i64 a.first.a, AV.int .i64 a.last.r, AV.int .i64 a.last.g, AV.int .i64 a.last.b, AV.int .i64 a.last.a, AV.int .i64 a.from_.x, AV.int .i64 a.from_.y, AV.int .i64 a.to.x, AV.int .i64 a.to.y]
@[simp] theorem wid_ePaint : wid ePaint 13 = True := eq_true ⟨by simp⟩
@[simp] theorem eta_TPaint (a : TPaint) : TPaint.mk a.kind a.first a.last a.from_ a.to = a := rfl
theorem inj_ePaint : Inj ePaint := by
  constructor
  rintro ⟨x0, ⟨x1, x2, x3, x4⟩, ⟨x5, x6, x7, x8⟩, ⟨x9, x10⟩, ⟨x11, x12⟩⟩ ⟨y0, ⟨y1, y2, y3, y4⟩, ⟨y5, y6, y7, y8⟩, ⟨y9, y10⟩, ⟨y11, y12⟩⟩ h
  simp at h
  simp [h]
@[simp] theorem Inj_ePaint : Inj ePaint = True := eq_true inj_ePaint
@[simp] theorem pln_ePaint : pln ePaint = True := eq_true ⟨fun a => by simp⟩
structure TNode where
  id : Int
  parent : Int
  group : Bool
  mat : TMat
  path : TPath
  even : Bool
  width : Int
  dashes : List Int
  paint : TPaint
  mode : Int
  fade : Int
  clip : TPath
@[simp] def eNode (a : TNode) : AV := .agg [AV.int .i64 a.id, AV.int .i64 a.parent, AV.bool a.group, AV.int .i64 a.mat.a, AV.int .i64 a.mat.b, AV.int .i64 a.mat.c, AV.int .i64 a.mat.d, AV.int .i64 a.mat.e, AV.int .i64 a.mat.f, AV.fsl (List.map (AV.int .i64) a.path.verbs), AV.fsl (List.map ePoint a.path.points), AV.bool a.even, AV.int .i64 a.width, AV.fsl (List.map (AV.int .i64) a.dashes), AV.int .i64 a.paint.kind, AV.int .i64 a.paint.first.r, AV.int .i64 a.paint.first.g, AV.int .i64 a.paint.first.b, AV.int .i64 a.paint.first.a, AV.int .i64 a.paint.last.r, AV.int .i64 a.paint.last.g, AV.int .i64 a.paint.last.b, AV.int .i64 a.paint.last.a, AV.int .i64 a.paint.from_.x, AV.int .i64 a.paint.from_.y, AV.int .i64 a.paint.to.x, AV.int .i64 a.paint.to.y, AV.int .i64 a.mode, AV.int .i64 a.fade, AV.fsl (List.map (AV.int .i64) a.clip.verbs), AV.fsl (List.map ePoint a.clip.points)]
@[simp] theorem wid_eNode : wid eNode 31 = True := eq_true ⟨by simp⟩
@[simp] theorem eta_TNode (a : TNode) : TNode.mk a.id a.parent a.group a.mat a.path a.even a.width a.dashes a.paint a.mode a.fade a.clip = a := rfl
theorem inj_eNode : Inj eNode := by
  constructor
  rintro ⟨x0, x1, x2, ⟨x3, x4, x5, x6, x7, x8⟩, ⟨x9, x10⟩, x11, x12, x13, ⟨x14, ⟨x15, x16, x17, x18⟩, ⟨x19, x20, x21, x22⟩, ⟨x23, x24⟩, ⟨x25, x26⟩⟩, x27, x28, ⟨x29, x30⟩⟩ ⟨y0, y1, y2, ⟨y3, y4, y5, y6, y7, y8⟩, ⟨y9, y10⟩, y11, y12, y13, ⟨y14, ⟨y15, y16, y17, y18⟩, ⟨y19, y20, y21, y22⟩, ⟨y23, y24⟩, ⟨y25, y26⟩⟩, y27, y28, ⟨y29, y30⟩⟩ h
  simp at h
  simp [h]
@[simp] theorem Inj_eNode : Inj eNode = True := eq_true inj_eNode
structure TScene where
  nodes : List TNode
@[simp] def eScene (a : TScene) : AV := .agg [AV.fsl (List.map eNode a.nodes)]
@[simp] theorem wid_eScene : wid eScene 1 = True := eq_true ⟨by simp⟩
@[simp] theorem eta_TScene (a : TScene) : TScene.mk a.nodes = a := rfl
theorem inj_eScene : Inj eScene := by
  constructor
  rintro ⟨x0⟩ ⟨y0⟩ h
  simp at h
  simp [h]
@[simp] theorem Inj_eScene : Inj eScene = True := eq_true inj_eScene
structure TSurface where
  w : Int
  h : Int
  pix : List TColor
@[simp] def eSurface (a : TSurface) : AV := .agg [AV.int .i64 a.w, AV.int .i64 a.h, AV.fsl (List.map eColor a.pix)]
@[simp] theorem wid_eSurface : wid eSurface 3 = True := eq_true ⟨by simp⟩
@[simp] theorem eta_TSurface (a : TSurface) : TSurface.mk a.w a.h a.pix = a := rfl
theorem inj_eSurface : Inj eSurface := by
  constructor
  rintro ⟨x0, x1, x2⟩ ⟨y0, y1, y2⟩ h
  simp at h
  simp [h]
@[simp] theorem Inj_eSurface : Inj eSurface = True := eq_true inj_eSurface
structure TBox where
  x0 : Int
  y0 : Int
  x1 : Int
  y1 : Int
@[simp] def eBox (a : TBox) : AV := .agg [AV.int .i64 a.x0, AV.int .i64 a.y0, AV.int .i64 a.x1, AV.int .i64 a.y1]
@[simp] theorem wid_eBox : wid eBox 4 = True := eq_true ⟨by simp⟩
@[simp] theorem eta_TBox (a : TBox) : TBox.mk a.x0 a.y0 a.x1 a.y1 = a := rfl
theorem inj_eBox : Inj eBox := by
  constructor
  rintro ⟨x0, x1, x2, x3⟩ ⟨y0, y1, y2, y3⟩ h
  simp at h
  simp [h]
@[simp] theorem Inj_eBox : Inj eBox = True := eq_true inj_eBox
@[simp] theorem pln_eBox : pln eBox = True := eq_true ⟨fun a => by simp⟩
structure TMask where
  box : TBox
  bits : List Int
@[simp] def eMask (a : TMask) : AV := .agg [AV.int .i64 a.box.x0, AV.int .i64 a.box.y0, AV.int .i64 a.box.x1, AV.int .i64 a.box.y1, AV.fsl (List.map (AV.int .i64) a.bits)]
@[simp] theorem wid_eMask : wid eMask 5 = True := eq_true ⟨by simp⟩
@[simp] theorem eta_TMask (a : TMask) : TMask.mk a.box a.bits = a := rfl
theorem inj_eMask : Inj eMask := by
  constructor
  rintro ⟨⟨x0, x1, x2, x3⟩, x4⟩ ⟨⟨y0, y1, y2, y3⟩, y4⟩ h
  simp at h
  simp [h]
@[simp] theorem Inj_eMask : Inj eMask = True := eq_true inj_eMask
structure TKept where
  id : Int
  mask : TMask
@[simp] def eKept (a : TKept) : AV := .agg [AV.int .i64 a.id, AV.int .i64 a.mask.box.x0, AV.int .i64 a.mask.box.y0, AV.int .i64 a.mask.box.x1, AV.int .i64 a.mask.box.y1, AV.fsl (List.map (AV.int .i64) a.mask.bits)]
@[simp] theorem wid_eKept : wid eKept 6 = True := eq_true ⟨by simp⟩
@[simp] theorem eta_TKept (a : TKept) : TKept.mk a.id a.mask = a := rfl
theorem inj_eKept : Inj eKept := by
  constructor
  rintro ⟨x0, ⟨⟨x1, x2, x3, x4⟩, x5⟩⟩ ⟨y0, ⟨⟨y1, y2, y3, y4⟩, y5⟩⟩ h
  simp at h
  simp [h]
@[simp] theorem Inj_eKept : Inj eKept = True := eq_true inj_eKept
structure TCache where
  most : Int
  list : List TKept
@[simp] def eCache (a : TCache) : AV := .agg [AV.int .i64 a.most, AV.fsl (List.map eKept a.list)]
@[simp] theorem wid_eCache : wid eCache 2 = True := eq_true ⟨by simp⟩
@[simp] theorem eta_TCache (a : TCache) : TCache.mk a.most a.list = a := rfl
theorem inj_eCache : Inj eCache := by
  constructor
  rintro ⟨x0, x1⟩ ⟨y0, y1⟩ h
  simp at h
  simp [h]
@[simp] theorem Inj_eCache : Inj eCache = True := eq_true inj_eCache
structure TEngine where
  scene : TScene
  frame : TSurface
  dirty : List TBox
  stamps : List Int
  cache : TCache
  painted : Int
@[simp] def eEngine (a : TEngine) : AV := .agg [AV.fsl (List.map eNode a.scene.nodes), AV.int .i64 a.frame.w, AV.int .i64 a.frame.h, AV.fsl (List.map eColor a.frame.pix), AV.fsl (List.map eBox a.dirty), AV.fsl (List.map (AV.int .i64) a.stamps), AV.int .i64 a.cache.most, AV.fsl (List.map eKept a.cache.list), AV.int .i64 a.painted]
@[simp] theorem wid_eEngine : wid eEngine 9 = True := eq_true ⟨by simp⟩
@[simp] theorem eta_TEngine (a : TEngine) : TEngine.mk a.scene a.frame a.dirty a.stamps a.cache a.painted = a := rfl
theorem inj_eEngine : Inj eEngine := by
  constructor
  rintro ⟨⟨x0⟩, ⟨x1, x2, x3⟩, x4, x5, ⟨x6, x7⟩, x8⟩ ⟨⟨y0⟩, ⟨y1, y2, y3⟩, y4, y5, ⟨y6, y7⟩, y8⟩ h
  simp at h
  simp [h]
@[simp] theorem Inj_eEngine : Inj eEngine = True := eq_true inj_eEngine
structure TL01Cur where
  b : List Int
  i : Int
  h : Int
@[simp] def eL01Cur (a : TL01Cur) : AV := .agg [AV.fsl (List.map (AV.int .u8) a.b), AV.int .i64 a.i, AV.int .i64 a.h]
@[simp] theorem wid_eL01Cur : wid eL01Cur 3 = True := eq_true ⟨by simp⟩
@[simp] theorem eta_TL01Cur (a : TL01Cur) : TL01Cur.mk a.b a.i a.h = a := rfl
theorem inj_eL01Cur : Inj eL01Cur := by
  constructor
  rintro ⟨x0, x1, x2⟩ ⟨y0, y1, y2⟩ h
  simp at h
  simp [h]
@[simp] theorem Inj_eL01Cur : Inj eL01Cur = True := eq_true inj_eL01Cur
end Go.Proofs.Ytokobfpimdadmaa.Am
