import Derived.Test.YtafljhadfoaceaaAmIn
import Derived.Test.YtafljhadfoaceaaProg
import Derived.KernelRfl
set_option linter.unusedVariables false
set_option linter.unusedSimpArgs false
set_option linter.unusedSectionVars false
namespace Go.Proofs.Ytafljhadfoaceaa.Am
open Go Go.Proofs
set_option maxRecDepth 100000
set_option linter.unusedSimpArgs false
@[simp] theorem art_36 : art Try.prog 36 = none := by kernel_rfl
@[simp] theorem art_55 : art Try.prog 55 = none := by kernel_rfl
@[simp] theorem art_65 : art Try.prog 65 = none := by kernel_rfl
@[simp] theorem art_74 : art Try.prog 74 = none := by kernel_rfl
@[simp] theorem art_76 : art Try.prog 76 = none := by kernel_rfl
@[simp] theorem art_79 : art Try.prog 79 = none := by kernel_rfl
@[simp] theorem art_80 : art Try.prog 80 = none := by kernel_rfl
@[simp] theorem art_82 : art Try.prog 82 = none := by kernel_rfl
@[simp] theorem art_84 : art Try.prog 84 = none := by kernel_rfl
@[simp] theorem art_86 : art Try.prog 86 = none := by kernel_rfl
@[simp] theorem art_88 : art Try.prog 88 = none := by kernel_rfl
@[simp] theorem art_90 : art Try.prog 90 = none := by kernel_rfl
@[simp] theorem art_200 : art Try.prog 200 = none := by kernel_rfl
@[simp] theorem art_236 : art Try.prog 236 = some (4, .sc) := by kernel_rfl
@[simp] theorem cvt_5_3 : cvt Try.prog 5 3 = some (.int .i64) := by kernel_rfl
@[simp] theorem elt_36 : elt Try.prog 36 = some (3, .sc, 8) := by kernel_rfl
@[simp] theorem elt_65 : elt Try.prog 65 = some (5, .sc, 1) := by kernel_rfl
@[simp] theorem elt_74 : elt Try.prog 74 = some (90, (.ag 31), 328) := by kernel_rfl
@[simp] theorem elt_80 : elt Try.prog 80 = some (86, (.ag 2), 16) := by kernel_rfl
@[simp] theorem eqk_3 : eqk Try.prog 3 = some (false, [.i]) := by kernel_rfl
@[simp] theorem eqk_4 : eqk Try.prog 4 = some (false, [.b]) := by kernel_rfl
@[simp] theorem eqk_79 : eqk Try.prog 79 = some (true, [.i, .i, .i, .i, .i, .i]) := by kernel_rfl
@[simp] theorem eqk_84 : eqk Try.prog 84 = some (true, [.i, .i, .i, .i]) := by kernel_rfl
@[simp] theorem eqk_86 : eqk Try.prog 86 = some (true, [.i, .i]) := by kernel_rfl
@[simp] theorem eqk_88 : eqk Try.prog 88 = some (true, [.i, .i, .i, .i, .i, .i, .i, .i, .i, .i, .i, .i, .i]) := by kernel_rfl
@[simp] theorem fld_55_0 : fld Try.prog 55 0 = some (0, .sc) := by kernel_rfl
@[simp] theorem fld_55_1 : fld Try.prog 55 1 = some (1, .sc) := by kernel_rfl
@[simp] theorem fld_55_2 : fld Try.prog 55 2 = some (2, .sc) := by kernel_rfl
@[simp] theorem fld_55_3 : fld Try.prog 55 3 = some (3, .sc) := by kernel_rfl
@[simp] theorem fld_76_0 : fld Try.prog 76 0 = some (0, .sc) := by kernel_rfl
@[simp] theorem fld_79_0 : fld Try.prog 79 0 = some (0, .sc) := by kernel_rfl
@[simp] theorem fld_79_1 : fld Try.prog 79 1 = some (1, .sc) := by kernel_rfl
@[simp] theorem fld_79_2 : fld Try.prog 79 2 = some (2, .sc) := by kernel_rfl
@[simp] theorem fld_79_3 : fld Try.prog 79 3 = some (3, .sc) := by kernel_rfl
@[simp] theorem fld_79_4 : fld Try.prog 79 4 = some (4, .sc) := by kernel_rfl
@[simp] theorem fld_79_5 : fld Try.prog 79 5 = some (5, .sc) := by kernel_rfl
@[simp] theorem fld_82_0 : fld Try.prog 82 0 = some (0, .sc) := by kernel_rfl
@[simp] theorem fld_82_1 : fld Try.prog 82 1 = some (1, .sc) := by kernel_rfl
@[simp] theorem fld_84_0 : fld Try.prog 84 0 = some (0, .sc) := by kernel_rfl
@[simp] theorem fld_84_1 : fld Try.prog 84 1 = some (1, .sc) := by kernel_rfl
@[simp] theorem fld_84_2 : fld Try.prog 84 2 = some (2, .sc) := by kernel_rfl
@[simp] theorem fld_84_3 : fld Try.prog 84 3 = some (3, .sc) := by kernel_rfl
@[simp] theorem fld_86_0 : fld Try.prog 86 0 = some (0, .sc) := by kernel_rfl
@[simp] theorem fld_86_1 : fld Try.prog 86 1 = some (1, .sc) := by kernel_rfl
@[simp] theorem fld_88_0 : fld Try.prog 88 0 = some (0, .sc) := by kernel_rfl
@[simp] theorem fld_88_1 : fld Try.prog 88 1 = some (1, (.ag 4)) := by kernel_rfl
@[simp] theorem fld_88_2 : fld Try.prog 88 2 = some (5, (.ag 4)) := by kernel_rfl
@[simp] theorem fld_88_3 : fld Try.prog 88 3 = some (9, (.ag 2)) := by kernel_rfl
@[simp] theorem fld_88_4 : fld Try.prog 88 4 = some (11, (.ag 2)) := by kernel_rfl
@[simp] theorem fld_90_0 : fld Try.prog 90 0 = some (0, .sc) := by kernel_rfl
@[simp] theorem fld_90_1 : fld Try.prog 90 1 = some (1, .sc) := by kernel_rfl
@[simp] theorem fld_90_2 : fld Try.prog 90 2 = some (2, .sc) := by kernel_rfl
@[simp] theorem fld_90_3 : fld Try.prog 90 3 = some (3, (.ag 6)) := by kernel_rfl
@[simp] theorem fld_90_4 : fld Try.prog 90 4 = some (9, (.ag 2)) := by kernel_rfl
@[simp] theorem fld_90_5 : fld Try.prog 90 5 = some (11, .sc) := by kernel_rfl
@[simp] theorem fld_90_6 : fld Try.prog 90 6 = some (12, .sc) := by kernel_rfl
@[simp] theorem fld_90_7 : fld Try.prog 90 7 = some (13, .sc) := by kernel_rfl
@[simp] theorem fld_90_8 : fld Try.prog 90 8 = some (14, (.ag 13)) := by kernel_rfl
@[simp] theorem fld_90_9 : fld Try.prog 90 9 = some (27, .sc) := by kernel_rfl
@[simp] theorem fld_90_10 : fld Try.prog 90 10 = some (28, .sc) := by kernel_rfl
@[simp] theorem fld_90_11 : fld Try.prog 90 11 = some (29, (.ag 2)) := by kernel_rfl
@[simp] theorem fld_200_0 : fld Try.prog 200 0 = some (0, .sc) := by kernel_rfl
@[simp] theorem fld_200_1 : fld Try.prog 200 1 = some (1, .sc) := by kernel_rfl
@[simp] theorem fld_200_2 : fld Try.prog 200 2 = some (2, .sc) := by kernel_rfl
@[simp] theorem isArr_55 : isArr Try.prog 55 = false := by kernel_rfl
@[simp] theorem isArr_76 : isArr Try.prog 76 = false := by kernel_rfl
@[simp] theorem isArr_79 : isArr Try.prog 79 = false := by kernel_rfl
@[simp] theorem isArr_82 : isArr Try.prog 82 = false := by kernel_rfl
@[simp] theorem isArr_84 : isArr Try.prog 84 = false := by kernel_rfl
@[simp] theorem isArr_86 : isArr Try.prog 86 = false := by kernel_rfl
@[simp] theorem isArr_88 : isArr Try.prog 88 = false := by kernel_rfl
@[simp] theorem isArr_90 : isArr Try.prog 90 = false := by kernel_rfl
@[simp] theorem isArr_200 : isArr Try.prog 200 = false := by kernel_rfl
@[simp] theorem isArr_236 : isArr Try.prog 236 = true := by kernel_rfl
@[simp] theorem isStr_74 : isStr Try.prog 74 = false := by kernel_rfl
@[simp] theorem isStr_236 : isStr Try.prog 236 = false := by kernel_rfl
@[simp] theorem lnK_36 : lnK Try.prog 36 = some .sl := by kernel_rfl
@[simp] theorem lnK_65 : lnK Try.prog 65 = some .sl := by kernel_rfl
@[simp] theorem lnK_74 : lnK Try.prog 74 = some .sl := by kernel_rfl
@[simp] theorem lnK_80 : lnK Try.prog 80 = some .sl := by kernel_rfl
@[simp] theorem plc_55 : plc Try.prog 55 = some [(0, 1), (1, 1), (2, 1), (3, 1)] := by kernel_rfl
@[simp] theorem plc_76 : plc Try.prog 76 = some [(0, 1)] := by kernel_rfl
@[simp] theorem plc_79 : plc Try.prog 79 = some [(0, 1), (1, 1), (2, 1), (3, 1), (4, 1), (5, 1)] := by kernel_rfl
@[simp] theorem plc_82 : plc Try.prog 82 = some [(0, 1), (1, 1)] := by kernel_rfl
@[simp] theorem plc_84 : plc Try.prog 84 = some [(0, 1), (1, 1), (2, 1), (3, 1)] := by kernel_rfl
@[simp] theorem plc_86 : plc Try.prog 86 = some [(0, 1), (1, 1)] := by kernel_rfl
@[simp] theorem plc_88 : plc Try.prog 88 = some [(0, 1), (1, 4), (5, 4), (9, 2), (11, 2)] := by kernel_rfl
@[simp] theorem plc_90 : plc Try.prog 90 = some [(0, 1), (1, 1), (2, 1), (3, 6), (9, 2), (11, 1), (12, 1), (13, 1), (14, 13), (27, 1), (28, 1), (29, 2)] := by kernel_rfl
@[simp] theorem plc_200 : plc Try.prog 200 = some [(0, 1), (1, 1), (2, 1)] := by kernel_rfl
@[simp] theorem plc_236 : plc Try.prog 236 = none := by kernel_rfl
@[simp] theorem srcTy_36 : srcTy Try.prog 36 = true := by kernel_rfl
@[simp] theorem srcTy_74 : srcTy Try.prog 74 = true := by kernel_rfl
@[simp] theorem srcTy_80 : srcTy Try.prog 80 = true := by kernel_rfl
@[simp] theorem tsh_3 : tsh Try.prog 3 = some .sc := by kernel_rfl
@[simp] theorem tsh_4 : tsh Try.prog 4 = some .sc := by kernel_rfl
@[simp] theorem tsh_5 : tsh Try.prog 5 = some .sc := by kernel_rfl
@[simp] theorem tsh_36 : tsh Try.prog 36 = some .sc := by kernel_rfl
@[simp] theorem tsh_55 : tsh Try.prog 55 = some (.ag 4) := by kernel_rfl
@[simp] theorem tsh_65 : tsh Try.prog 65 = some .sc := by kernel_rfl
@[simp] theorem tsh_74 : tsh Try.prog 74 = some .sc := by kernel_rfl
@[simp] theorem tsh_76 : tsh Try.prog 76 = some (.ag 1) := by kernel_rfl
@[simp] theorem tsh_79 : tsh Try.prog 79 = some (.ag 6) := by kernel_rfl
@[simp] theorem tsh_80 : tsh Try.prog 80 = some .sc := by kernel_rfl
@[simp] theorem tsh_82 : tsh Try.prog 82 = some (.ag 2) := by kernel_rfl
@[simp] theorem tsh_84 : tsh Try.prog 84 = some (.ag 4) := by kernel_rfl
@[simp] theorem tsh_86 : tsh Try.prog 86 = some (.ag 2) := by kernel_rfl
@[simp] theorem tsh_88 : tsh Try.prog 88 = some (.ag 13) := by kernel_rfl
@[simp] theorem tsh_90 : tsh Try.prog 90 = some (.ag 31) := by kernel_rfl
@[simp] theorem zer_3 : zer Try.prog 3 = some (AV.int .i64 0) := by kernel_rfl
@[simp] theorem zer_5 : zer Try.prog 5 = some (AV.int .u8 0) := by kernel_rfl
@[simp] theorem zer_36 : zer Try.prog 36 = some (AV.nilsl) := by kernel_rfl
@[simp] theorem zer_55 : zer Try.prog 55 = some (AV.agg [AV.int .i64 0, AV.int .i64 0, AV.int .i64 0, AV.int .i64 0]) := by kernel_rfl
@[simp] theorem zer_76 : zer Try.prog 76 = some (AV.agg [AV.nilsl]) := by kernel_rfl
@[simp] theorem zer_79 : zer Try.prog 79 = some (AV.agg [AV.int .i64 0, AV.int .i64 0, AV.int .i64 0, AV.int .i64 0, AV.int .i64 0, AV.int .i64 0]) := by kernel_rfl
@[simp] theorem zer_82 : zer Try.prog 82 = some (AV.agg [AV.nilsl, AV.nilsl]) := by kernel_rfl
@[simp] theorem zer_84 : zer Try.prog 84 = some (AV.agg [AV.int .i64 0, AV.int .i64 0, AV.int .i64 0, AV.int .i64 0]) := by kernel_rfl
@[simp] theorem zer_86 : zer Try.prog 86 = some (AV.agg [AV.int .i64 0, AV.int .i64 0]) := by kernel_rfl
@[simp] theorem zer_88 : zer Try.prog 88 = some (AV.agg [AV.int .i64 0, AV.int .i64 0, AV.int .i64 0, AV.int .i64 0, AV.int .i64 0, AV.int .i64 0, AV.int .i64 0, AV.int .i64 0, AV.int .i64 0, AV.int .i64 0, AV.int .i64 0, AV.int .i64 0, AV.int .i64 0]) := by kernel_rfl
@[simp] theorem zer_90 : zer Try.prog 90 = some (AV.agg [AV.int .i64 0, AV.int .i64 0, AV.bool false, AV.int .i64 0, AV.int .i64 0, AV.int .i64 0, AV.int .i64 0, AV.int .i64 0, AV.int .i64 0, AV.nilsl, AV.nilsl, AV.bool false, AV.int .i64 0, AV.nilsl, AV.int .i64 0, AV.int .i64 0, AV.int .i64 0, AV.int .i64 0, AV.int .i64 0, AV.int .i64 0, AV.int .i64 0, AV.int .i64 0, AV.int .i64 0, AV.int .i64 0, AV.int .i64 0, AV.int .i64 0, AV.int .i64 0, AV.int .i64 0, AV.int .i64 0, AV.nilsl, AV.nilsl]) := by kernel_rfl
@[simp] theorem zer_200 : zer Try.prog 200 = some (AV.agg [AV.nilsl, AV.int .i64 0, AV.int .i64 0]) := by kernel_rfl
@[simp] theorem zer_236 : zer Try.prog 236 = some (AV.agg [AV.int .i64 0, AV.int .i64 0, AV.int .i64 0, AV.int .i64 0]) := by kernel_rfl
def E0 : FuncId → Md := fun f => (lkp [(104, { keep := true }), (106, { own := true }), (107, { own := true }), (109, { own := true }), (110, { own := true }), (111, { keep := true }), (116, { keep := true }), (123, { own := true, keep := true }), (169, { own := true }), (170, { own := true }), (171, { own := true }), (173, { own := true }), (174, { own := true }), (214, { own := true }), (216, { own := true })] f).getD {}
@[simp] theorem E0_8 : E0 8 = {} := rfl
@[simp] theorem E0_38 : E0 38 = {} := rfl
@[simp] theorem E0_44 : E0 44 = {} := rfl
@[simp] theorem E0_45 : E0 45 = {} := rfl
@[simp] theorem E0_46 : E0 46 = {} := rfl
@[simp] theorem E0_47 : E0 47 = {} := rfl
@[simp] theorem E0_48 : E0 48 = {} := rfl
@[simp] theorem E0_49 : E0 49 = {} := rfl
@[simp] theorem E0_50 : E0 50 = {} := rfl
@[simp] theorem E0_51 : E0 51 = {} := rfl
@[simp] theorem E0_52 : E0 52 = {} := rfl
@[simp] theorem E0_53 : E0 53 = {} := rfl
@[simp] theorem E0_85 : E0 85 = {} := rfl
@[simp] theorem E0_91 : E0 91 = {} := rfl
@[simp] theorem E0_95 : E0 95 = {} := rfl
@[simp] theorem E0_104 : E0 104 = { keep := true } := rfl
@[simp] theorem E0_106 : E0 106 = { own := true } := rfl
@[simp] theorem E0_107 : E0 107 = { own := true } := rfl
@[simp] theorem E0_108 : E0 108 = {} := rfl
@[simp] theorem E0_109 : E0 109 = { own := true } := rfl
@[simp] theorem E0_110 : E0 110 = { own := true } := rfl
@[simp] theorem E0_111 : E0 111 = { keep := true } := rfl
@[simp] theorem E0_112 : E0 112 = {} := rfl
@[simp] theorem E0_113 : E0 113 = {} := rfl
@[simp] theorem E0_114 : E0 114 = {} := rfl
@[simp] theorem E0_115 : E0 115 = {} := rfl
@[simp] theorem E0_116 : E0 116 = { keep := true } := rfl
@[simp] theorem E0_117 : E0 117 = {} := rfl
@[simp] theorem E0_118 : E0 118 = {} := rfl
@[simp] theorem E0_119 : E0 119 = {} := rfl
@[simp] theorem E0_120 : E0 120 = {} := rfl
@[simp] theorem E0_121 : E0 121 = {} := rfl
@[simp] theorem E0_122 : E0 122 = {} := rfl
@[simp] theorem E0_123 : E0 123 = { own := true, keep := true } := rfl
@[simp] theorem E0_124 : E0 124 = {} := rfl
@[simp] theorem E0_125 : E0 125 = {} := rfl
@[simp] theorem E0_126 : E0 126 = {} := rfl
@[simp] theorem E0_127 : E0 127 = {} := rfl
@[simp] theorem E0_128 : E0 128 = {} := rfl
@[simp] theorem E0_159 : E0 159 = {} := rfl
@[simp] theorem E0_165 : E0 165 = {} := rfl
@[simp] theorem E0_169 : E0 169 = { own := true } := rfl
@[simp] theorem E0_170 : E0 170 = { own := true } := rfl
@[simp] theorem E0_171 : E0 171 = { own := true } := rfl
@[simp] theorem E0_172 : E0 172 = {} := rfl
@[simp] theorem E0_173 : E0 173 = { own := true } := rfl
@[simp] theorem E0_174 : E0 174 = { own := true } := rfl
@[simp] theorem E0_175 : E0 175 = {} := rfl
@[simp] theorem E0_176 : E0 176 = {} := rfl
@[simp] theorem E0_177 : E0 177 = {} := rfl
@[simp] theorem E0_178 : E0 178 = {} := rfl
@[simp] theorem E0_179 : E0 179 = {} := rfl
@[simp] theorem E0_180 : E0 180 = {} := rfl
@[simp] theorem E0_181 : E0 181 = {} := rfl
@[simp] theorem E0_182 : E0 182 = {} := rfl
@[simp] theorem E0_183 : E0 183 = {} := rfl
@[simp] theorem E0_184 : E0 184 = {} := rfl
@[simp] theorem E0_185 : E0 185 = {} := rfl
@[simp] theorem E0_186 : E0 186 = {} := rfl
@[simp] theorem E0_187 : E0 187 = {} := rfl
@[simp] theorem E0_188 : E0 188 = {} := rfl
@[simp] theorem E0_189 : E0 189 = {} := rfl
@[simp] theorem E0_190 : E0 190 = {} := rfl
@[simp] theorem E0_191 : E0 191 = {} := rfl
@[simp] theorem E0_202 : E0 202 = {} := rfl
@[simp] theorem E0_203 : E0 203 = {} := rfl
@[simp] theorem E0_205 : E0 205 = {} := rfl
@[simp] theorem E0_212 : E0 212 = {} := rfl
@[simp] theorem E0_213 : E0 213 = {} := rfl
@[simp] theorem E0_214 : E0 214 = { own := true } := rfl
@[simp] theorem E0_215 : E0 215 = {} := rfl
@[simp] theorem E0_216 : E0 216 = { own := true } := rfl
@[simp] theorem E0_217 : E0 217 = {} := rfl
@[simp] theorem E0_218 : E0 218 = {} := rfl
@[simp] theorem E0_219 : E0 219 = {} := rfl
@[simp] theorem E0_220 : E0 220 = {} := rfl
@[simp] theorem E0_221 : E0 221 = {} := rfl
@[simp] theorem E0_222 : E0 222 = {} := rfl
structure TL01Cur where
  b : List Int
  i : Int
  h : Int
@[simp] def eL01Cur (a : TL01Cur) : AV := .agg [AV.fsl (List.map (AV.int .u8) a.b), AV.int .i64 a.i, AV.int .i64 a.h]
@[simp] theorem wid_eL01Cur : wid eL01Cur 3 = True := eq_true ⟨by simp⟩
@[simp] theorem eta_TL01Cur (a : TL01Cur) : TL01Cur.mk a.b a.i a.h = a := rfl
theorem inj_eL01Cur : Inj eL01Cur := by
  constructor
  rintro ⟨x0, x1, x2⟩ ⟨y0, y1, y2⟩ h
  simp at h
  simp [h]
@[simp] theorem Inj_eL01Cur : Inj eL01Cur = True := eq_true inj_eL01Cur
structure TMat where
  a : Int
  b : Int
  c : Int
  d : Int
  e : Int
  f : Int
@[simp] def eMat (a : TMat) : AV := .agg [AV.int .i64 a.a, AV.int .i64 a.b, AV.int .i64 a.c, AV.int .i64 a.d, AV.int .i64 a.e, AV.int .i64 a.f]
@[simp] theorem wid_eMat : wid eMat 6 = True := eq_true ⟨by simp⟩
@[simp] theorem eta_TMat (a : TMat) : TMat.mk a.a a.b a.c a.d a.e a.f = a := rfl
theorem inj_eMat : Inj eMat := by
  constructor
  rintro ⟨x0, x1, x2, x3, x4, x5⟩ ⟨y0, y1, y2, y3, y4, y5⟩ h
  simp at h
  simp [h]
@[simp] theorem Inj_eMat : Inj eMat = True := eq_true inj_eMat
@[simp] theorem pln_eMat : pln eMat = True := eq_true ⟨fun a => by simp⟩
structure TPoint where
  x : Int
  y : Int
@[simp] def ePoint (a : TPoint) : AV := .agg [AV.int .i64 a.x, AV.int .i64 a.y]
@[simp] theorem wid_ePoint : wid ePoint 2 = True := eq_true ⟨by simp⟩
@[simp] theorem eta_TPoint (a : TPoint) : TPoint.mk a.x a.y = a := rfl
theorem inj_ePoint : Inj ePoint := by
  constructor
  rintro ⟨x0, x1⟩ ⟨y0, y1⟩ h
  simp at h
  simp [h]
@[simp] theorem Inj_ePoint : Inj ePoint = True := eq_true inj_ePoint
@[simp] theorem pln_ePoint : pln ePoint = True := eq_true ⟨fun a => by simp⟩
structure TPath where
  verbs : List Int
  points : List TPoint
@[simp] def ePath (a : TPath) : AV := .agg [AV.fsl (List.map (AV.int .i64) a.verbs), AV.fsl (List.map ePoint a.points)]
@[simp] theorem wid_ePath : wid ePath 2 = True := eq_true ⟨by simp⟩
@[simp] theorem eta_TPath (a : TPath) : TPath.mk a.verbs a.points = a := rfl
theorem inj_ePath : Inj ePath := by
  constructor
  rintro ⟨x0, x1⟩ ⟨y0, y1⟩ h
  simp at h
  simp [h]
@[simp] theorem Inj_ePath : Inj ePath = True := eq_true inj_ePath
structure TColor where
  r : Int
  g : Int
  b : Int
  a : Int
@[simp] def eColor (a : TColor) : AV := .agg [AV.int .i64 a.r, AV.int .i64 a.g, AV.int .i64 a.b, AV.int .i64 a.a]
@[simp] theorem wid_eColor : wid eColor 4 = True := eq_true ⟨by simp⟩
@[simp] theorem eta_TColor (a : TColor) : TColor.mk a.r a.g a.b a.a = a := rfl
theorem inj_eColor : Inj eColor := by
  constructor
  rintro ⟨x0, x1, x2, x3⟩ ⟨y0, y1, y2, y3⟩ h
  simp at h
  simp [h]
@[simp] theorem Inj_eColor : Inj eColor = True := eq_true inj_eColor
@[simp] theorem pln_eColor : pln eColor = True := eq_true ⟨fun a => by simp⟩
structure TPaint where
  kind : Int
  first : TColor
  last : TColor
  from_ : TPoint
  to : TPoint
@[simp] def ePaint (a : TPaint) : AV := .agg [AV.int .i64 a.kind, AV.int .i64 a.first.r, AV.int .i64 a.first.g, AV.int .i64 a.first.b, AV.int .i64 a.first.a, AV.int .i64 a.last.r, AV.int .i64 a.last.g, AV.int .i64 a.last.b, AV.int .i64 a.last.a, AV.int .i64 a.from_.x, AV.int .i64 a.from_.y, AV.int .i64 a.to.x, AV.int .i64 a.to.y]
@[simp] theorem wid_ePaint : wid ePaint 13 = True := eq_true ⟨by simp⟩
@[simp] theorem eta_TPaint (a : TPaint) : TPaint.mk a.kind a.first a.last a.from_ a.to = a := rfl
theorem inj_ePaint : Inj ePaint := by
  constructor
  rintro ⟨x0, ⟨x1, x2, x3, x4⟩, ⟨x5, x6, x7, x8⟩, ⟨x9, x10⟩, ⟨x11, x12⟩⟩ ⟨y0, ⟨y1, y2, y3, y4⟩, ⟨y5, y6, y7, y8⟩, ⟨y9, y10⟩, ⟨y11, y12⟩⟩ h
  simp at h
  simp [h]
@[simp] theorem Inj_ePaint : Inj ePaint = True := eq_true inj_ePaint
@[simp] theorem pln_ePaint : pln ePaint = True := eq_true ⟨fun a => by simp⟩
structure TNode where
  id : Int
  parent : Int
  group : Bool
  mat : TMat
  path : TPath
  even : Bool
  width : Int
  dashes : List Int
  paint : TPaint
  mode : Int
  fade : Int
  clip : TPath
@[simp] def eNode (a : TNode) : AV := .agg [AV.int .i64 a.id, AV.int .i64 a.parent, AV.bool a.group, AV.int .i64 a.mat.a, AV.int .i64 a.mat.b, AV.int .i64 a.mat.c, AV.int .i64 a.mat.d, AV.int .i64 a.mat.e, AV.int .i64 a.mat.f, AV.fsl (List.map (AV.int .i64) a.path.verbs), AV.fsl (List.map ePoint a.path.points), AV.bool a.even, AV.int .i64 a.width, AV.fsl (List.map (AV.int .i64) a.dashes), AV.int .i64 a.paint.kind, AV.int .i64 a.paint.first.r, AV.int .i64 a.paint.first.g, AV.int .i64 a.paint.first.b, AV.int .i64 a.paint.first.a, AV.int .i64 a.paint.last.r, AV.int .i64 a.paint.last.g, AV.int .i64 a.paint.last.b, AV.int .i64 a.paint.last.a, AV.int .i64 a.paint.from_.x, AV.int .i64 a.paint.from_.y, AV.int .i64 a.paint.to.x, AV.int .i64 a.paint.to.y, AV.int .i64 a.mode, AV.int .i64 a.fade, AV.fsl (List.map (AV.int .i64) a.clip.verbs), AV.fsl (List.map ePoint a.clip.points)]
@[simp] theorem wid_eNode : wid eNode 31 = True := eq_true ⟨by simp⟩
@[simp] theorem eta_TNode (a : TNode) : TNode.mk a.id a.parent a.group a.mat a.path a.even a.width a.dashes a.paint a.mode a.fade a.clip = a := rfl
theorem inj_eNode : Inj eNode := by
  constructor
  rintro ⟨x0, x1, x2, ⟨x3, x4, x5, x6, x7, x8⟩, ⟨x9, x10⟩, x11, x12, x13, ⟨x14, ⟨x15, x16, x17, x18⟩, ⟨x19, x20, x21, x22⟩, ⟨x23, x24⟩, ⟨x25, x26⟩⟩, x27, x28, ⟨x29, x30⟩⟩ ⟨y0, y1, y2, ⟨y3, y4, y5, y6, y7, y8⟩, ⟨y9, y10⟩, y11, y12, y13, ⟨y14, ⟨y15, y16, y17, y18⟩, ⟨y19, y20, y21, y22⟩, ⟨y23, y24⟩, ⟨y25, y26⟩⟩, y27, y28, ⟨y29, y30⟩⟩ h
  simp at h
  simp [h]
@[simp] theorem Inj_eNode : Inj eNode = True := eq_true inj_eNode
structure TScene where
  nodes : List TNode
@[simp] def eScene (a : TScene) : AV := .agg [AV.fsl (List.map eNode a.nodes)]
@[simp] theorem wid_eScene : wid eScene 1 = True := eq_true ⟨by simp⟩
@[simp] theorem eta_TScene (a : TScene) : TScene.mk a.nodes = a := rfl
theorem inj_eScene : Inj eScene := by
  constructor
  rintro ⟨x0⟩ ⟨y0⟩ h
  simp at h
  simp [h]
@[simp] theorem Inj_eScene : Inj eScene = True := eq_true inj_eScene
structure TBox where
  x0 : Int
  y0 : Int
  x1 : Int
  y1 : Int
@[simp] def eBox (a : TBox) : AV := .agg [AV.int .i64 a.x0, AV.int .i64 a.y0, AV.int .i64 a.x1, AV.int .i64 a.y1]
@[simp] theorem wid_eBox : wid eBox 4 = True := eq_true ⟨by simp⟩
@[simp] theorem eta_TBox (a : TBox) : TBox.mk a.x0 a.y0 a.x1 a.y1 = a := rfl
theorem inj_eBox : Inj eBox := by
  constructor
  rintro ⟨x0, x1, x2, x3⟩ ⟨y0, y1, y2, y3⟩ h
  simp at h
  simp [h]
@[simp] theorem Inj_eBox : Inj eBox = True := eq_true inj_eBox
@[simp] theorem pln_eBox : pln eBox = True := eq_true ⟨fun a => by simp⟩
end Go.Proofs.Ytafljhadfoaceaa.Am
