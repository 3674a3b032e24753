import Derived.Test.YtafljhadfoaceaaAmIn
import Derived.Test.YtafljhadfoaceaaProg
import Derived.KernelRfl
set_option linter.unusedVariables false
set_option linter.unusedSimpArgs false
set_option linter.unusedSectionVars false
namespace Go.Proofs.Ytafljhadfoaceaa.Am
open Go Go.Proofs
set_option maxRecDepth 100000
set_option linter.unusedSimpArgs false
@[simp] theorem art_36 : art Try.prog 36 = none := by kernel_rfl
@[simp] theorem art_38 : art Try.prog 38 = none := by kernel_rfl
@[simp] theorem art_40 : art Try.prog 40 = none := by kernel_rfl
@[simp] theorem art_55 : art Try.prog 55 = none := by kernel_rfl
@[simp] theorem art_57 : art Try.prog 57 = none := by kernel_rfl
@[simp] theorem art_65 : art Try.prog 65 = none := by kernel_rfl
@[simp] theorem art_73 : art Try.prog 73 = none := by kernel_rfl
@[simp] theorem art_80 : art Try.prog 80 = none := by kernel_rfl
@[simp] theorem art_82 : art Try.prog 82 = none := by kernel_rfl
@[simp] theorem art_86 : art Try.prog 86 = none := by kernel_rfl
@[simp] theorem art_200 : art Try.prog 200 = none := by kernel_rfl
@[simp] theorem art_202 : art Try.prog 202 = none := by kernel_rfl
@[simp] theorem cvt_5_3 : cvt Try.prog 5 3 = some (.int .i64) := by kernel_rfl
@[simp] theorem elt_36 : elt Try.prog 36 = some (3, .sc, 8) := by kernel_rfl
@[simp] theorem elt_38 : elt Try.prog 38 = some (73, (.ag 6), 64) := by kernel_rfl
@[simp] theorem elt_65 : elt Try.prog 65 = some (5, .sc, 1) := by kernel_rfl
@[simp] theorem elt_80 : elt Try.prog 80 = some (86, (.ag 2), 16) := by kernel_rfl
@[simp] theorem elt_202 : elt Try.prog 202 = some (80, .sc, 24) := by kernel_rfl
@[simp] theorem eqk_3 : eqk Try.prog 3 = some (false, [.i]) := by kernel_rfl
@[simp] theorem eqk_55 : eqk Try.prog 55 = some (true, [.i, .i, .i, .i]) := by kernel_rfl
@[simp] theorem eqk_86 : eqk Try.prog 86 = some (true, [.i, .i]) := by kernel_rfl
@[simp] theorem fld_40_0 : fld Try.prog 40 0 = some (0, .sc) := by kernel_rfl
@[simp] theorem fld_40_1 : fld Try.prog 40 1 = some (1, .sc) := by kernel_rfl
@[simp] theorem fld_55_0 : fld Try.prog 55 0 = some (0, .sc) := by kernel_rfl
@[simp] theorem fld_55_1 : fld Try.prog 55 1 = some (1, .sc) := by kernel_rfl
@[simp] theorem fld_55_2 : fld Try.prog 55 2 = some (2, .sc) := by kernel_rfl
@[simp] theorem fld_55_3 : fld Try.prog 55 3 = some (3, .sc) := by kernel_rfl
@[simp] theorem fld_57_0 : fld Try.prog 57 0 = some (0, (.ag 4)) := by kernel_rfl
@[simp] theorem fld_57_1 : fld Try.prog 57 1 = some (4, .sc) := by kernel_rfl
@[simp] theorem fld_73_0 : fld Try.prog 73 0 = some (0, .sc) := by kernel_rfl
@[simp] theorem fld_73_1 : fld Try.prog 73 1 = some (1, (.ag 5)) := by kernel_rfl
@[simp] theorem fld_82_0 : fld Try.prog 82 0 = some (0, .sc) := by kernel_rfl
@[simp] theorem fld_82_1 : fld Try.prog 82 1 = some (1, .sc) := by kernel_rfl
@[simp] theorem fld_86_0 : fld Try.prog 86 0 = some (0, .sc) := by kernel_rfl
@[simp] theorem fld_86_1 : fld Try.prog 86 1 = some (1, .sc) := by kernel_rfl
@[simp] theorem fld_200_0 : fld Try.prog 200 0 = some (0, .sc) := by kernel_rfl
@[simp] theorem fld_200_1 : fld Try.prog 200 1 = some (1, .sc) := by kernel_rfl
@[simp] theorem fld_200_2 : fld Try.prog 200 2 = some (2, .sc) := by kernel_rfl
@[simp] theorem isArr_40 : isArr Try.prog 40 = false := by kernel_rfl
@[simp] theorem isArr_55 : isArr Try.prog 55 = false := by kernel_rfl
@[simp] theorem isArr_57 : isArr Try.prog 57 = false := by kernel_rfl
@[simp] theorem isArr_73 : isArr Try.prog 73 = false := by kernel_rfl
@[simp] theorem isArr_82 : isArr Try.prog 82 = false := by kernel_rfl
@[simp] theorem isArr_86 : isArr Try.prog 86 = false := by kernel_rfl
@[simp] theorem isArr_200 : isArr Try.prog 200 = false := by kernel_rfl
@[simp] theorem isStr_38 : isStr Try.prog 38 = false := by kernel_rfl
@[simp] theorem lnK_36 : lnK Try.prog 36 = some .sl := by kernel_rfl
@[simp] theorem lnK_38 : lnK Try.prog 38 = some .sl := by kernel_rfl
@[simp] theorem lnK_65 : lnK Try.prog 65 = some .sl := by kernel_rfl
@[simp] theorem lnK_80 : lnK Try.prog 80 = some .sl := by kernel_rfl
@[simp] theorem lnK_202 : lnK Try.prog 202 = some .sl := by kernel_rfl
@[simp] theorem plc_40 : plc Try.prog 40 = some [(0, 1), (1, 1)] := by kernel_rfl
@[simp] theorem plc_55 : plc Try.prog 55 = some [(0, 1), (1, 1), (2, 1), (3, 1)] := by kernel_rfl
@[simp] theorem plc_57 : plc Try.prog 57 = some [(0, 4), (4, 1)] := by kernel_rfl
@[simp] theorem plc_73 : plc Try.prog 73 = some [(0, 1), (1, 5)] := by kernel_rfl
@[simp] theorem plc_82 : plc Try.prog 82 = some [(0, 1), (1, 1)] := by kernel_rfl
@[simp] theorem plc_86 : plc Try.prog 86 = some [(0, 1), (1, 1)] := by kernel_rfl
@[simp] theorem plc_200 : plc Try.prog 200 = some [(0, 1), (1, 1), (2, 1)] := by kernel_rfl
@[simp] theorem srcTy_3 : srcTy Try.prog 3 = false := by kernel_rfl
@[simp] theorem srcTy_36 : srcTy Try.prog 36 = true := by kernel_rfl
@[simp] theorem srcTy_38 : srcTy Try.prog 38 = true := by kernel_rfl
@[simp] theorem srcTy_80 : srcTy Try.prog 80 = true := by kernel_rfl
@[simp] theorem srcTy_202 : srcTy Try.prog 202 = true := by kernel_rfl
@[simp] theorem tsh_3 : tsh Try.prog 3 = some .sc := by kernel_rfl
@[simp] theorem tsh_5 : tsh Try.prog 5 = some .sc := by kernel_rfl
@[simp] theorem tsh_36 : tsh Try.prog 36 = some .sc := by kernel_rfl
@[simp] theorem tsh_38 : tsh Try.prog 38 = some .sc := by kernel_rfl
@[simp] theorem tsh_40 : tsh Try.prog 40 = some (.ag 2) := by kernel_rfl
@[simp] theorem tsh_55 : tsh Try.prog 55 = some (.ag 4) := by kernel_rfl
@[simp] theorem tsh_57 : tsh Try.prog 57 = some (.ag 5) := by kernel_rfl
@[simp] theorem tsh_65 : tsh Try.prog 65 = some .sc := by kernel_rfl
@[simp] theorem tsh_73 : tsh Try.prog 73 = some (.ag 6) := by kernel_rfl
@[simp] theorem tsh_80 : tsh Try.prog 80 = some .sc := by kernel_rfl
@[simp] theorem tsh_82 : tsh Try.prog 82 = some (.ag 2) := by kernel_rfl
@[simp] theorem tsh_86 : tsh Try.prog 86 = some (.ag 2) := by kernel_rfl
@[simp] theorem zer_3 : zer Try.prog 3 = some (AV.int .i64 0) := by kernel_rfl
@[simp] theorem zer_5 : zer Try.prog 5 = some (AV.int .u8 0) := by kernel_rfl
@[simp] theorem zer_40 : zer Try.prog 40 = some (AV.agg [AV.int .i64 0, AV.nilsl]) := by kernel_rfl
@[simp] theorem zer_55 : zer Try.prog 55 = some (AV.agg [AV.int .i64 0, AV.int .i64 0, AV.int .i64 0, AV.int .i64 0]) := by kernel_rfl
@[simp] theorem zer_57 : zer Try.prog 57 = some (AV.agg [AV.int .i64 0, AV.int .i64 0, AV.int .i64 0, AV.int .i64 0, AV.nilsl]) := by kernel_rfl
@[simp] theorem zer_73 : zer Try.prog 73 = some (AV.agg [AV.int .i64 0, AV.int .i64 0, AV.int .i64 0, AV.int .i64 0, AV.int .i64 0, AV.nilsl]) := by kernel_rfl
@[simp] theorem zer_80 : zer Try.prog 80 = some (AV.nilsl) := by kernel_rfl
@[simp] theorem zer_82 : zer Try.prog 82 = some (AV.agg [AV.nilsl, AV.nilsl]) := by kernel_rfl
@[simp] theorem zer_86 : zer Try.prog 86 = some (AV.agg [AV.int .i64 0, AV.int .i64 0]) := by kernel_rfl
@[simp] theorem zer_200 : zer Try.prog 200 = some (AV.agg [AV.nilsl, AV.int .i64 0, AV.int .i64 0]) := by kernel_rfl
def E0 : FuncId → Md := fun f => (lkp [(82, { keep := true }), (83, { own := true, keep := true }), (97, { own := true }), (103, { own := true }), (104, { keep := true }), (105, { own := true }), (106, { own := true }), (107, { own := true }), (163, { own := true, keep := true }), (164, { own := true, keep := true }), (167, { keep := true, lend := true }), (169, { own := true }), (170, { own := true }), (171, { own := true }), (214, { own := true })] f).getD {}
@[simp] theorem E0_7 : E0 7 = {} := rfl
@[simp] theorem E0_23 : E0 23 = {} := rfl
@[simp] theorem E0_30 : E0 30 = {} := rfl
@[simp] theorem E0_32 : E0 32 = {} := rfl
@[simp] theorem E0_36 : E0 36 = {} := rfl
@[simp] theorem E0_38 : E0 38 = {} := rfl
@[simp] theorem E0_39 : E0 39 = {} := rfl
@[simp] theorem E0_40 : E0 40 = {} := rfl
@[simp] theorem E0_41 : E0 41 = {} := rfl
@[simp] theorem E0_42 : E0 42 = {} := rfl
@[simp] theorem E0_43 : E0 43 = {} := rfl
@[simp] theorem E0_80 : E0 80 = {} := rfl
@[simp] theorem E0_82 : E0 82 = { keep := true } := rfl
@[simp] theorem E0_83 : E0 83 = { own := true, keep := true } := rfl
@[simp] theorem E0_84 : E0 84 = {} := rfl
@[simp] theorem E0_85 : E0 85 = {} := rfl
@[simp] theorem E0_90 : E0 90 = {} := rfl
@[simp] theorem E0_91 : E0 91 = {} := rfl
@[simp] theorem E0_92 : E0 92 = {} := rfl
@[simp] theorem E0_93 : E0 93 = {} := rfl
@[simp] theorem E0_95 : E0 95 = {} := rfl
@[simp] theorem E0_96 : E0 96 = {} := rfl
@[simp] theorem E0_97 : E0 97 = { own := true } := rfl
@[simp] theorem E0_98 : E0 98 = {} := rfl
@[simp] theorem E0_100 : E0 100 = {} := rfl
@[simp] theorem E0_101 : E0 101 = {} := rfl
@[simp] theorem E0_103 : E0 103 = { own := true } := rfl
@[simp] theorem E0_104 : E0 104 = { keep := true } := rfl
@[simp] theorem E0_105 : E0 105 = { own := true } := rfl
@[simp] theorem E0_106 : E0 106 = { own := true } := rfl
@[simp] theorem E0_107 : E0 107 = { own := true } := rfl
@[simp] theorem E0_108 : E0 108 = {} := rfl
@[simp] theorem E0_158 : E0 158 = {} := rfl
@[simp] theorem E0_159 : E0 159 = {} := rfl
@[simp] theorem E0_161 : E0 161 = {} := rfl
@[simp] theorem E0_162 : E0 162 = {} := rfl
@[simp] theorem E0_163 : E0 163 = { own := true, keep := true } := rfl
@[simp] theorem E0_164 : E0 164 = { own := true, keep := true } := rfl
@[simp] theorem E0_165 : E0 165 = {} := rfl
@[simp] theorem E0_166 : E0 166 = {} := rfl
@[simp] theorem E0_167 : E0 167 = { keep := true, lend := true } := rfl
@[simp] theorem E0_168 : E0 168 = {} := rfl
@[simp] theorem E0_169 : E0 169 = { own := true } := rfl
@[simp] theorem E0_170 : E0 170 = { own := true } := rfl
@[simp] theorem E0_171 : E0 171 = { own := true } := rfl
@[simp] theorem E0_184 : E0 184 = {} := rfl
@[simp] theorem E0_205 : E0 205 = {} := rfl
@[simp] theorem E0_206 : E0 206 = {} := rfl
@[simp] theorem E0_209 : E0 209 = {} := rfl
@[simp] theorem E0_210 : E0 210 = {} := rfl
@[simp] theorem E0_211 : E0 211 = {} := rfl
@[simp] theorem E0_212 : E0 212 = {} := rfl
@[simp] theorem E0_213 : E0 213 = {} := rfl
@[simp] theorem E0_214 : E0 214 = { own := true } := rfl
@[simp] theorem E0_222 : E0 222 = {} := rfl
@[simp] theorem E0_227 : E0 227 = {} := rfl
@[simp] theorem E0_228 : E0 228 = {} := rfl
@[simp] theorem E0_229 : E0 229 = {} := rfl
@[simp] theorem E0_233 : E0 233 = {} := rfl
@[simp] theorem E0_234 : E0 234 = {} := rfl
@[simp] theorem E0_235 : E0 235 = {} := rfl
structure TBox where
  x0 : Int
  y0 : Int
  x1 : Int
  y1 : Int
@[simp] def eBox (a : TBox) : AV := .agg [AV.int .i64 a.x0, AV.int .i64 a.y0, AV.int .i64 a.x1, AV.int .i64 a.y1]
@[simp] theorem wid_eBox : wid eBox 4 = True := eq_true ⟨by simp⟩
@[simp] theorem eta_TBox (a : TBox) : TBox.mk a.x0 a.y0 a.x1 a.y1 = a := rfl
theorem inj_eBox : Inj eBox := by
  constructor
  rintro ⟨x0, x1, x2, x3⟩ ⟨y0, y1, y2, y3⟩ h
  simp at h
  simp [h]
@[simp] theorem Inj_eBox : Inj eBox = True := eq_true inj_eBox
@[simp] theorem pln_eBox : pln eBox = True := eq_true ⟨fun a => by simp⟩
structure TMask where
  box : TBox
  bits : List Int
@[simp] def eMask (a : TMask) : AV := .agg [AV.int .i64 a.box.x0, AV.int .i64 a.box.y0, AV.int .i64 a.box.x1, AV.int .i64 a.box.y1, AV.fsl (List.map (AV.int .i64) a.bits)]
@[simp] theorem wid_eMask : wid eMask 5 = True := eq_true ⟨by simp⟩
@[simp] theorem eta_TMask (a : TMask) : TMask.mk a.box a.bits = a := rfl
theorem inj_eMask : Inj eMask := by
  constructor
  rintro ⟨⟨x0, x1, x2, x3⟩, x4⟩ ⟨⟨y0, y1, y2, y3⟩, y4⟩ h
  simp at h
  simp [h]
@[simp] theorem Inj_eMask : Inj eMask = True := eq_true inj_eMask
structure TKept where
  id : Int
  mask : TMask
@[simp] def eKept (a : TKept) : AV := .agg [AV.int .i64 a.id, AV.int .i64 a.mask.box.x0, AV.int .i64 a.mask.box.y0, AV.int .i64 a.mask.box.x1, AV.int .i64 a.mask.box.y1, AV.fsl (List.map (AV.int .i64) a.mask.bits)]
@[simp] theorem wid_eKept : wid eKept 6 = True := eq_true ⟨by simp⟩
@[simp] theorem eta_TKept (a : TKept) : TKept.mk a.id a.mask = a := rfl
theorem inj_eKept : Inj eKept := by
  constructor
  rintro ⟨x0, ⟨⟨x1, x2, x3, x4⟩, x5⟩⟩ ⟨y0, ⟨⟨y1, y2, y3, y4⟩, y5⟩⟩ h
  simp at h
  simp [h]
@[simp] theorem Inj_eKept : Inj eKept = True := eq_true inj_eKept
structure TCache where
  most : Int
  list : List TKept
@[simp] def eCache (a : TCache) : AV := .agg [AV.int .i64 a.most, AV.fsl (List.map eKept a.list)]
@[simp] theorem wid_eCache : wid eCache 2 = True := eq_true ⟨by simp⟩
@[simp] theorem eta_TCache (a : TCache) : TCache.mk a.most a.list = a := rfl
theorem inj_eCache : Inj eCache := by
  constructor
  rintro ⟨x0, x1⟩ ⟨y0, y1⟩ h
  simp at h
  simp [h]
@[simp] theorem Inj_eCache : Inj eCache = True := eq_true inj_eCache
structure TL01Cur where
  b : List Int
  i : Int
  h : Int
@[simp] def eL01Cur (a : TL01Cur) : AV := .agg [AV.fsl (List.map (AV.int .u8) a.b), AV.int .i64 a.i, AV.int .i64 a.h]
@[simp] theorem wid_eL01Cur : wid eL01Cur 3 = True := eq_true ⟨by simp⟩
@[simp] theorem eta_TL01Cur (a : TL01Cur) : TL01Cur.mk a.b a.i a.h = a := rfl
theorem inj_eL01Cur : Inj eL01Cur := by
  constructor
  rintro ⟨x0, x1, x2⟩ ⟨y0, y1, y2⟩ h
  simp at h
  simp [h]
@[simp] theorem Inj_eL01Cur : Inj eL01Cur = True := eq_true inj_eL01Cur
structure TPoint where
  x : Int
  y : Int
@[simp] def ePoint (a : TPoint) : AV := .agg [AV.int .i64 a.x, AV.int .i64 a.y]
@[simp] theorem wid_ePoint : wid ePoint 2 = True := eq_true ⟨by simp⟩
@[simp] theorem eta_TPoint (a : TPoint) : TPoint.mk a.x a.y = a := rfl
theorem inj_ePoint : Inj ePoint := by
  constructor
  rintro ⟨x0, x1⟩ ⟨y0, y1⟩ h
  simp at h
  simp [h]
@[simp] theorem Inj_ePoint : Inj ePoint = True := eq_true inj_ePoint
@[simp] theorem pln_ePoint : pln ePoint = True := eq_true ⟨fun a => by simp⟩
structure TPath where
  verbs : List Int
  points : List TPoint
@[simp] def ePath (a : TPath) : AV := .agg [AV.fsl (List.map (AV.int .i64) a.verbs), AV.fsl (List.map ePoint a.points)]
@[simp] theorem wid_ePath : wid ePath 2 = True := eq_true ⟨by simp⟩
@[simp] theorem eta_TPath (a : TPath) : TPath.mk a.verbs a.points = a := rfl
theorem inj_ePath : Inj ePath := by
  constructor
  rintro ⟨x0, x1⟩ ⟨y0, y1⟩ h
  simp at h
  simp [h]
@[simp] theorem Inj_ePath : Inj ePath = True := eq_true inj_ePath
end Go.Proofs.Ytafljhadfoaceaa.Am
