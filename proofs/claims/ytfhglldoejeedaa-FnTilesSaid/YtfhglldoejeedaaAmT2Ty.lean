import Derived.Test.YtfhglldoejeedaaAmMe
import Derived.Test.YtfhglldoejeedaaProg
import Derived.KernelRfl
set_option linter.unusedVariables false
set_option linter.unusedSimpArgs false
set_option linter.unusedSectionVars false
namespace Go.Proofs.Ytfhglldoejeedaa.Am
open Go Go.Proofs
set_option maxRecDepth 100000
set_option linter.unusedSimpArgs false
@[simp] theorem art_25 : art Try.prog 25 = none := by kernel_rfl
@[simp] theorem art_29 : art Try.prog 29 = none := by kernel_rfl
@[simp] theorem art_31 : art Try.prog 31 = none := by kernel_rfl
@[simp] theorem art_35 : art Try.prog 35 = none := by kernel_rfl
@[simp] theorem art_39 : art Try.prog 39 = none := by kernel_rfl
@[simp] theorem art_209 : art Try.prog 209 = none := by kernel_rfl
@[simp] theorem cvt_5_3 : cvt Try.prog 5 3 = some (.int .i64) := by kernel_rfl
@[simp] theorem elt_29 : elt Try.prog 29 = some (5, .sc, 1) := by kernel_rfl
@[simp] theorem elt_31 : elt Try.prog 31 = some (3, .sc, 8) := by kernel_rfl
@[simp] theorem elt_39 : elt Try.prog 39 = some (25, (.ag 4), 32) := by kernel_rfl
@[simp] theorem eqk_3 : eqk Try.prog 3 = some (false, [.i]) := by kernel_rfl
@[simp] theorem eqk_4 : eqk Try.prog 4 = some (false, [.b]) := by kernel_rfl
@[simp] theorem fld_25_0 : fld Try.prog 25 0 = some (0, .sc) := by kernel_rfl
@[simp] theorem fld_25_1 : fld Try.prog 25 1 = some (1, .sc) := by kernel_rfl
@[simp] theorem fld_25_2 : fld Try.prog 25 2 = some (2, .sc) := by kernel_rfl
@[simp] theorem fld_25_3 : fld Try.prog 25 3 = some (3, .sc) := by kernel_rfl
@[simp] theorem fld_35_0 : fld Try.prog 35 0 = some (0, .sc) := by kernel_rfl
@[simp] theorem fld_35_1 : fld Try.prog 35 1 = some (1, .sc) := by kernel_rfl
@[simp] theorem fld_209_0 : fld Try.prog 209 0 = some (0, .sc) := by kernel_rfl
@[simp] theorem fld_209_1 : fld Try.prog 209 1 = some (1, .sc) := by kernel_rfl
@[simp] theorem fld_209_2 : fld Try.prog 209 2 = some (2, .sc) := by kernel_rfl
@[simp] theorem isArr_25 : isArr Try.prog 25 = false := by kernel_rfl
@[simp] theorem isArr_35 : isArr Try.prog 35 = false := by kernel_rfl
@[simp] theorem isArr_209 : isArr Try.prog 209 = false := by kernel_rfl
@[simp] theorem lnK_29 : lnK Try.prog 29 = some .sl := by kernel_rfl
@[simp] theorem lnK_31 : lnK Try.prog 31 = some .sl := by kernel_rfl
@[simp] theorem lnK_39 : lnK Try.prog 39 = some .sl := by kernel_rfl
@[simp] theorem plc_25 : plc Try.prog 25 = some [(0, 1), (1, 1), (2, 1), (3, 1)] := by kernel_rfl
@[simp] theorem plc_35 : plc Try.prog 35 = some [(0, 1), (1, 1)] := by kernel_rfl
@[simp] theorem plc_209 : plc Try.prog 209 = some [(0, 1), (1, 1), (2, 1)] := by kernel_rfl
@[simp] theorem srcTy_31 : srcTy Try.prog 31 = true := by kernel_rfl
@[simp] theorem tsh_3 : tsh Try.prog 3 = some .sc := by kernel_rfl
@[simp] theorem tsh_5 : tsh Try.prog 5 = some .sc := by kernel_rfl
@[simp] theorem tsh_25 : tsh Try.prog 25 = some (.ag 4) := by kernel_rfl
@[simp] theorem tsh_29 : tsh Try.prog 29 = some .sc := by kernel_rfl
@[simp] theorem tsh_35 : tsh Try.prog 35 = some (.ag 2) := by kernel_rfl
@[simp] theorem zer_3 : zer Try.prog 3 = some (AV.int .i64 0) := by kernel_rfl
@[simp] theorem zer_5 : zer Try.prog 5 = some (AV.int .u8 0) := by kernel_rfl
@[simp] theorem zer_25 : zer Try.prog 25 = some (AV.agg [AV.int .i64 0, AV.int .i64 0, AV.int .i64 0, AV.int .i64 0]) := by kernel_rfl
@[simp] theorem zer_35 : zer Try.prog 35 = some (AV.agg [AV.int .i64 0, AV.int .i64 0]) := by kernel_rfl
@[simp] theorem zer_209 : zer Try.prog 209 = some (AV.agg [AV.nilsl, AV.int .i64 0, AV.int .i64 0]) := by kernel_rfl
def E0 : FuncId → Md := fun f => (lkp [(94, { keep := true }), (95, { own := true }), (96, { own := true })] f).getD {}
@[simp] theorem E0_5 : E0 5 = {} := rfl
@[simp] theorem E0_16 : E0 16 = {} := rfl
@[simp] theorem E0_17 : E0 17 = {} := rfl
@[simp] theorem E0_19 : E0 19 = {} := rfl
@[simp] theorem E0_21 : E0 21 = {} := rfl
@[simp] theorem E0_22 : E0 22 = {} := rfl
@[simp] theorem E0_23 : E0 23 = {} := rfl
@[simp] theorem E0_24 : E0 24 = {} := rfl
@[simp] theorem E0_25 : E0 25 = {} := rfl
@[simp] theorem E0_26 : E0 26 = {} := rfl
@[simp] theorem E0_27 : E0 27 = {} := rfl
@[simp] theorem E0_28 : E0 28 = {} := rfl
@[simp] theorem E0_89 : E0 89 = {} := rfl
@[simp] theorem E0_90 : E0 90 = {} := rfl
@[simp] theorem E0_91 : E0 91 = {} := rfl
@[simp] theorem E0_92 : E0 92 = {} := rfl
@[simp] theorem E0_93 : E0 93 = {} := rfl
@[simp] theorem E0_94 : E0 94 = { keep := true } := rfl
@[simp] theorem E0_95 : E0 95 = { own := true } := rfl
@[simp] theorem E0_96 : E0 96 = { own := true } := rfl
@[simp] theorem E0_97 : E0 97 = {} := rfl
@[simp] theorem E0_98 : E0 98 = {} := rfl
@[simp] theorem E0_99 : E0 99 = {} := rfl
@[simp] theorem E0_190 : E0 190 = {} := rfl
structure TL01Cur where
  b : List Int
  i : Int
  h : Int
@[simp] def eL01Cur (a : TL01Cur) : AV := .agg [AV.fsl (List.map (AV.int .u8) a.b), AV.int .i64 a.i, AV.int .i64 a.h]
@[simp] theorem wid_eL01Cur : wid eL01Cur 3 = True := eq_true ⟨by simp⟩
@[simp] theorem eta_TL01Cur (a : TL01Cur) : TL01Cur.mk a.b a.i a.h = a := rfl
theorem inj_eL01Cur : Inj eL01Cur := by
  constructor
  rintro ⟨x0, x1, x2⟩ ⟨y0, y1, y2⟩ h
  simp at h
  simp [h]
@[simp] theorem Inj_eL01Cur : Inj eL01Cur = True := eq_true inj_eL01Cur
structure TBox where
  x0 : Int
  y0 : Int
  x1 : Int
  y1 : Int
@[simp] def eBox (a : TBox) : AV := .agg [AV.int .i64 a.x0, AV.int .i64 a.y0, AV.int .i64 a.x1, AV.int .i64 a.y1]
@[simp] theorem wid_eBox : wid eBox 4 = True := eq_true ⟨by simp⟩
@[simp] theorem eta_TBox (a : TBox) : TBox.mk a.x0 a.y0 a.x1 a.y1 = a := rfl
theorem inj_eBox : Inj eBox := by
  constructor
  rintro ⟨x0, x1, x2, x3⟩ ⟨y0, y1, y2, y3⟩ h
  simp at h
  simp [h]
@[simp] theorem Inj_eBox : Inj eBox = True := eq_true inj_eBox
structure TPoint where
  x : Int
  y : Int
@[simp] def ePoint (a : TPoint) : AV := .agg [AV.int .i64 a.x, AV.int .i64 a.y]
@[simp] theorem wid_ePoint : wid ePoint 2 = True := eq_true ⟨by simp⟩
@[simp] theorem eta_TPoint (a : TPoint) : TPoint.mk a.x a.y = a := rfl
theorem inj_ePoint : Inj ePoint := by
  constructor
  rintro ⟨x0, x1⟩ ⟨y0, y1⟩ h
  simp at h
  simp [h]
@[simp] theorem Inj_ePoint : Inj ePoint = True := eq_true inj_ePoint
end Go.Proofs.Ytfhglldoejeedaa.Am
