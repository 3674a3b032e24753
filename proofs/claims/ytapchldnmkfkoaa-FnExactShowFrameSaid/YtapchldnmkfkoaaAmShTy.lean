import Derived.Test.YtapchldnmkfkoaaAmSw
import Derived.Test.YtapchldnmkfkoaaProg
import Derived.KernelRfl
set_option linter.unusedVariables false
set_option linter.unusedSimpArgs false
set_option linter.unusedSectionVars false
namespace Go.Proofs.Ytapchldnmkfkoaa.Am
open Go Go.Proofs
set_option maxRecDepth 100000
set_option linter.unusedSimpArgs false
@[simp] theorem art_9 : art Try.prog 9 = none := by kernel_rfl
@[simp] theorem art_22 : art Try.prog 22 = none := by kernel_rfl
@[simp] theorem art_27 : art Try.prog 27 = none := by kernel_rfl
@[simp] theorem cvt_3_5 : cvt Try.prog 3 5 = some (.int .u8) := by kernel_rfl
@[simp] theorem cvt_5_3 : cvt Try.prog 5 3 = some (.int .i64) := by kernel_rfl
@[simp] theorem cvt_65_9 : cvt Try.prog 65 9 = some .bytesStr := by kernel_rfl
@[simp] theorem elt_22 : elt Try.prog 22 = some (149, (.ag 4), 32) := by kernel_rfl
@[simp] theorem elt_27 : elt Try.prog 27 = some (84, (.ag 4), 32) := by kernel_rfl
@[simp] theorem elt_65 : elt Try.prog 65 = some (5, .sc, 1) := by kernel_rfl
@[simp] theorem eqk_3 : eqk Try.prog 3 = some (false, [.i]) := by kernel_rfl
@[simp] theorem eqk_9 : eqk Try.prog 9 = some (false, [.s]) := by kernel_rfl
@[simp] theorem fld_24_0 : fld Try.prog 24 0 = some (0, .sc) := by kernel_rfl
@[simp] theorem fld_24_1 : fld Try.prog 24 1 = some (1, .sc) := by kernel_rfl
@[simp] theorem fld_24_2 : fld Try.prog 24 2 = some (2, .sc) := by kernel_rfl
@[simp] theorem fld_29_0 : fld Try.prog 29 0 = some (0, .sc) := by kernel_rfl
@[simp] theorem fld_29_1 : fld Try.prog 29 1 = some (1, .sc) := by kernel_rfl
@[simp] theorem fld_29_2 : fld Try.prog 29 2 = some (2, .sc) := by kernel_rfl
@[simp] theorem fld_84_0 : fld Try.prog 84 0 = some (0, .sc) := by kernel_rfl
@[simp] theorem fld_84_1 : fld Try.prog 84 1 = some (1, .sc) := by kernel_rfl
@[simp] theorem fld_84_2 : fld Try.prog 84 2 = some (2, .sc) := by kernel_rfl
@[simp] theorem fld_84_3 : fld Try.prog 84 3 = some (3, .sc) := by kernel_rfl
@[simp] theorem fld_149_0 : fld Try.prog 149 0 = some (0, .sc) := by kernel_rfl
@[simp] theorem fld_149_1 : fld Try.prog 149 1 = some (1, .sc) := by kernel_rfl
@[simp] theorem fld_149_2 : fld Try.prog 149 2 = some (2, .sc) := by kernel_rfl
@[simp] theorem fld_149_3 : fld Try.prog 149 3 = some (3, .sc) := by kernel_rfl
@[simp] theorem isBld_29 : isBld Try.prog 29 = false := by kernel_rfl
@[simp] theorem isBld_84 : isBld Try.prog 84 = false := by kernel_rfl
@[simp] theorem isBld_107 : isBld Try.prog 107 = true := by kernel_rfl
@[simp] theorem isStr_9 : isStr Try.prog 9 = true := by kernel_rfl
@[simp] theorem lnK_9 : lnK Try.prog 9 = some .st := by kernel_rfl
@[simp] theorem lnK_22 : lnK Try.prog 22 = some .sl := by kernel_rfl
@[simp] theorem lnK_27 : lnK Try.prog 27 = some .sl := by kernel_rfl
@[simp] theorem srcTy_65 : srcTy Try.prog 65 = true := by kernel_rfl
@[simp] theorem tsh_3 : tsh Try.prog 3 = some .sc := by kernel_rfl
@[simp] theorem tsh_22 : tsh Try.prog 22 = some .sc := by kernel_rfl
@[simp] theorem tsh_24 : tsh Try.prog 24 = some (.ag 3) := by kernel_rfl
@[simp] theorem tsh_27 : tsh Try.prog 27 = some .sc := by kernel_rfl
@[simp] theorem tsh_29 : tsh Try.prog 29 = some (.ag 3) := by kernel_rfl
@[simp] theorem tsh_84 : tsh Try.prog 84 = some (.ag 4) := by kernel_rfl
@[simp] theorem tsh_107 : tsh Try.prog 107 = some (.ag 2) := by kernel_rfl
@[simp] theorem tsh_149 : tsh Try.prog 149 = some (.ag 4) := by kernel_rfl
@[simp] theorem zer_5 : zer Try.prog 5 = some (AV.int .u8 0) := by kernel_rfl
@[simp] theorem zer_29 : zer Try.prog 29 = some (AV.agg [AV.int .i64 0, AV.int .i64 0, AV.nilsl]) := by kernel_rfl
@[simp] theorem zer_84 : zer Try.prog 84 = some (AV.agg [AV.int .i64 0, AV.int .i64 0, AV.int .i64 0, AV.int .i64 0]) := by kernel_rfl
@[simp] theorem zer_107 : zer Try.prog 107 = some (AV.agg [AV.nilp, AV.nilsl]) := by kernel_rfl
@[simp] theorem zer_149 : zer Try.prog 149 = some (AV.agg [AV.int .i64 0, AV.int .i64 0, AV.int .i64 0, AV.int .i64 0]) := by kernel_rfl
def E0 : FuncId → Md := fun f => (lkp [] f).getD {}
@[simp] theorem E0_3 : E0 3 = {} := rfl
@[simp] theorem E0_9 : E0 9 = {} := rfl
@[simp] theorem E0_10 : E0 10 = {} := rfl
@[simp] theorem E0_11 : E0 11 = {} := rfl
@[simp] theorem E0_12 : E0 12 = {} := rfl
@[simp] theorem E0_13 : E0 13 = {} := rfl
@[simp] theorem E0_49 : E0 49 = {} := rfl
@[simp] theorem E0_50 : E0 50 = {} := rfl
@[simp] theorem E0_51 : E0 51 = {} := rfl
@[simp] theorem E0_52 : E0 52 = {} := rfl
@[simp] theorem E0_53 : E0 53 = {} := rfl
@[simp] theorem E0_54 : E0 54 = {} := rfl
@[simp] theorem E0_58 : E0 58 = {} := rfl
@[simp] theorem E0_71 : E0 71 = {} := rfl
@[simp] theorem E0_75 : E0 75 = {} := rfl
@[simp] theorem E0_109 : E0 109 = {} := rfl
@[simp] theorem E0_110 : E0 110 = {} := rfl
@[simp] theorem E0_111 : E0 111 = {} := rfl
@[simp] theorem E0_112 : E0 112 = {} := rfl
@[simp] theorem E0_113 : E0 113 = {} := rfl
@[simp] theorem E0_115 : E0 115 = {} := rfl
@[simp] theorem E0_139 : E0 139 = {} := rfl
@[simp] theorem E0_152 : E0 152 = {} := rfl
@[simp] theorem E0_153 : E0 153 = {} := rfl
structure TColor where
  r : Int
  g : Int
  b : Int
  a : Int
@[simp] def eColor (a : TColor) : AV := .agg [AV.int .i64 a.r, AV.int .i64 a.g, AV.int .i64 a.b, AV.int .i64 a.a]
@[simp] theorem wid_eColor : wid eColor 4 = True := eq_true ⟨by simp⟩
@[simp] theorem eta_TColor (a : TColor) : TColor.mk a.r a.g a.b a.a = a := rfl
theorem inj_eColor : Inj eColor := by
  constructor
  rintro ⟨x0, x1, x2, x3⟩ ⟨y0, y1, y2, y3⟩ h
  simp at h
  simp [h]
@[simp] theorem Inj_eColor : Inj eColor = True := eq_true inj_eColor
@[simp] theorem pln_eColor : pln eColor = True := eq_true ⟨fun a => by simp⟩
structure TSurface where
  w : Int
  h : Int
  pix : List TColor
@[simp] def eSurface (a : TSurface) : AV := .agg [AV.int .i64 a.w, AV.int .i64 a.h, AV.fsl (List.map eColor a.pix)]
@[simp] theorem wid_eSurface : wid eSurface 3 = True := eq_true ⟨by simp⟩
@[simp] theorem eta_TSurface (a : TSurface) : TSurface.mk a.w a.h a.pix = a := rfl
theorem inj_eSurface : Inj eSurface := by
  constructor
  rintro ⟨x0, x1, x2⟩ ⟨y0, y1, y2⟩ h
  simp at h
  simp [h]
@[simp] theorem Inj_eSurface : Inj eSurface = True := eq_true inj_eSurface
end Go.Proofs.Ytapchldnmkfkoaa.Am
