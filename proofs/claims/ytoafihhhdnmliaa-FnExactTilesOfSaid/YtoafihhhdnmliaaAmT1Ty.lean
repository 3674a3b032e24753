import Derived.Test.YtoafihhhdnmliaaAmNl
import Derived.Test.YtoafihhhdnmliaaProg
import Derived.KernelRfl
set_option linter.unusedVariables false
set_option linter.unusedSimpArgs false
set_option linter.unusedSectionVars false
namespace Go.Proofs.Ytoafihhhdnmliaa.Am
open Go Go.Proofs
set_option maxRecDepth 100000
set_option linter.unusedSimpArgs false
@[simp] theorem art_39 : art Try.prog 39 = none := by kernel_rfl
@[simp] theorem art_40 : art Try.prog 40 = none := by kernel_rfl
@[simp] theorem art_51 : art Try.prog 51 = none := by kernel_rfl
@[simp] theorem art_75 : art Try.prog 75 = none := by kernel_rfl
@[simp] theorem elt_39 : elt Try.prog 39 = some (114, (.ag 4), 32) := by kernel_rfl
@[simp] theorem elt_40 : elt Try.prog 40 = some (3, .sc, 8) := by kernel_rfl
@[simp] theorem elt_51 : elt Try.prog 51 = some (75, (.ag 4), 32) := by kernel_rfl
@[simp] theorem eqk_3 : eqk Try.prog 3 = some (false, [.i]) := by kernel_rfl
@[simp] theorem fld_75_0 : fld Try.prog 75 0 = some (0, .sc) := by kernel_rfl
@[simp] theorem fld_75_1 : fld Try.prog 75 1 = some (1, .sc) := by kernel_rfl
@[simp] theorem fld_75_2 : fld Try.prog 75 2 = some (2, .sc) := by kernel_rfl
@[simp] theorem fld_75_3 : fld Try.prog 75 3 = some (3, .sc) := by kernel_rfl
@[simp] theorem fld_114_0 : fld Try.prog 114 0 = some (0, .sc) := by kernel_rfl
@[simp] theorem fld_114_1 : fld Try.prog 114 1 = some (1, .sc) := by kernel_rfl
@[simp] theorem fld_114_2 : fld Try.prog 114 2 = some (2, .sc) := by kernel_rfl
@[simp] theorem fld_114_3 : fld Try.prog 114 3 = some (3, .sc) := by kernel_rfl
@[simp] theorem isArr_75 : isArr Try.prog 75 = false := by kernel_rfl
@[simp] theorem lnK_39 : lnK Try.prog 39 = some .sl := by kernel_rfl
@[simp] theorem lnK_40 : lnK Try.prog 40 = some .sl := by kernel_rfl
@[simp] theorem lnK_51 : lnK Try.prog 51 = some .sl := by kernel_rfl
@[simp] theorem plc_75 : plc Try.prog 75 = some [(0, 1), (1, 1), (2, 1), (3, 1)] := by kernel_rfl
@[simp] theorem srcTy_40 : srcTy Try.prog 40 = true := by kernel_rfl
@[simp] theorem tsh_3 : tsh Try.prog 3 = some .sc := by kernel_rfl
@[simp] theorem tsh_75 : tsh Try.prog 75 = some (.ag 4) := by kernel_rfl
@[simp] theorem tsh_114 : tsh Try.prog 114 = some (.ag 4) := by kernel_rfl
@[simp] theorem zer_3 : zer Try.prog 3 = some (AV.int .i64 0) := by kernel_rfl
@[simp] theorem zer_75 : zer Try.prog 75 = some (AV.agg [AV.int .i64 0, AV.int .i64 0, AV.int .i64 0, AV.int .i64 0]) := by kernel_rfl
@[simp] theorem zer_114 : zer Try.prog 114 = some (AV.agg [AV.int .i64 0, AV.int .i64 0, AV.int .i64 0, AV.int .i64 0]) := by kernel_rfl
def E0 : FuncId → Md := fun f => (lkp [(54, { keep := true, lend := true }), (55, { keep := true, lend := true }), (58, { own := true }), (59, { own := true })] f).getD {}
@[simp] theorem E0_9 : E0 9 = {} := rfl
@[simp] theorem E0_52 : E0 52 = {} := rfl
@[simp] theorem E0_53 : E0 53 = {} := rfl
@[simp] theorem E0_54 : E0 54 = { keep := true, lend := true } := rfl
@[simp] theorem E0_55 : E0 55 = { keep := true, lend := true } := rfl
@[simp] theorem E0_56 : E0 56 = {} := rfl
@[simp] theorem E0_57 : E0 57 = {} := rfl
@[simp] theorem E0_58 : E0 58 = { own := true } := rfl
@[simp] theorem E0_59 : E0 59 = { own := true } := rfl
@[simp] theorem E0_60 : E0 60 = {} := rfl
@[simp] theorem E0_73 : E0 73 = {} := rfl
@[simp] theorem E0_76 : E0 76 = {} := rfl
@[simp] theorem E0_81 : E0 81 = {} := rfl
@[simp] theorem E0_83 : E0 83 = {} := rfl
@[simp] theorem E0_84 : E0 84 = {} := rfl
@[simp] theorem E0_85 : E0 85 = {} := rfl
@[simp] theorem E0_88 : E0 88 = {} := rfl
@[simp] theorem E0_89 : E0 89 = {} := rfl
@[simp] theorem E0_102 : E0 102 = {} := rfl
@[simp] theorem E0_137 : E0 137 = {} := rfl
@[simp] theorem E0_138 : E0 138 = {} := rfl
@[simp] theorem E0_139 : E0 139 = {} := rfl
@[simp] theorem E0_154 : E0 154 = {} := rfl
@[simp] theorem E0_155 : E0 155 = {} := rfl
@[simp] theorem E0_156 : E0 156 = {} := rfl
@[simp] theorem E0_157 : E0 157 = {} := rfl
@[simp] theorem E0_158 : E0 158 = {} := rfl
structure TBox where
  x0 : Int
  y0 : Int
  x1 : Int
  y1 : Int
@[simp] def eBox (a : TBox) : AV := .agg [AV.int .i64 a.x0, AV.int .i64 a.y0, AV.int .i64 a.x1, AV.int .i64 a.y1]
@[simp] theorem wid_eBox : wid eBox 4 = True := eq_true ⟨by simp⟩
@[simp] theorem eta_TBox (a : TBox) : TBox.mk a.x0 a.y0 a.x1 a.y1 = a := rfl
theorem inj_eBox : Inj eBox := by
  constructor
  rintro ⟨x0, x1, x2, x3⟩ ⟨y0, y1, y2, y3⟩ h
  simp at h
  simp [h]
@[simp] theorem Inj_eBox : Inj eBox = True := eq_true inj_eBox
@[simp] theorem pln_eBox : pln eBox = True := eq_true ⟨fun a => by simp⟩
structure TMask where
  box : TBox
  bits : List Int
@[simp] def eMask (a : TMask) : AV := .agg [AV.int .i64 a.box.x0, AV.int .i64 a.box.y0, AV.int .i64 a.box.x1, AV.int .i64 a.box.y1, AV.fsl (List.map (AV.int .i64) a.bits)]
@[simp] theorem wid_eMask : wid eMask 5 = True := eq_true ⟨by simp⟩
@[simp] theorem eta_TMask (a : TMask) : TMask.mk a.box a.bits = a := rfl
theorem inj_eMask : Inj eMask := by
  constructor
  rintro ⟨⟨x0, x1, x2, x3⟩, x4⟩ ⟨⟨y0, y1, y2, y3⟩, y4⟩ h
  simp at h
  simp [h]
@[simp] theorem Inj_eMask : Inj eMask = True := eq_true inj_eMask
structure TKept where
  id : Int
  mask : TMask
@[simp] def eKept (a : TKept) : AV := .agg [AV.int .i64 a.id, AV.int .i64 a.mask.box.x0, AV.int .i64 a.mask.box.y0, AV.int .i64 a.mask.box.x1, AV.int .i64 a.mask.box.y1, AV.fsl (List.map (AV.int .i64) a.mask.bits)]
@[simp] theorem wid_eKept : wid eKept 6 = True := eq_true ⟨by simp⟩
@[simp] theorem eta_TKept (a : TKept) : TKept.mk a.id a.mask = a := rfl
theorem inj_eKept : Inj eKept := by
  constructor
  rintro ⟨x0, ⟨⟨x1, x2, x3, x4⟩, x5⟩⟩ ⟨y0, ⟨⟨y1, y2, y3, y4⟩, y5⟩⟩ h
  simp at h
  simp [h]
@[simp] theorem Inj_eKept : Inj eKept = True := eq_true inj_eKept
structure TCache where
  most : Int
  list : List TKept
@[simp] def eCache (a : TCache) : AV := .agg [AV.int .i64 a.most, AV.fsl (List.map eKept a.list)]
@[simp] theorem wid_eCache : wid eCache 2 = True := eq_true ⟨by simp⟩
@[simp] theorem eta_TCache (a : TCache) : TCache.mk a.most a.list = a := rfl
theorem inj_eCache : Inj eCache := by
  constructor
  rintro ⟨x0, x1⟩ ⟨y0, y1⟩ h
  simp at h
  simp [h]
@[simp] theorem Inj_eCache : Inj eCache = True := eq_true inj_eCache
structure TColor where
  r : Int
  g : Int
  b : Int
  a : Int
@[simp] def eColor (a : TColor) : AV := .agg [AV.int .i64 a.r, AV.int .i64 a.g, AV.int .i64 a.b, AV.int .i64 a.a]
@[simp] theorem wid_eColor : wid eColor 4 = True := eq_true ⟨by simp⟩
@[simp] theorem eta_TColor (a : TColor) : TColor.mk a.r a.g a.b a.a = a := rfl
theorem inj_eColor : Inj eColor := by
  constructor
  rintro ⟨x0, x1, x2, x3⟩ ⟨y0, y1, y2, y3⟩ h
  simp at h
  simp [h]
@[simp] theorem Inj_eColor : Inj eColor = True := eq_true inj_eColor
@[simp] theorem pln_eColor : pln eColor = True := eq_true ⟨fun a => by simp⟩
structure TSurface where
  w : Int
  h : Int
  pix : List TColor
@[simp] def eSurface (a : TSurface) : AV := .agg [AV.int .i64 a.w, AV.int .i64 a.h, AV.fsl (List.map eColor a.pix)]
@[simp] theorem wid_eSurface : wid eSurface 3 = True := eq_true ⟨by simp⟩
@[simp] theorem eta_TSurface (a : TSurface) : TSurface.mk a.w a.h a.pix = a := rfl
theorem inj_eSurface : Inj eSurface := by
  constructor
  rintro ⟨x0, x1, x2⟩ ⟨y0, y1, y2⟩ h
  simp at h
  simp [h]
@[simp] theorem Inj_eSurface : Inj eSurface = True := eq_true inj_eSurface
structure TL01Cur where
  b : List Int
  i : Int
  h : Int
@[simp] def eL01Cur (a : TL01Cur) : AV := .agg [AV.fsl (List.map (AV.int .u8) a.b), AV.int .i64 a.i, AV.int .i64 a.h]
@[simp] theorem wid_eL01Cur : wid eL01Cur 3 = True := eq_true ⟨by simp⟩
@[simp] theorem eta_TL01Cur (a : TL01Cur) : TL01Cur.mk a.b a.i a.h = a := rfl
theorem inj_eL01Cur : Inj eL01Cur := by
  constructor
  rintro ⟨x0, x1, x2⟩ ⟨y0, y1, y2⟩ h
  simp at h
  simp [h]
@[simp] theorem Inj_eL01Cur : Inj eL01Cur = True := eq_true inj_eL01Cur
end Go.Proofs.Ytoafihhhdnmliaa.Am
