import Derived.Test.YtoafihhhdnmliaaAmNl
import Derived.Test.YtoafihhhdnmliaaProg
import Derived.KernelRfl
set_option linter.unusedVariables false
set_option linter.unusedSimpArgs false
set_option linter.unusedSectionVars false
namespace Go.Proofs.Ytoafihhhdnmliaa.Am
open Go Go.Proofs
set_option maxRecDepth 100000
set_option linter.unusedSimpArgs false
@[simp] theorem art_36 : art Try.prog 36 = none := by kernel_rfl
@[simp] theorem art_48 : art Try.prog 48 = none := by kernel_rfl
@[simp] theorem art_50 : art Try.prog 50 = none := by kernel_rfl
@[simp] theorem art_75 : art Try.prog 75 = none := by kernel_rfl
@[simp] theorem art_81 : art Try.prog 81 = none := by kernel_rfl
@[simp] theorem elt_36 : elt Try.prog 36 = some (117, (.ag 4), 32) := by kernel_rfl
@[simp] theorem elt_48 : elt Try.prog 48 = some (81, (.ag 4), 32) := by kernel_rfl
@[simp] theorem eqk_3 : eqk Try.prog 3 = some (false, [.i]) := by kernel_rfl
@[simp] theorem fld_38_0 : fld Try.prog 38 0 = some (0, .sc) := by kernel_rfl
@[simp] theorem fld_38_1 : fld Try.prog 38 1 = some (1, .sc) := by kernel_rfl
@[simp] theorem fld_38_2 : fld Try.prog 38 2 = some (2, .sc) := by kernel_rfl
@[simp] theorem fld_50_0 : fld Try.prog 50 0 = some (0, .sc) := by kernel_rfl
@[simp] theorem fld_50_1 : fld Try.prog 50 1 = some (1, .sc) := by kernel_rfl
@[simp] theorem fld_50_2 : fld Try.prog 50 2 = some (2, .sc) := by kernel_rfl
@[simp] theorem fld_75_0 : fld Try.prog 75 0 = some (0, .sc) := by kernel_rfl
@[simp] theorem fld_75_1 : fld Try.prog 75 1 = some (1, .sc) := by kernel_rfl
@[simp] theorem fld_75_2 : fld Try.prog 75 2 = some (2, .sc) := by kernel_rfl
@[simp] theorem fld_75_3 : fld Try.prog 75 3 = some (3, .sc) := by kernel_rfl
@[simp] theorem fld_81_0 : fld Try.prog 81 0 = some (0, .sc) := by kernel_rfl
@[simp] theorem fld_81_1 : fld Try.prog 81 1 = some (1, .sc) := by kernel_rfl
@[simp] theorem fld_81_2 : fld Try.prog 81 2 = some (2, .sc) := by kernel_rfl
@[simp] theorem fld_81_3 : fld Try.prog 81 3 = some (3, .sc) := by kernel_rfl
@[simp] theorem fld_117_0 : fld Try.prog 117 0 = some (0, .sc) := by kernel_rfl
@[simp] theorem fld_117_1 : fld Try.prog 117 1 = some (1, .sc) := by kernel_rfl
@[simp] theorem fld_117_2 : fld Try.prog 117 2 = some (2, .sc) := by kernel_rfl
@[simp] theorem fld_117_3 : fld Try.prog 117 3 = some (3, .sc) := by kernel_rfl
@[simp] theorem isArr_50 : isArr Try.prog 50 = false := by kernel_rfl
@[simp] theorem isArr_75 : isArr Try.prog 75 = false := by kernel_rfl
@[simp] theorem isArr_81 : isArr Try.prog 81 = false := by kernel_rfl
@[simp] theorem lnK_36 : lnK Try.prog 36 = some .sl := by kernel_rfl
@[simp] theorem lnK_48 : lnK Try.prog 48 = some .sl := by kernel_rfl
@[simp] theorem plc_50 : plc Try.prog 50 = some [(0, 1), (1, 1), (2, 1)] := by kernel_rfl
@[simp] theorem plc_75 : plc Try.prog 75 = some [(0, 1), (1, 1), (2, 1), (3, 1)] := by kernel_rfl
@[simp] theorem plc_81 : plc Try.prog 81 = some [(0, 1), (1, 1), (2, 1), (3, 1)] := by kernel_rfl
@[simp] theorem srcTy_48 : srcTy Try.prog 48 = true := by kernel_rfl
@[simp] theorem tsh_3 : tsh Try.prog 3 = some .sc := by kernel_rfl
@[simp] theorem tsh_36 : tsh Try.prog 36 = some .sc := by kernel_rfl
@[simp] theorem tsh_38 : tsh Try.prog 38 = some (.ag 3) := by kernel_rfl
@[simp] theorem tsh_48 : tsh Try.prog 48 = some .sc := by kernel_rfl
@[simp] theorem tsh_50 : tsh Try.prog 50 = some (.ag 3) := by kernel_rfl
@[simp] theorem tsh_75 : tsh Try.prog 75 = some (.ag 4) := by kernel_rfl
@[simp] theorem tsh_81 : tsh Try.prog 81 = some (.ag 4) := by kernel_rfl
@[simp] theorem tsh_117 : tsh Try.prog 117 = some (.ag 4) := by kernel_rfl
@[simp] theorem zer_3 : zer Try.prog 3 = some (AV.int .i64 0) := by kernel_rfl
@[simp] theorem zer_50 : zer Try.prog 50 = some (AV.agg [AV.int .i64 0, AV.int .i64 0, AV.nilsl]) := by kernel_rfl
@[simp] theorem zer_75 : zer Try.prog 75 = some (AV.agg [AV.int .i64 0, AV.int .i64 0, AV.int .i64 0, AV.int .i64 0]) := by kernel_rfl
@[simp] theorem zer_81 : zer Try.prog 81 = some (AV.agg [AV.int .i64 0, AV.int .i64 0, AV.int .i64 0, AV.int .i64 0]) := by kernel_rfl
@[simp] theorem zer_117 : zer Try.prog 117 = some (AV.agg [AV.int .i64 0, AV.int .i64 0, AV.int .i64 0, AV.int .i64 0]) := by kernel_rfl
def E0 : FuncId → Md := fun f => (lkp [(31, { keep := true, lend := true }), (62, { keep := true, lend := true }), (64, { own := true }), (103, { keep := true, lend := true }), (104, { own := true }), (113, { keep := true, lend := true }), (141, { keep := true, lend := true }), (143, { own := true }), (172, { keep := true, lend := true })] f).getD {}
@[simp] theorem E0_10 : E0 10 = {} := rfl
@[simp] theorem E0_31 : E0 31 = { keep := true, lend := true } := rfl
@[simp] theorem E0_34 : E0 34 = {} := rfl
@[simp] theorem E0_36 : E0 36 = {} := rfl
@[simp] theorem E0_42 : E0 42 = {} := rfl
@[simp] theorem E0_43 : E0 43 = {} := rfl
@[simp] theorem E0_61 : E0 61 = {} := rfl
@[simp] theorem E0_62 : E0 62 = { keep := true, lend := true } := rfl
@[simp] theorem E0_63 : E0 63 = {} := rfl
@[simp] theorem E0_64 : E0 64 = { own := true } := rfl
@[simp] theorem E0_65 : E0 65 = {} := rfl
@[simp] theorem E0_73 : E0 73 = {} := rfl
@[simp] theorem E0_76 : E0 76 = {} := rfl
@[simp] theorem E0_82 : E0 82 = {} := rfl
@[simp] theorem E0_102 : E0 102 = {} := rfl
@[simp] theorem E0_103 : E0 103 = { keep := true, lend := true } := rfl
@[simp] theorem E0_104 : E0 104 = { own := true } := rfl
@[simp] theorem E0_105 : E0 105 = {} := rfl
@[simp] theorem E0_106 : E0 106 = {} := rfl
@[simp] theorem E0_107 : E0 107 = {} := rfl
@[simp] theorem E0_108 : E0 108 = {} := rfl
@[simp] theorem E0_112 : E0 112 = {} := rfl
@[simp] theorem E0_113 : E0 113 = { keep := true, lend := true } := rfl
@[simp] theorem E0_121 : E0 121 = {} := rfl
@[simp] theorem E0_122 : E0 122 = {} := rfl
@[simp] theorem E0_123 : E0 123 = {} := rfl
@[simp] theorem E0_124 : E0 124 = {} := rfl
@[simp] theorem E0_140 : E0 140 = {} := rfl
@[simp] theorem E0_141 : E0 141 = { keep := true, lend := true } := rfl
@[simp] theorem E0_142 : E0 142 = {} := rfl
@[simp] theorem E0_143 : E0 143 = { own := true } := rfl
@[simp] theorem E0_144 : E0 144 = {} := rfl
@[simp] theorem E0_145 : E0 145 = {} := rfl
@[simp] theorem E0_157 : E0 157 = {} := rfl
@[simp] theorem E0_158 : E0 158 = {} := rfl
@[simp] theorem E0_172 : E0 172 = { keep := true, lend := true } := rfl
@[simp] theorem E0_173 : E0 173 = {} := rfl
@[simp] theorem E0_174 : E0 174 = {} := rfl
@[simp] theorem E0_175 : E0 175 = {} := rfl
@[simp] theorem E0_176 : E0 176 = {} := rfl
@[simp] theorem E0_177 : E0 177 = {} := rfl
@[simp] theorem E0_178 : E0 178 = {} := rfl
@[simp] theorem E0_179 : E0 179 = {} := rfl
@[simp] theorem E0_180 : E0 180 = {} := rfl
@[simp] theorem E0_193 : E0 193 = {} := rfl
@[simp] theorem E0_194 : E0 194 = {} := rfl
@[simp] theorem E0_195 : E0 195 = {} := rfl
@[simp] theorem E0_202 : E0 202 = {} := rfl
@[simp] theorem E0_219 : E0 219 = {} := rfl
@[simp] theorem E0_220 : E0 220 = {} := rfl
structure TBox where
  x0 : Int
  y0 : Int
  x1 : Int
  y1 : Int
@[simp] def eBox (a : TBox) : AV := .agg [AV.int .i64 a.x0, AV.int .i64 a.y0, AV.int .i64 a.x1, AV.int .i64 a.y1]
@[simp] theorem wid_eBox : wid eBox 4 = True := eq_true ⟨by simp⟩
@[simp] theorem eta_TBox (a : TBox) : TBox.mk a.x0 a.y0 a.x1 a.y1 = a := rfl
theorem inj_eBox : Inj eBox := by
  constructor
  rintro ⟨x0, x1, x2, x3⟩ ⟨y0, y1, y2, y3⟩ h
  simp at h
  simp [h]
@[simp] theorem Inj_eBox : Inj eBox = True := eq_true inj_eBox
@[simp] theorem pln_eBox : pln eBox = True := eq_true ⟨fun a => by simp⟩
structure TMask where
  box : TBox
  bits : List Int
@[simp] def eMask (a : TMask) : AV := .agg [AV.int .i64 a.box.x0, AV.int .i64 a.box.y0, AV.int .i64 a.box.x1, AV.int .i64 a.box.y1, AV.fsl (List.map (AV.int .i64) a.bits)]
@[simp] theorem wid_eMask : wid eMask 5 = True := eq_true ⟨by simp⟩
@[simp] theorem eta_TMask (a : TMask) : TMask.mk a.box a.bits = a := rfl
theorem inj_eMask : Inj eMask := by
  constructor
  rintro ⟨⟨x0, x1, x2, x3⟩, x4⟩ ⟨⟨y0, y1, y2, y3⟩, y4⟩ h
  simp at h
  simp [h]
@[simp] theorem Inj_eMask : Inj eMask = True := eq_true inj_eMask
structure TKept where
  id : Int
  mask : TMask
@[simp] def eKept (a : TKept) : AV := .agg [AV.int .i64 a.id, AV.int .i64 a.mask.box.x0, AV.int .i64 a.mask.box.y0, AV.int .i64 a.mask.box.x1, AV.int .i64 a.mask.box.y1, AV.fsl (List.map (AV.int .i64) a.mask.bits)]
@[simp] theorem wid_eKept : wid eKept 6 = True := eq_true ⟨by simp⟩
@[simp] theorem eta_TKept (a : TKept) : TKept.mk a.id a.mask = a := rfl
theorem inj_eKept : Inj eKept := by
  constructor
  rintro ⟨x0, ⟨⟨x1, x2, x3, x4⟩, x5⟩⟩ ⟨y0, ⟨⟨y1, y2, y3, y4⟩, y5⟩⟩ h
  simp at h
  simp [h]
@[simp] theorem Inj_eKept : Inj eKept = True := eq_true inj_eKept
structure TCache where
  most : Int
  list : List TKept
@[simp] def eCache (a : TCache) : AV := .agg [AV.int .i64 a.most, AV.fsl (List.map eKept a.list)]
@[simp] theorem wid_eCache : wid eCache 2 = True := eq_true ⟨by simp⟩
@[simp] theorem eta_TCache (a : TCache) : TCache.mk a.most a.list = a := rfl
theorem inj_eCache : Inj eCache := by
  constructor
  rintro ⟨x0, x1⟩ ⟨y0, y1⟩ h
  simp at h
  simp [h]
@[simp] theorem Inj_eCache : Inj eCache = True := eq_true inj_eCache
structure TColor where
  r : Int
  g : Int
  b : Int
  a : Int
@[simp] def eColor (a : TColor) : AV := .agg [AV.int .i64 a.r, AV.int .i64 a.g, AV.int .i64 a.b, AV.int .i64 a.a]
@[simp] theorem wid_eColor : wid eColor 4 = True := eq_true ⟨by simp⟩
@[simp] theorem eta_TColor (a : TColor) : TColor.mk a.r a.g a.b a.a = a := rfl
theorem inj_eColor : Inj eColor := by
  constructor
  rintro ⟨x0, x1, x2, x3⟩ ⟨y0, y1, y2, y3⟩ h
  simp at h
  simp [h]
@[simp] theorem Inj_eColor : Inj eColor = True := eq_true inj_eColor
@[simp] theorem pln_eColor : pln eColor = True := eq_true ⟨fun a => by simp⟩
structure TSurface where
  w : Int
  h : Int
  pix : List TColor
@[simp] def eSurface (a : TSurface) : AV := .agg [AV.int .i64 a.w, AV.int .i64 a.h, AV.fsl (List.map eColor a.pix)]
@[simp] theorem wid_eSurface : wid eSurface 3 = True := eq_true ⟨by simp⟩
@[simp] theorem eta_TSurface (a : TSurface) : TSurface.mk a.w a.h a.pix = a := rfl
theorem inj_eSurface : Inj eSurface := by
  constructor
  rintro ⟨x0, x1, x2⟩ ⟨y0, y1, y2⟩ h
  simp at h
  simp [h]
@[simp] theorem Inj_eSurface : Inj eSurface = True := eq_true inj_eSurface
structure TL01Cur where
  b : List Int
  i : Int
  h : Int
@[simp] def eL01Cur (a : TL01Cur) : AV := .agg [AV.fsl (List.map (AV.int .u8) a.b), AV.int .i64 a.i, AV.int .i64 a.h]
@[simp] theorem wid_eL01Cur : wid eL01Cur 3 = True := eq_true ⟨by simp⟩
@[simp] theorem eta_TL01Cur (a : TL01Cur) : TL01Cur.mk a.b a.i a.h = a := rfl
theorem inj_eL01Cur : Inj eL01Cur := by
  constructor
  rintro ⟨x0, x1, x2⟩ ⟨y0, y1, y2⟩ h
  simp at h
  simp [h]
@[simp] theorem Inj_eL01Cur : Inj eL01Cur = True := eq_true inj_eL01Cur
end Go.Proofs.Ytoafihhhdnmliaa.Am
