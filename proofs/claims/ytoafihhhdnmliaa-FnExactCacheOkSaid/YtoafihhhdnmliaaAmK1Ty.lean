import Derived.Test.YtoafihhhdnmliaaAmMe
import Derived.Test.YtoafihhhdnmliaaProg
import Derived.KernelRfl
set_option linter.unusedVariables false
set_option linter.unusedSimpArgs false
set_option linter.unusedSectionVars false
namespace Go.Proofs.Ytoafihhhdnmliaa.Am
open Go Go.Proofs
set_option maxRecDepth 100000
set_option linter.unusedSimpArgs false
@[simp] theorem art_22 : art Try.prog 22 = none := by kernel_rfl
@[simp] theorem art_27 : art Try.prog 27 = none := by kernel_rfl
@[simp] theorem art_40 : art Try.prog 40 = none := by kernel_rfl
@[simp] theorem art_75 : art Try.prog 75 = none := by kernel_rfl
@[simp] theorem elt_22 : elt Try.prog 22 = some (188, (.ag 6), 64) := by kernel_rfl
@[simp] theorem elt_27 : elt Try.prog 27 = some (101, (.ag 6), 64) := by kernel_rfl
@[simp] theorem elt_40 : elt Try.prog 40 = some (3, .sc, 8) := by kernel_rfl
@[simp] theorem eqk_3 : eqk Try.prog 3 = some (false, [.i]) := by kernel_rfl
@[simp] theorem eqk_4 : eqk Try.prog 4 = some (false, [.b]) := by kernel_rfl
@[simp] theorem eqk_75 : eqk Try.prog 75 = some (true, [.i, .i, .i, .i]) := by kernel_rfl
@[simp] theorem fld_24_0 : fld Try.prog 24 0 = some (0, .sc) := by kernel_rfl
@[simp] theorem fld_24_1 : fld Try.prog 24 1 = some (1, .sc) := by kernel_rfl
@[simp] theorem fld_29_0 : fld Try.prog 29 0 = some (0, .sc) := by kernel_rfl
@[simp] theorem fld_29_1 : fld Try.prog 29 1 = some (1, .sc) := by kernel_rfl
@[simp] theorem fld_75_0 : fld Try.prog 75 0 = some (0, .sc) := by kernel_rfl
@[simp] theorem fld_75_1 : fld Try.prog 75 1 = some (1, .sc) := by kernel_rfl
@[simp] theorem fld_75_2 : fld Try.prog 75 2 = some (2, .sc) := by kernel_rfl
@[simp] theorem fld_75_3 : fld Try.prog 75 3 = some (3, .sc) := by kernel_rfl
@[simp] theorem fld_77_0 : fld Try.prog 77 0 = some (0, (.ag 4)) := by kernel_rfl
@[simp] theorem fld_77_1 : fld Try.prog 77 1 = some (4, .sc) := by kernel_rfl
@[simp] theorem fld_101_0 : fld Try.prog 101 0 = some (0, .sc) := by kernel_rfl
@[simp] theorem fld_101_1 : fld Try.prog 101 1 = some (1, (.ag 5)) := by kernel_rfl
@[simp] theorem fld_114_0 : fld Try.prog 114 0 = some (0, .sc) := by kernel_rfl
@[simp] theorem fld_114_1 : fld Try.prog 114 1 = some (1, .sc) := by kernel_rfl
@[simp] theorem fld_114_2 : fld Try.prog 114 2 = some (2, .sc) := by kernel_rfl
@[simp] theorem fld_114_3 : fld Try.prog 114 3 = some (3, .sc) := by kernel_rfl
@[simp] theorem fld_116_0 : fld Try.prog 116 0 = some (0, (.ag 4)) := by kernel_rfl
@[simp] theorem fld_116_1 : fld Try.prog 116 1 = some (4, .sc) := by kernel_rfl
@[simp] theorem fld_188_0 : fld Try.prog 188 0 = some (0, .sc) := by kernel_rfl
@[simp] theorem fld_188_1 : fld Try.prog 188 1 = some (1, (.ag 5)) := by kernel_rfl
@[simp] theorem isArr_75 : isArr Try.prog 75 = false := by kernel_rfl
@[simp] theorem lnK_22 : lnK Try.prog 22 = some .sl := by kernel_rfl
@[simp] theorem lnK_27 : lnK Try.prog 27 = some .sl := by kernel_rfl
@[simp] theorem lnK_40 : lnK Try.prog 40 = some .sl := by kernel_rfl
@[simp] theorem plc_75 : plc Try.prog 75 = some [(0, 1), (1, 1), (2, 1), (3, 1)] := by kernel_rfl
@[simp] theorem tsh_3 : tsh Try.prog 3 = some .sc := by kernel_rfl
@[simp] theorem tsh_22 : tsh Try.prog 22 = some .sc := by kernel_rfl
@[simp] theorem tsh_24 : tsh Try.prog 24 = some (.ag 2) := by kernel_rfl
@[simp] theorem tsh_27 : tsh Try.prog 27 = some .sc := by kernel_rfl
@[simp] theorem tsh_29 : tsh Try.prog 29 = some (.ag 2) := by kernel_rfl
@[simp] theorem tsh_40 : tsh Try.prog 40 = some .sc := by kernel_rfl
@[simp] theorem tsh_75 : tsh Try.prog 75 = some (.ag 4) := by kernel_rfl
@[simp] theorem tsh_77 : tsh Try.prog 77 = some (.ag 5) := by kernel_rfl
@[simp] theorem tsh_101 : tsh Try.prog 101 = some (.ag 6) := by kernel_rfl
@[simp] theorem tsh_114 : tsh Try.prog 114 = some (.ag 4) := by kernel_rfl
@[simp] theorem tsh_116 : tsh Try.prog 116 = some (.ag 5) := by kernel_rfl
@[simp] theorem tsh_188 : tsh Try.prog 188 = some (.ag 6) := by kernel_rfl
@[simp] theorem zer_3 : zer Try.prog 3 = some (AV.int .i64 0) := by kernel_rfl
@[simp] theorem zer_29 : zer Try.prog 29 = some (AV.agg [AV.int .i64 0, AV.nilsl]) := by kernel_rfl
@[simp] theorem zer_75 : zer Try.prog 75 = some (AV.agg [AV.int .i64 0, AV.int .i64 0, AV.int .i64 0, AV.int .i64 0]) := by kernel_rfl
@[simp] theorem zer_77 : zer Try.prog 77 = some (AV.agg [AV.int .i64 0, AV.int .i64 0, AV.int .i64 0, AV.int .i64 0, AV.nilsl]) := by kernel_rfl
@[simp] theorem zer_101 : zer Try.prog 101 = some (AV.agg [AV.int .i64 0, AV.int .i64 0, AV.int .i64 0, AV.int .i64 0, AV.int .i64 0, AV.nilsl]) := by kernel_rfl
@[simp] theorem zer_188 : zer Try.prog 188 = some (AV.agg [AV.int .i64 0, AV.int .i64 0, AV.int .i64 0, AV.int .i64 0, AV.int .i64 0, AV.nilsl]) := by kernel_rfl
def E0 : FuncId → Md := fun f => (lkp [(68, { keep := true }), (86, { keep := true })] f).getD {}
@[simp] theorem E0_3 : E0 3 = {} := rfl
@[simp] theorem E0_12 : E0 12 = {} := rfl
@[simp] theorem E0_13 : E0 13 = {} := rfl
@[simp] theorem E0_14 : E0 14 = {} := rfl
@[simp] theorem E0_15 : E0 15 = {} := rfl
@[simp] theorem E0_16 : E0 16 = {} := rfl
@[simp] theorem E0_56 : E0 56 = {} := rfl
@[simp] theorem E0_66 : E0 66 = {} := rfl
@[simp] theorem E0_68 : E0 68 = { keep := true } := rfl
@[simp] theorem E0_70 : E0 70 = {} := rfl
@[simp] theorem E0_72 : E0 72 = {} := rfl
@[simp] theorem E0_73 : E0 73 = {} := rfl
@[simp] theorem E0_74 : E0 74 = {} := rfl
@[simp] theorem E0_75 : E0 75 = {} := rfl
@[simp] theorem E0_76 : E0 76 = {} := rfl
@[simp] theorem E0_77 : E0 77 = {} := rfl
@[simp] theorem E0_78 : E0 78 = {} := rfl
@[simp] theorem E0_79 : E0 79 = {} := rfl
@[simp] theorem E0_80 : E0 80 = {} := rfl
@[simp] theorem E0_84 : E0 84 = {} := rfl
@[simp] theorem E0_86 : E0 86 = { keep := true } := rfl
@[simp] theorem E0_137 : E0 137 = {} := rfl
@[simp] theorem E0_139 : E0 139 = {} := rfl
@[simp] theorem E0_147 : E0 147 = {} := rfl
@[simp] theorem E0_148 : E0 148 = {} := rfl
@[simp] theorem E0_149 : E0 149 = {} := rfl
@[simp] theorem E0_150 : E0 150 = {} := rfl
@[simp] theorem E0_151 : E0 151 = {} := rfl
@[simp] theorem E0_152 : E0 152 = {} := rfl
@[simp] theorem E0_153 : E0 153 = {} := rfl
@[simp] theorem E0_158 : E0 158 = {} := rfl
structure TBox where
  x0 : Int
  y0 : Int
  x1 : Int
  y1 : Int
@[simp] def eBox (a : TBox) : AV := .agg [AV.int .i64 a.x0, AV.int .i64 a.y0, AV.int .i64 a.x1, AV.int .i64 a.y1]
@[simp] theorem wid_eBox : wid eBox 4 = True := eq_true ⟨by simp⟩
@[simp] theorem eta_TBox (a : TBox) : TBox.mk a.x0 a.y0 a.x1 a.y1 = a := rfl
theorem inj_eBox : Inj eBox := by
  constructor
  rintro ⟨x0, x1, x2, x3⟩ ⟨y0, y1, y2, y3⟩ h
  simp at h
  simp [h]
@[simp] theorem Inj_eBox : Inj eBox = True := eq_true inj_eBox
structure TMask where
  box : TBox
  bits : List Int
@[simp] def eMask (a : TMask) : AV := .agg [AV.int .i64 a.box.x0, AV.int .i64 a.box.y0, AV.int .i64 a.box.x1, AV.int .i64 a.box.y1, AV.fsl (List.map (AV.int .i64) a.bits)]
@[simp] theorem wid_eMask : wid eMask 5 = True := eq_true ⟨by simp⟩
@[simp] theorem eta_TMask (a : TMask) : TMask.mk a.box a.bits = a := rfl
theorem inj_eMask : Inj eMask := by
  constructor
  rintro ⟨⟨x0, x1, x2, x3⟩, x4⟩ ⟨⟨y0, y1, y2, y3⟩, y4⟩ h
  simp at h
  simp [h]
@[simp] theorem Inj_eMask : Inj eMask = True := eq_true inj_eMask
structure TKept where
  id : Int
  mask : TMask
@[simp] def eKept (a : TKept) : AV := .agg [AV.int .i64 a.id, AV.int .i64 a.mask.box.x0, AV.int .i64 a.mask.box.y0, AV.int .i64 a.mask.box.x1, AV.int .i64 a.mask.box.y1, AV.fsl (List.map (AV.int .i64) a.mask.bits)]
@[simp] theorem wid_eKept : wid eKept 6 = True := eq_true ⟨by simp⟩
@[simp] theorem eta_TKept (a : TKept) : TKept.mk a.id a.mask = a := rfl
theorem inj_eKept : Inj eKept := by
  constructor
  rintro ⟨x0, ⟨⟨x1, x2, x3, x4⟩, x5⟩⟩ ⟨y0, ⟨⟨y1, y2, y3, y4⟩, y5⟩⟩ h
  simp at h
  simp [h]
@[simp] theorem Inj_eKept : Inj eKept = True := eq_true inj_eKept
structure TCache where
  most : Int
  list : List TKept
@[simp] def eCache (a : TCache) : AV := .agg [AV.int .i64 a.most, AV.fsl (List.map eKept a.list)]
@[simp] theorem wid_eCache : wid eCache 2 = True := eq_true ⟨by simp⟩
@[simp] theorem eta_TCache (a : TCache) : TCache.mk a.most a.list = a := rfl
theorem inj_eCache : Inj eCache := by
  constructor
  rintro ⟨x0, x1⟩ ⟨y0, y1⟩ h
  simp at h
  simp [h]
@[simp] theorem Inj_eCache : Inj eCache = True := eq_true inj_eCache
end Go.Proofs.Ytoafihhhdnmliaa.Am
