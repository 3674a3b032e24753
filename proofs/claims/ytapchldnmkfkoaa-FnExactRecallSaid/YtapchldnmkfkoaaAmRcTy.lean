import Derived.Test.YtapchldnmkfkoaaAmIn
import Derived.Test.YtapchldnmkfkoaaProg
import Derived.KernelRfl
set_option linter.unusedVariables false
set_option linter.unusedSimpArgs false
set_option linter.unusedSectionVars false
namespace Go.Proofs.Ytapchldnmkfkoaa.Am
open Go Go.Proofs
set_option maxRecDepth 100000
set_option linter.unusedSimpArgs false
@[simp] theorem art_33 : art Try.prog 33 = none := by kernel_rfl
@[simp] theorem art_36 : art Try.prog 36 = none := by kernel_rfl
@[simp] theorem art_38 : art Try.prog 38 = none := by kernel_rfl
@[simp] theorem art_40 : art Try.prog 40 = none := by kernel_rfl
@[simp] theorem art_55 : art Try.prog 55 = none := by kernel_rfl
@[simp] theorem art_57 : art Try.prog 57 = none := by kernel_rfl
@[simp] theorem art_73 : art Try.prog 73 = none := by kernel_rfl
@[simp] theorem deepP_3 : deepP Try.prog 3 = false := by kernel_rfl
@[simp] theorem deepP_73 : deepP Try.prog 73 = true := by kernel_rfl
@[simp] theorem deepP_155 : deepP Try.prog 155 = true := by kernel_rfl
@[simp] theorem elt_33 : elt Try.prog 33 = some (155, (.ag 6), 64) := by kernel_rfl
@[simp] theorem elt_36 : elt Try.prog 36 = some (3, .sc, 8) := by kernel_rfl
@[simp] theorem elt_38 : elt Try.prog 38 = some (73, (.ag 6), 64) := by kernel_rfl
@[simp] theorem eqk_3 : eqk Try.prog 3 = some (false, [.i]) := by kernel_rfl
@[simp] theorem eqk_4 : eqk Try.prog 4 = some (false, [.b]) := by kernel_rfl
@[simp] theorem eqk_55 : eqk Try.prog 55 = some (true, [.i, .i, .i, .i]) := by kernel_rfl
@[simp] theorem fld_35_0 : fld Try.prog 35 0 = some (0, .sc) := by kernel_rfl
@[simp] theorem fld_35_1 : fld Try.prog 35 1 = some (1, .sc) := by kernel_rfl
@[simp] theorem fld_40_0 : fld Try.prog 40 0 = some (0, .sc) := by kernel_rfl
@[simp] theorem fld_40_1 : fld Try.prog 40 1 = some (1, .sc) := by kernel_rfl
@[simp] theorem fld_50_0 : fld Try.prog 50 0 = some (0, .sc) := by kernel_rfl
@[simp] theorem fld_50_1 : fld Try.prog 50 1 = some (1, .sc) := by kernel_rfl
@[simp] theorem fld_50_2 : fld Try.prog 50 2 = some (2, .sc) := by kernel_rfl
@[simp] theorem fld_50_3 : fld Try.prog 50 3 = some (3, .sc) := by kernel_rfl
@[simp] theorem fld_52_0 : fld Try.prog 52 0 = some (0, (.ag 4)) := by kernel_rfl
@[simp] theorem fld_52_1 : fld Try.prog 52 1 = some (4, .sc) := by kernel_rfl
@[simp] theorem fld_55_0 : fld Try.prog 55 0 = some (0, .sc) := by kernel_rfl
@[simp] theorem fld_55_1 : fld Try.prog 55 1 = some (1, .sc) := by kernel_rfl
@[simp] theorem fld_55_2 : fld Try.prog 55 2 = some (2, .sc) := by kernel_rfl
@[simp] theorem fld_55_3 : fld Try.prog 55 3 = some (3, .sc) := by kernel_rfl
@[simp] theorem fld_57_0 : fld Try.prog 57 0 = some (0, (.ag 4)) := by kernel_rfl
@[simp] theorem fld_57_1 : fld Try.prog 57 1 = some (4, .sc) := by kernel_rfl
@[simp] theorem fld_73_0 : fld Try.prog 73 0 = some (0, .sc) := by kernel_rfl
@[simp] theorem fld_73_1 : fld Try.prog 73 1 = some (1, (.ag 5)) := by kernel_rfl
@[simp] theorem fld_155_0 : fld Try.prog 155 0 = some (0, .sc) := by kernel_rfl
@[simp] theorem fld_155_1 : fld Try.prog 155 1 = some (1, (.ag 5)) := by kernel_rfl
@[simp] theorem isArr_40 : isArr Try.prog 40 = false := by kernel_rfl
@[simp] theorem isArr_55 : isArr Try.prog 55 = false := by kernel_rfl
@[simp] theorem isArr_57 : isArr Try.prog 57 = false := by kernel_rfl
@[simp] theorem isArr_73 : isArr Try.prog 73 = false := by kernel_rfl
@[simp] theorem isBld_40 : isBld Try.prog 40 = false := by kernel_rfl
@[simp] theorem isBld_55 : isBld Try.prog 55 = false := by kernel_rfl
@[simp] theorem isBld_57 : isBld Try.prog 57 = false := by kernel_rfl
@[simp] theorem isBld_73 : isBld Try.prog 73 = false := by kernel_rfl
@[simp] theorem isStr_38 : isStr Try.prog 38 = false := by kernel_rfl
@[simp] theorem lnK_33 : lnK Try.prog 33 = some .sl := by kernel_rfl
@[simp] theorem lnK_36 : lnK Try.prog 36 = some .sl := by kernel_rfl
@[simp] theorem lnK_38 : lnK Try.prog 38 = some .sl := by kernel_rfl
@[simp] theorem plc_40 : plc Try.prog 40 = some [(0, 1), (1, 1)] := by kernel_rfl
@[simp] theorem plc_55 : plc Try.prog 55 = some [(0, 1), (1, 1), (2, 1), (3, 1)] := by kernel_rfl
@[simp] theorem plc_57 : plc Try.prog 57 = some [(0, 4), (4, 1)] := by kernel_rfl
@[simp] theorem plc_73 : plc Try.prog 73 = some [(0, 1), (1, 5)] := by kernel_rfl
@[simp] theorem srcTy_3 : srcTy Try.prog 3 = false := by kernel_rfl
@[simp] theorem srcTy_36 : srcTy Try.prog 36 = true := by kernel_rfl
@[simp] theorem srcTy_38 : srcTy Try.prog 38 = true := by kernel_rfl
@[simp] theorem tsh_3 : tsh Try.prog 3 = some .sc := by kernel_rfl
@[simp] theorem tsh_33 : tsh Try.prog 33 = some .sc := by kernel_rfl
@[simp] theorem tsh_35 : tsh Try.prog 35 = some (.ag 2) := by kernel_rfl
@[simp] theorem tsh_36 : tsh Try.prog 36 = some .sc := by kernel_rfl
@[simp] theorem tsh_38 : tsh Try.prog 38 = some .sc := by kernel_rfl
@[simp] theorem tsh_40 : tsh Try.prog 40 = some (.ag 2) := by kernel_rfl
@[simp] theorem tsh_50 : tsh Try.prog 50 = some (.ag 4) := by kernel_rfl
@[simp] theorem tsh_52 : tsh Try.prog 52 = some (.ag 5) := by kernel_rfl
@[simp] theorem tsh_55 : tsh Try.prog 55 = some (.ag 4) := by kernel_rfl
@[simp] theorem tsh_57 : tsh Try.prog 57 = some (.ag 5) := by kernel_rfl
@[simp] theorem tsh_73 : tsh Try.prog 73 = some (.ag 6) := by kernel_rfl
@[simp] theorem tsh_155 : tsh Try.prog 155 = some (.ag 6) := by kernel_rfl
@[simp] theorem zer_3 : zer Try.prog 3 = some (AV.int .i64 0) := by kernel_rfl
@[simp] theorem zer_40 : zer Try.prog 40 = some (AV.agg [AV.int .i64 0, AV.nilsl]) := by kernel_rfl
@[simp] theorem zer_55 : zer Try.prog 55 = some (AV.agg [AV.int .i64 0, AV.int .i64 0, AV.int .i64 0, AV.int .i64 0]) := by kernel_rfl
@[simp] theorem zer_57 : zer Try.prog 57 = some (AV.agg [AV.int .i64 0, AV.int .i64 0, AV.int .i64 0, AV.int .i64 0, AV.nilsl]) := by kernel_rfl
@[simp] theorem zer_73 : zer Try.prog 73 = some (AV.agg [AV.int .i64 0, AV.int .i64 0, AV.int .i64 0, AV.int .i64 0, AV.int .i64 0, AV.nilsl]) := by kernel_rfl
@[simp] theorem zer_155 : zer Try.prog 155 = some (AV.agg [AV.int .i64 0, AV.int .i64 0, AV.int .i64 0, AV.int .i64 0, AV.int .i64 0, AV.nilsl]) := by kernel_rfl
@[simp] theorem zsP_6_3 : zsP Try.prog 6 3 = [0] := by kernel_rfl
@[simp] theorem zsP_6_73 : zsP Try.prog 6 73 = [0, 0, 0, 0, 0, 1] := by kernel_rfl
@[simp] theorem zsP_6_155 : zsP Try.prog 6 155 = [0, 0, 0, 0, 0, 1] := by kernel_rfl
def E0 : FuncId → Md := fun f => (lkp [(16, { keep := true, lend := true }), (17, { keep := true, lend := true }), (21, { own := true }), (22, { own := true }), (26, { keep := true, lend := true }), (29, { own := true }), (30, { keep := true, lend := true }), (31, { keep := true, lend := true }), (60, { keep := true, lend := true }), (61, { keep := true, lend := true }), (62, { keep := true, lend := true }), (67, { own := true }), (73, { keep := true, lend := true }), (77, { own := true }), (78, { keep := true, lend := true }), (80, { keep := true, lend := true }), (117, { keep := true, lend := true }), (123, { own := true, keep := true }), (124, { own := true, keep := true }), (125, { keep := true, lend := true })] f).getD {}
@[simp] theorem E0_6 : E0 6 = {} := rfl
@[simp] theorem E0_14 : E0 14 = {} := rfl
@[simp] theorem E0_16 : E0 16 = { keep := true, lend := true } := rfl
@[simp] theorem E0_17 : E0 17 = { keep := true, lend := true } := rfl
@[simp] theorem E0_19 : E0 19 = {} := rfl
@[simp] theorem E0_20 : E0 20 = {} := rfl
@[simp] theorem E0_21 : E0 21 = { own := true } := rfl
@[simp] theorem E0_22 : E0 22 = { own := true } := rfl
@[simp] theorem E0_23 : E0 23 = {} := rfl
@[simp] theorem E0_24 : E0 24 = {} := rfl
@[simp] theorem E0_26 : E0 26 = { keep := true, lend := true } := rfl
@[simp] theorem E0_28 : E0 28 = {} := rfl
@[simp] theorem E0_29 : E0 29 = { own := true } := rfl
@[simp] theorem E0_30 : E0 30 = { keep := true, lend := true } := rfl
@[simp] theorem E0_31 : E0 31 = { keep := true, lend := true } := rfl
@[simp] theorem E0_32 : E0 32 = {} := rfl
@[simp] theorem E0_37 : E0 37 = {} := rfl
@[simp] theorem E0_59 : E0 59 = {} := rfl
@[simp] theorem E0_60 : E0 60 = { keep := true, lend := true } := rfl
@[simp] theorem E0_61 : E0 61 = { keep := true, lend := true } := rfl
@[simp] theorem E0_62 : E0 62 = { keep := true, lend := true } := rfl
@[simp] theorem E0_66 : E0 66 = {} := rfl
@[simp] theorem E0_67 : E0 67 = { own := true } := rfl
@[simp] theorem E0_68 : E0 68 = {} := rfl
@[simp] theorem E0_69 : E0 69 = {} := rfl
@[simp] theorem E0_70 : E0 70 = {} := rfl
@[simp] theorem E0_71 : E0 71 = {} := rfl
@[simp] theorem E0_72 : E0 72 = {} := rfl
@[simp] theorem E0_73 : E0 73 = { keep := true, lend := true } := rfl
@[simp] theorem E0_74 : E0 74 = {} := rfl
@[simp] theorem E0_75 : E0 75 = {} := rfl
@[simp] theorem E0_76 : E0 76 = {} := rfl
@[simp] theorem E0_77 : E0 77 = { own := true } := rfl
@[simp] theorem E0_78 : E0 78 = { keep := true, lend := true } := rfl
@[simp] theorem E0_79 : E0 79 = {} := rfl
@[simp] theorem E0_80 : E0 80 = { keep := true, lend := true } := rfl
@[simp] theorem E0_81 : E0 81 = {} := rfl
@[simp] theorem E0_82 : E0 82 = {} := rfl
@[simp] theorem E0_116 : E0 116 = {} := rfl
@[simp] theorem E0_117 : E0 117 = { keep := true, lend := true } := rfl
@[simp] theorem E0_118 : E0 118 = {} := rfl
@[simp] theorem E0_120 : E0 120 = {} := rfl
@[simp] theorem E0_121 : E0 121 = {} := rfl
@[simp] theorem E0_122 : E0 122 = {} := rfl
@[simp] theorem E0_123 : E0 123 = { own := true, keep := true } := rfl
@[simp] theorem E0_124 : E0 124 = { own := true, keep := true } := rfl
@[simp] theorem E0_125 : E0 125 = { keep := true, lend := true } := rfl
@[simp] theorem E0_126 : E0 126 = {} := rfl
@[simp] theorem E0_155 : E0 155 = {} := rfl
@[simp] theorem E0_156 : E0 156 = {} := rfl
structure TBox where
  x0 : Int
  y0 : Int
  x1 : Int
  y1 : Int
@[simp] def eBox (a : TBox) : AV := .agg [AV.int .i64 a.x0, AV.int .i64 a.y0, AV.int .i64 a.x1, AV.int .i64 a.y1]
@[simp] theorem wid_eBox : wid eBox 4 = True := eq_true ⟨by simp⟩
@[simp] theorem eta_TBox (a : TBox) : TBox.mk a.x0 a.y0 a.x1 a.y1 = a := rfl
theorem inj_eBox : Inj eBox := by
  constructor
  rintro ⟨x0, x1, x2, x3⟩ ⟨y0, y1, y2, y3⟩ h
  simp at h
  simp [h]
@[simp] theorem Inj_eBox : Inj eBox = True := eq_true inj_eBox
@[simp] theorem nid_eBox : nid eBox = True := eq_true ⟨fun a => by simp⟩
@[simp] theorem pln_eBox : pln eBox = True := eq_true ⟨fun a => by simp⟩
structure TMask where
  box : TBox
  bits : List Int
@[simp] def eMask (a : TMask) : AV := .agg [AV.int .i64 a.box.x0, AV.int .i64 a.box.y0, AV.int .i64 a.box.x1, AV.int .i64 a.box.y1, AV.fsl (List.map (AV.int .i64) a.bits)]
@[simp] theorem wid_eMask : wid eMask 5 = True := eq_true ⟨by simp⟩
@[simp] theorem eta_TMask (a : TMask) : TMask.mk a.box a.bits = a := rfl
theorem inj_eMask : Inj eMask := by
  constructor
  rintro ⟨⟨x0, x1, x2, x3⟩, x4⟩ ⟨⟨y0, y1, y2, y3⟩, y4⟩ h
  simp at h
  simp [h]
@[simp] theorem Inj_eMask : Inj eMask = True := eq_true inj_eMask
@[simp] theorem nid_eMask : nid eMask = True := eq_true ⟨fun a => by simp⟩
structure TKept where
  id : Int
  mask : TMask
@[simp] def eKept (a : TKept) : AV := .agg [AV.int .i64 a.id, AV.int .i64 a.mask.box.x0, AV.int .i64 a.mask.box.y0, AV.int .i64 a.mask.box.x1, AV.int .i64 a.mask.box.y1, AV.fsl (List.map (AV.int .i64) a.mask.bits)]
@[simp] theorem wid_eKept : wid eKept 6 = True := eq_true ⟨by simp⟩
@[simp] theorem eta_TKept (a : TKept) : TKept.mk a.id a.mask = a := rfl
theorem inj_eKept : Inj eKept := by
  constructor
  rintro ⟨x0, ⟨⟨x1, x2, x3, x4⟩, x5⟩⟩ ⟨y0, ⟨⟨y1, y2, y3, y4⟩, y5⟩⟩ h
  simp at h
  simp [h]
@[simp] theorem Inj_eKept : Inj eKept = True := eq_true inj_eKept
@[simp] theorem nid_eKept : nid eKept = True := eq_true ⟨fun a => by simp⟩
structure TCache where
  most : Int
  list : List TKept
@[simp] def eCache (a : TCache) : AV := .agg [AV.int .i64 a.most, AV.fsl (List.map eKept a.list)]
@[simp] theorem wid_eCache : wid eCache 2 = True := eq_true ⟨by simp⟩
@[simp] theorem eta_TCache (a : TCache) : TCache.mk a.most a.list = a := rfl
theorem inj_eCache : Inj eCache := by
  constructor
  rintro ⟨x0, x1⟩ ⟨y0, y1⟩ h
  simp at h
  simp [h]
@[simp] theorem Inj_eCache : Inj eCache = True := eq_true inj_eCache
@[simp] theorem nid_eCache : nid eCache = True := eq_true ⟨fun a => by simp⟩
structure TMaskR where
  box : TBox
  bits : Option Value
@[simp] def eMaskR (a : TMaskR) : AV := .agg [AV.int .i64 a.box.x0, AV.int .i64 a.box.y0, AV.int .i64 a.box.x1, AV.int .i64 a.box.y1, eO a.bits]
@[simp] theorem wid_eMaskR : wid eMaskR 5 = True := eq_true ⟨by simp⟩
@[simp] theorem eta_TMaskR (a : TMaskR) : TMaskR.mk a.box a.bits = a := rfl
theorem inj_eMaskR : Inj eMaskR := by
  constructor
  rintro ⟨⟨x0, x1, x2, x3⟩, x4⟩ ⟨⟨y0, y1, y2, y3⟩, y4⟩ h
  simp at h
  simp [h]
@[simp] theorem Inj_eMaskR : Inj eMaskR = True := eq_true inj_eMaskR
@[simp] theorem nid_eMaskR : nid eMaskR = True := eq_true ⟨fun a => by simp⟩
structure TKeptR where
  id : Int
  mask : TMaskR
@[simp] def eKeptR (a : TKeptR) : AV := .agg [AV.int .i64 a.id, AV.int .i64 a.mask.box.x0, AV.int .i64 a.mask.box.y0, AV.int .i64 a.mask.box.x1, AV.int .i64 a.mask.box.y1, eO a.mask.bits]
@[simp] theorem wid_eKeptR : wid eKeptR 6 = True := eq_true ⟨by simp⟩
@[simp] theorem eta_TKeptR (a : TKeptR) : TKeptR.mk a.id a.mask = a := rfl
theorem inj_eKeptR : Inj eKeptR := by
  constructor
  rintro ⟨x0, ⟨⟨x1, x2, x3, x4⟩, x5⟩⟩ ⟨y0, ⟨⟨y1, y2, y3, y4⟩, y5⟩⟩ h
  simp at h
  simp [h]
@[simp] theorem Inj_eKeptR : Inj eKeptR = True := eq_true inj_eKeptR
@[simp] theorem nid_eKeptR : nid eKeptR = True := eq_true ⟨fun a => by simp⟩
structure TCacheR where
  most : Int
  list : List TKeptR
@[simp] def eCacheR (a : TCacheR) : AV := .agg [AV.int .i64 a.most, AV.fsl (List.map eKeptR a.list)]
@[simp] theorem wid_eCacheR : wid eCacheR 2 = True := eq_true ⟨by simp⟩
@[simp] theorem eta_TCacheR (a : TCacheR) : TCacheR.mk a.most a.list = a := rfl
theorem inj_eCacheR : Inj eCacheR := by
  constructor
  rintro ⟨x0, x1⟩ ⟨y0, y1⟩ h
  simp at h
  simp [h]
@[simp] theorem Inj_eCacheR : Inj eCacheR = True := eq_true inj_eCacheR
@[simp] theorem nid_eCacheR : nid eCacheR = True := eq_true ⟨fun a => by simp⟩
end Go.Proofs.Ytapchldnmkfkoaa.Am
