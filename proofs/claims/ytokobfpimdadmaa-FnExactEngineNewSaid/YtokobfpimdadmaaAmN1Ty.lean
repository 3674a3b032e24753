import Derived.Test.YtokobfpimdadmaaAmNm
import Derived.Test.YtokobfpimdadmaaProg
import Derived.KernelRfl
set_option linter.unusedVariables false
set_option linter.unusedSimpArgs false
set_option linter.unusedSectionVars false
namespace Go.Proofs.Ytokobfpimdadmaa.Am
open Go Go.Proofs
set_option maxRecDepth 100000
set_option linter.unusedSimpArgs false
@[simp] theorem art_22 : art Try.prog 22 = none := by kernel_rfl
@[simp] theorem art_25 : art Try.prog 25 = none := by kernel_rfl
@[simp] theorem art_27 : art Try.prog 27 = none := by kernel_rfl
@[simp] theorem art_28 : art Try.prog 28 = none := by kernel_rfl
@[simp] theorem art_29 : art Try.prog 29 = none := by kernel_rfl
@[simp] theorem art_30 : art Try.prog 30 = none := by kernel_rfl
@[simp] theorem art_32 : art Try.prog 32 = none := by kernel_rfl
@[simp] theorem art_34 : art Try.prog 34 = none := by kernel_rfl
@[simp] theorem art_44 : art Try.prog 44 = none := by kernel_rfl
@[simp] theorem elt_22 : elt Try.prog 22 = some (54, (.ag 31), 328) := by kernel_rfl
@[simp] theorem elt_25 : elt Try.prog 25 = some (48, (.ag 4), 32) := by kernel_rfl
@[simp] theorem elt_28 : elt Try.prog 28 = some (93, (.ag 4), 32) := by kernel_rfl
@[simp] theorem elt_29 : elt Try.prog 29 = some (3, .sc, 8) := by kernel_rfl
@[simp] theorem elt_30 : elt Try.prog 30 = some (121, (.ag 6), 64) := by kernel_rfl
@[simp] theorem elt_44 : elt Try.prog 44 = some (50, (.ag 2), 16) := by kernel_rfl
@[simp] theorem eqk_3 : eqk Try.prog 3 = some (false, [.i]) := by kernel_rfl
@[simp] theorem eqk_4 : eqk Try.prog 4 = some (false, [.b]) := by kernel_rfl
@[simp] theorem fld_24_0 : fld Try.prog 24 0 = some (0, .sc) := by kernel_rfl
@[simp] theorem fld_27_0 : fld Try.prog 27 0 = some (0, .sc) := by kernel_rfl
@[simp] theorem fld_27_1 : fld Try.prog 27 1 = some (1, .sc) := by kernel_rfl
@[simp] theorem fld_27_2 : fld Try.prog 27 2 = some (2, .sc) := by kernel_rfl
@[simp] theorem fld_32_0 : fld Try.prog 32 0 = some (0, .sc) := by kernel_rfl
@[simp] theorem fld_32_1 : fld Try.prog 32 1 = some (1, .sc) := by kernel_rfl
@[simp] theorem fld_34_0 : fld Try.prog 34 0 = some (0, (.ag 1)) := by kernel_rfl
@[simp] theorem fld_34_1 : fld Try.prog 34 1 = some (1, (.ag 3)) := by kernel_rfl
@[simp] theorem fld_34_2 : fld Try.prog 34 2 = some (4, .sc) := by kernel_rfl
@[simp] theorem fld_34_3 : fld Try.prog 34 3 = some (5, .sc) := by kernel_rfl
@[simp] theorem fld_34_4 : fld Try.prog 34 4 = some (6, (.ag 2)) := by kernel_rfl
@[simp] theorem fld_34_5 : fld Try.prog 34 5 = some (8, .sc) := by kernel_rfl
@[simp] theorem fld_43_0 : fld Try.prog 43 0 = some (0, .sc) := by kernel_rfl
@[simp] theorem fld_43_1 : fld Try.prog 43 1 = some (1, .sc) := by kernel_rfl
@[simp] theorem fld_43_2 : fld Try.prog 43 2 = some (2, .sc) := by kernel_rfl
@[simp] theorem fld_43_3 : fld Try.prog 43 3 = some (3, .sc) := by kernel_rfl
@[simp] theorem fld_43_4 : fld Try.prog 43 4 = some (4, .sc) := by kernel_rfl
@[simp] theorem fld_43_5 : fld Try.prog 43 5 = some (5, .sc) := by kernel_rfl
@[simp] theorem fld_46_0 : fld Try.prog 46 0 = some (0, .sc) := by kernel_rfl
@[simp] theorem fld_46_1 : fld Try.prog 46 1 = some (1, .sc) := by kernel_rfl
@[simp] theorem fld_48_0 : fld Try.prog 48 0 = some (0, .sc) := by kernel_rfl
@[simp] theorem fld_48_1 : fld Try.prog 48 1 = some (1, .sc) := by kernel_rfl
@[simp] theorem fld_48_2 : fld Try.prog 48 2 = some (2, .sc) := by kernel_rfl
@[simp] theorem fld_48_3 : fld Try.prog 48 3 = some (3, .sc) := by kernel_rfl
@[simp] theorem fld_50_0 : fld Try.prog 50 0 = some (0, .sc) := by kernel_rfl
@[simp] theorem fld_50_1 : fld Try.prog 50 1 = some (1, .sc) := by kernel_rfl
@[simp] theorem fld_52_0 : fld Try.prog 52 0 = some (0, .sc) := by kernel_rfl
@[simp] theorem fld_52_1 : fld Try.prog 52 1 = some (1, (.ag 4)) := by kernel_rfl
@[simp] theorem fld_52_2 : fld Try.prog 52 2 = some (5, (.ag 4)) := by kernel_rfl
@[simp] theorem fld_52_3 : fld Try.prog 52 3 = some (9, (.ag 2)) := by kernel_rfl
@[simp] theorem fld_52_4 : fld Try.prog 52 4 = some (11, (.ag 2)) := by kernel_rfl
@[simp] theorem fld_54_0 : fld Try.prog 54 0 = some (0, .sc) := by kernel_rfl
@[simp] theorem fld_54_1 : fld Try.prog 54 1 = some (1, .sc) := by kernel_rfl
@[simp] theorem fld_54_2 : fld Try.prog 54 2 = some (2, .sc) := by kernel_rfl
@[simp] theorem fld_54_3 : fld Try.prog 54 3 = some (3, (.ag 6)) := by kernel_rfl
@[simp] theorem fld_54_4 : fld Try.prog 54 4 = some (9, (.ag 2)) := by kernel_rfl
@[simp] theorem fld_54_5 : fld Try.prog 54 5 = some (11, .sc) := by kernel_rfl
@[simp] theorem fld_54_6 : fld Try.prog 54 6 = some (12, .sc) := by kernel_rfl
@[simp] theorem fld_54_7 : fld Try.prog 54 7 = some (13, .sc) := by kernel_rfl
@[simp] theorem fld_54_8 : fld Try.prog 54 8 = some (14, (.ag 13)) := by kernel_rfl
@[simp] theorem fld_54_9 : fld Try.prog 54 9 = some (27, .sc) := by kernel_rfl
@[simp] theorem fld_54_10 : fld Try.prog 54 10 = some (28, .sc) := by kernel_rfl
@[simp] theorem fld_54_11 : fld Try.prog 54 11 = some (29, (.ag 2)) := by kernel_rfl
@[simp] theorem fld_93_0 : fld Try.prog 93 0 = some (0, .sc) := by kernel_rfl
@[simp] theorem fld_93_1 : fld Try.prog 93 1 = some (1, .sc) := by kernel_rfl
@[simp] theorem fld_93_2 : fld Try.prog 93 2 = some (2, .sc) := by kernel_rfl
@[simp] theorem fld_93_3 : fld Try.prog 93 3 = some (3, .sc) := by kernel_rfl
@[simp] theorem fld_119_0 : fld Try.prog 119 0 = some (0, (.ag 4)) := by kernel_rfl
@[simp] theorem fld_119_1 : fld Try.prog 119 1 = some (4, .sc) := by kernel_rfl
@[simp] theorem fld_121_0 : fld Try.prog 121 0 = some (0, .sc) := by kernel_rfl
@[simp] theorem fld_121_1 : fld Try.prog 121 1 = some (1, (.ag 5)) := by kernel_rfl
@[simp] theorem isArr_27 : isArr Try.prog 27 = false := by kernel_rfl
@[simp] theorem isArr_32 : isArr Try.prog 32 = false := by kernel_rfl
@[simp] theorem isArr_34 : isArr Try.prog 34 = false := by kernel_rfl
@[simp] theorem lnK_22 : lnK Try.prog 22 = some .sl := by kernel_rfl
@[simp] theorem lnK_25 : lnK Try.prog 25 = some .sl := by kernel_rfl
@[simp] theorem lnK_28 : lnK Try.prog 28 = some .sl := by kernel_rfl
@[simp] theorem lnK_29 : lnK Try.prog 29 = some .sl := by kernel_rfl
@[simp] theorem lnK_30 : lnK Try.prog 30 = some .sl := by kernel_rfl
@[simp] theorem lnK_44 : lnK Try.prog 44 = some .sl := by kernel_rfl
@[simp] theorem plc_27 : plc Try.prog 27 = some [(0, 1), (1, 1), (2, 1)] := by kernel_rfl
@[simp] theorem plc_32 : plc Try.prog 32 = some [(0, 1), (1, 1)] := by kernel_rfl
@[simp] theorem plc_34 : plc Try.prog 34 = some [(0, 1), (1, 3), (4, 1), (5, 1), (6, 2), (8, 1)] := by kernel_rfl
@[simp] theorem tsh_3 : tsh Try.prog 3 = some .sc := by kernel_rfl
@[simp] theorem tsh_4 : tsh Try.prog 4 = some .sc := by kernel_rfl
@[simp] theorem tsh_22 : tsh Try.prog 22 = some .sc := by kernel_rfl
@[simp] theorem tsh_24 : tsh Try.prog 24 = some (.ag 1) := by kernel_rfl
@[simp] theorem tsh_25 : tsh Try.prog 25 = some .sc := by kernel_rfl
@[simp] theorem tsh_27 : tsh Try.prog 27 = some (.ag 3) := by kernel_rfl
@[simp] theorem tsh_28 : tsh Try.prog 28 = some .sc := by kernel_rfl
@[simp] theorem tsh_29 : tsh Try.prog 29 = some .sc := by kernel_rfl
@[simp] theorem tsh_30 : tsh Try.prog 30 = some .sc := by kernel_rfl
@[simp] theorem tsh_32 : tsh Try.prog 32 = some (.ag 2) := by kernel_rfl
@[simp] theorem tsh_34 : tsh Try.prog 34 = some (.ag 9) := by kernel_rfl
@[simp] theorem tsh_43 : tsh Try.prog 43 = some (.ag 6) := by kernel_rfl
@[simp] theorem tsh_44 : tsh Try.prog 44 = some .sc := by kernel_rfl
@[simp] theorem tsh_46 : tsh Try.prog 46 = some (.ag 2) := by kernel_rfl
@[simp] theorem tsh_48 : tsh Try.prog 48 = some (.ag 4) := by kernel_rfl
@[simp] theorem tsh_50 : tsh Try.prog 50 = some (.ag 2) := by kernel_rfl
@[simp] theorem tsh_52 : tsh Try.prog 52 = some (.ag 13) := by kernel_rfl
@[simp] theorem tsh_54 : tsh Try.prog 54 = some (.ag 31) := by kernel_rfl
@[simp] theorem tsh_93 : tsh Try.prog 93 = some (.ag 4) := by kernel_rfl
@[simp] theorem tsh_119 : tsh Try.prog 119 = some (.ag 5) := by kernel_rfl
@[simp] theorem tsh_121 : tsh Try.prog 121 = some (.ag 6) := by kernel_rfl
@[simp] theorem zer_3 : zer Try.prog 3 = some (AV.int .i64 0) := by kernel_rfl
@[simp] theorem zer_27 : zer Try.prog 27 = some (AV.agg [AV.int .i64 0, AV.int .i64 0, AV.nilsl]) := by kernel_rfl
@[simp] theorem zer_32 : zer Try.prog 32 = some (AV.agg [AV.int .i64 0, AV.nilsl]) := by kernel_rfl
@[simp] theorem zer_34 : zer Try.prog 34 = some (AV.agg [AV.nilsl, AV.int .i64 0, AV.int .i64 0, AV.nilsl, AV.nilsl, AV.nilsl, AV.int .i64 0, AV.nilsl, AV.int .i64 0]) := by kernel_rfl
@[simp] theorem zer_48 : zer Try.prog 48 = some (AV.agg [AV.int .i64 0, AV.int .i64 0, AV.int .i64 0, AV.int .i64 0]) := by kernel_rfl
@[simp] theorem zer_50 : zer Try.prog 50 = some (AV.agg [AV.int .i64 0, AV.int .i64 0]) := by kernel_rfl
@[simp] theorem zer_54 : zer Try.prog 54 = some (AV.agg [AV.int .i64 0, AV.int .i64 0, AV.bool false, AV.int .i64 0, AV.int .i64 0, AV.int .i64 0, AV.int .i64 0, AV.int .i64 0, AV.int .i64 0, AV.nilsl, AV.nilsl, AV.bool false, AV.int .i64 0, AV.nilsl, AV.int .i64 0, AV.int .i64 0, AV.int .i64 0, AV.int .i64 0, AV.int .i64 0, AV.int .i64 0, AV.int .i64 0, AV.int .i64 0, AV.int .i64 0, AV.int .i64 0, AV.int .i64 0, AV.int .i64 0, AV.int .i64 0, AV.int .i64 0, AV.int .i64 0, AV.nilsl, AV.nilsl]) := by kernel_rfl
@[simp] theorem zer_93 : zer Try.prog 93 = some (AV.agg [AV.int .i64 0, AV.int .i64 0, AV.int .i64 0, AV.int .i64 0]) := by kernel_rfl
@[simp] theorem zer_121 : zer Try.prog 121 = some (AV.agg [AV.int .i64 0, AV.int .i64 0, AV.int .i64 0, AV.int .i64 0, AV.int .i64 0, AV.nilsl]) := by kernel_rfl
def E0 : FuncId → Md := fun f => (lkp [(6, { keep := true }), (8, { own := true }), (20, { keep := true, lend := true }), (27, { own := true }), (28, { own := true }), (29, { own := true }), (30, { own := true }), (31, { own := true }), (65, { own := true }), (66, { own := true }), (67, { own := true })] f).getD {}
@[simp] theorem E0_3 : E0 3 = {} := rfl
@[simp] theorem E0_5 : E0 5 = {} := rfl
@[simp] theorem E0_6 : E0 6 = { keep := true } := rfl
@[simp] theorem E0_7 : E0 7 = {} := rfl
@[simp] theorem E0_8 : E0 8 = { own := true } := rfl
@[simp] theorem E0_9 : E0 9 = {} := rfl
@[simp] theorem E0_18 : E0 18 = {} := rfl
@[simp] theorem E0_19 : E0 19 = {} := rfl
@[simp] theorem E0_20 : E0 20 = { keep := true, lend := true } := rfl
@[simp] theorem E0_21 : E0 21 = {} := rfl
@[simp] theorem E0_22 : E0 22 = {} := rfl
@[simp] theorem E0_23 : E0 23 = {} := rfl
@[simp] theorem E0_24 : E0 24 = {} := rfl
@[simp] theorem E0_25 : E0 25 = {} := rfl
@[simp] theorem E0_26 : E0 26 = {} := rfl
@[simp] theorem E0_27 : E0 27 = { own := true } := rfl
@[simp] theorem E0_28 : E0 28 = { own := true } := rfl
@[simp] theorem E0_29 : E0 29 = { own := true } := rfl
@[simp] theorem E0_30 : E0 30 = { own := true } := rfl
@[simp] theorem E0_31 : E0 31 = { own := true } := rfl
@[simp] theorem E0_32 : E0 32 = {} := rfl
@[simp] theorem E0_33 : E0 33 = {} := rfl
@[simp] theorem E0_34 : E0 34 = {} := rfl
@[simp] theorem E0_35 : E0 35 = {} := rfl
@[simp] theorem E0_36 : E0 36 = {} := rfl
@[simp] theorem E0_56 : E0 56 = {} := rfl
@[simp] theorem E0_58 : E0 58 = {} := rfl
@[simp] theorem E0_59 : E0 59 = {} := rfl
@[simp] theorem E0_60 : E0 60 = {} := rfl
@[simp] theorem E0_61 : E0 61 = {} := rfl
@[simp] theorem E0_62 : E0 62 = {} := rfl
@[simp] theorem E0_63 : E0 63 = {} := rfl
@[simp] theorem E0_64 : E0 64 = {} := rfl
@[simp] theorem E0_65 : E0 65 = { own := true } := rfl
@[simp] theorem E0_66 : E0 66 = { own := true } := rfl
@[simp] theorem E0_67 : E0 67 = { own := true } := rfl
@[simp] theorem E0_68 : E0 68 = {} := rfl
@[simp] theorem E0_69 : E0 69 = {} := rfl
@[simp] theorem E0_70 : E0 70 = {} := rfl
@[simp] theorem E0_100 : E0 100 = {} := rfl
@[simp] theorem E0_101 : E0 101 = {} := rfl
@[simp] theorem E0_102 : E0 102 = {} := rfl
@[simp] theorem E0_104 : E0 104 = {} := rfl
@[simp] theorem E0_119 : E0 119 = {} := rfl
@[simp] theorem E0_120 : E0 120 = {} := rfl
@[simp] theorem E0_121 : E0 121 = {} := rfl
@[simp] theorem E0_122 : E0 122 = {} := rfl
@[simp] theorem E0_124 : E0 124 = {} := rfl
@[simp] theorem E0_125 : E0 125 = {} := rfl
structure TMat where
  a : Int
  b : Int
  c : Int
  d : Int
  e : Int
  f : Int
@[simp] def eMat (a : TMat) : AV := .agg [AV.int .i64 a.a, AV.int .i64 a.b, AV.int .i64 a.c, AV.int .i64 a.d, AV.int .i64 a.e, AV.int .i64 a.f]
@[simp] theorem wid_eMat : wid eMat 6 = True := eq_true ⟨by simp⟩
@[simp] theorem eta_TMat (a : TMat) : TMat.mk a.a a.b a.c a.d a.e a.f = a := rfl
theorem inj_eMat : Inj eMat := by
  constructor
  rintro ⟨x0, x1, x2, x3, x4, x5⟩ ⟨y0, y1, y2, y3, y4, y5⟩ h
  simp at h
  simp [h]
@[simp] theorem Inj_eMat : Inj eMat = True := eq_true inj_eMat
@[simp] theorem pln_eMat : pln eMat = True := eq_true ⟨fun a => by simp⟩
structure TPoint where
  x : Int
  y : Int
@[simp] def ePoint (a : TPoint) : AV := .agg [AV.int .i64 a.x, AV.int .i64 a.y]
@[simp] theorem wid_ePoint : wid ePoint 2 = True := eq_true ⟨by simp⟩
@[simp] theorem eta_TPoint (a : TPoint) : TPoint.mk a.x a.y = a := rfl
theorem inj_ePoint : Inj ePoint := by
  constructor
  rintro ⟨x0, x1⟩ ⟨y0, y1⟩ h
  simp at h
  simp [h]
@[simp] theorem Inj_ePoint : Inj ePoint = True := eq_true inj_ePoint
@[simp] theorem pln_ePoint : pln ePoint = True := eq_true ⟨fun a => by simp⟩
structure TPath where
  verbs : List Int
  points : List TPoint
@[simp] def ePath (a : TPath) : AV := .agg [AV.fsl (List.map (AV.int .i64) a.verbs), AV.fsl (List.map ePoint a.points)]
@[simp] theorem wid_ePath : wid ePath 2 = True := eq_true ⟨by simp⟩
@[simp] theorem eta_TPath (a : TPath) : TPath.mk a.verbs a.points = a := rfl
theorem inj_ePath : Inj ePath := by
  constructor
  rintro ⟨x0, x1⟩ ⟨y0, y1⟩ h
  simp at h
  simp [h]
@[simp] theorem Inj_ePath : Inj ePath = True := eq_true inj_ePath
structure TColor where
  r : Int
  g : Int
  b : Int
  a : Int
@[simp] def eColor (a : TColor) : AV := .agg [AV.int .i64 a.r, AV.int .i64 a.g, AV.int .i64 a.b, AV.int .i64 a.a]
@[simp] theorem wid_eColor : wid eColor 4 = True := eq_true ⟨by simp⟩
@[simp] theorem eta_TColor (a : TColor) : TColor.mk a.r a.g a.b a.a = a := rfl
theorem inj_eColor : Inj eColor := by
  constructor
  rintro ⟨x0, x1, x2, x3⟩ ⟨y0, y1, y2, y3⟩ h
  simp at h
  simp [h]
@[simp] theorem Inj_eColor : Inj eColor = True := eq_true inj_eColor
@[simp] theorem pln_eColor : pln eColor = True := eq_true ⟨fun a => by simp⟩
structure TPaint where
  kind : Int
  first : TColor
  last : TColor
  from_ : TPoint
  to : TPoint
@[simp] def ePaint (a : TPaint) : AV := .agg [AV.int .i64 a.kind, AV.int .i64 a.first.r, AV.int .i64 a.first.g, AV.int .i64 a.first.b, AV.int .i64 a.first.a, AV.int .i64 a.last.r, AV.int .i64 a.last.g, AV.int .i64 a.last.b, AV.int .i64 a.last.a, AV.int .i64 a.from_.x, AV.int .i64 a.from_.y, AV.int .i64 a.to.x, AV.int .i64 a.to.y]
@[simp] theorem wid_ePaint : wid ePaint 13 = True := eq_true ⟨by simp⟩
@[simp] theorem eta_TPaint (a : TPaint) : TPaint.mk a.kind a.first a.last a.from_ a.to = a := rfl
theorem inj_ePaint : Inj ePaint := by
  constructor
  rintro ⟨x0, ⟨x1, x2, x3, x4⟩, ⟨x5, x6, x7, x8⟩, ⟨x9, x10⟩, ⟨x11, x12⟩⟩ ⟨y0, ⟨y1, y2, y3, y4⟩, ⟨y5, y6, y7, y8⟩, ⟨y9, y10⟩, ⟨y11, y12⟩⟩ h
  simp at h
  simp [h]
@[simp] theorem Inj_ePaint : Inj ePaint = True := eq_true inj_ePaint
@[simp] theorem pln_ePaint : pln ePaint = True := eq_true ⟨fun a => by simp⟩
structure TNode where
  id : Int
  parent : Int
  group : Bool
  mat : TMat
  path : TPath
  even : Bool
  width : Int
  dashes : List Int
  paint : TPaint
  mode : Int
  fade : Int
  clip : TPath
@[simp] def eNode (a : TNode) : AV := .agg [AV.int .i64 a.id, AV.int .i64 a.parent, AV.bool a.group, AV.int .i64 a.mat.a, AV.int .i64 a.mat.b, AV.int .i64 a.mat.c, AV.int .i64 a.mat.d, AV.int .i64 a.mat.e, AV.int .i64 a.mat.f, AV.fsl (List.map (AV.int .i64) a.path.verbs), AV.fsl (List.map ePoint a.path.points), AV.bool a.even, AV.int .i64 a.width, AV.fsl (List.map (AV.int .i64) a.dashes), AV.int .i64 a.paint.kind, AV.int .i64 a.paint.first.r, AV.int .i64 a.paint.first.g, AV.int .i64 a.paint.first.b, AV.int .i64 a.paint.first.a, AV.int .i64 a.paint.last.r, AV.int .i64 a.paint.last.g, AV.int .i64 a.paint.last.b, AV.int .i64 a.paint.last.a, AV.int .i64 a.paint.from_.x, AV.int .i64 a.paint.from_.y, AV.int .i64 a.paint.to.x, AV.int .i64 a.paint.to.y, AV.int .i64 a.mode, AV.int .i64 a.fade, AV.fsl (List.map (AV.int .i64) a.clip.verbs), AV.fsl (List.map ePoint a.clip.points)]
@[simp] theorem wid_eNode : wid eNode 31 = True := eq_true ⟨by simp⟩
@[simp] theorem eta_TNode (a : TNode) : TNode.mk a.id a.parent a.group a.mat a.path a.even a.width a.dashes a.paint a.mode a.fade a.clip = a := rfl
theorem inj_eNode : Inj eNode := by
  constructor
  rintro ⟨x0, x1, x2, ⟨x3, x4, x5, x6, x7, x8⟩, ⟨x9, x10⟩, x11, x12, x13, ⟨x14, ⟨x15, x16, x17, x18⟩, ⟨x19, x20, x21, x22⟩, ⟨x23, x24⟩, ⟨x25, x26⟩⟩, x27, x28, ⟨x29, x30⟩⟩ ⟨y0, y1, y2, ⟨y3, y4, y5, y6, y7, y8⟩, ⟨y9, y10⟩, y11, y12, y13, ⟨y14, ⟨y15, y16, y17, y18⟩, ⟨y19, y20, y21, y22⟩, ⟨y23, y24⟩, ⟨y25, y26⟩⟩, y27, y28, ⟨y29, y30⟩⟩ h
  simp at h
  simp [h]
@[simp] theorem Inj_eNode : Inj eNode = True := eq_true inj_eNode
structure TScene where
  nodes : List TNode
@[simp] def eScene (a : TScene) : AV := .agg [AV.fsl (List.map eNode a.nodes)]
@[simp] theorem wid_eScene : wid eScene 1 = True := eq_true ⟨by simp⟩
@[simp] theorem eta_TScene (a : TScene) : TScene.mk a.nodes = a := rfl
theorem inj_eScene : Inj eScene := by
  constructor
  rintro ⟨x0⟩ ⟨y0⟩ h
  simp at h
  simp [h]
@[simp] theorem Inj_eScene : Inj eScene = True := eq_true inj_eScene
structure TSurface where
  w : Int
  h : Int
  pix : List TColor
@[simp] def eSurface (a : TSurface) : AV := .agg [AV.int .i64 a.w, AV.int .i64 a.h, AV.fsl (List.map eColor a.pix)]
@[simp] theorem wid_eSurface : wid eSurface 3 = True := eq_true ⟨by simp⟩
@[simp] theorem eta_TSurface (a : TSurface) : TSurface.mk a.w a.h a.pix = a := rfl
theorem inj_eSurface : Inj eSurface := by
  constructor
  rintro ⟨x0, x1, x2⟩ ⟨y0, y1, y2⟩ h
  simp at h
  simp [h]
@[simp] theorem Inj_eSurface : Inj eSurface = True := eq_true inj_eSurface
structure TBox where
  x0 : Int
  y0 : Int
  x1 : Int
  y1 : Int
@[simp] def eBox (a : TBox) : AV := .agg [AV.int .i64 a.x0, AV.int .i64 a.y0, AV.int .i64 a.x1, AV.int .i64 a.y1]
@[simp] theorem wid_eBox : wid eBox 4 = True := eq_true ⟨by simp⟩
@[simp] theorem eta_TBox (a : TBox) : TBox.mk a.x0 a.y0 a.x1 a.y1 = a := rfl
theorem inj_eBox : Inj eBox := by
  constructor
  rintro ⟨x0, x1, x2, x3⟩ ⟨y0, y1, y2, y3⟩ h
  simp at h
  simp [h]
@[simp] theorem Inj_eBox : Inj eBox = True := eq_true inj_eBox
@[simp] theorem pln_eBox : pln eBox = True := eq_true ⟨fun a => by simp⟩
structure TMask where
  box : TBox
  bits : List Int
@[simp] def eMask (a : TMask) : AV := .agg [AV.int .i64 a.box.x0, AV.int .i64 a.box.y0, AV.int .i64 a.box.x1, AV.int .i64 a.box.y1, AV.fsl (List.map (AV.int .i64) a.bits)]
@[simp] theorem wid_eMask : wid eMask 5 = True := eq_true ⟨by simp⟩
@[simp] theorem eta_TMask (a : TMask) : TMask.mk a.box a.bits = a := rfl
theorem inj_eMask : Inj eMask := by
  constructor
  rintro ⟨⟨x0, x1, x2, x3⟩, x4⟩ ⟨⟨y0, y1, y2, y3⟩, y4⟩ h
  simp at h
  simp [h]
@[simp] theorem Inj_eMask : Inj eMask = True := eq_true inj_eMask
structure TKept where
  id : Int
  mask : TMask
@[simp] def eKept (a : TKept) : AV := .agg [AV.int .i64 a.id, AV.int .i64 a.mask.box.x0, AV.int .i64 a.mask.box.y0, AV.int .i64 a.mask.box.x1, AV.int .i64 a.mask.box.y1, AV.fsl (List.map (AV.int .i64) a.mask.bits)]
@[simp] theorem wid_eKept : wid eKept 6 = True := eq_true ⟨by simp⟩
@[simp] theorem eta_TKept (a : TKept) : TKept.mk a.id a.mask = a := rfl
theorem inj_eKept : Inj eKept := by
  constructor
  rintro ⟨x0, ⟨⟨x1, x2, x3, x4⟩, x5⟩⟩ ⟨y0, ⟨⟨y1, y2, y3, y4⟩, y5⟩⟩ h
  simp at h
  simp [h]
@[simp] theorem Inj_eKept : Inj eKept = True := eq_true inj_eKept
structure TCache where
  most : Int
  list : List TKept
@[simp] def eCache (a : TCache) : AV := .agg [AV.int .i64 a.most, AV.fsl (List.map eKept a.list)]
@[simp] theorem wid_eCache : wid eCache 2 = True := eq_true ⟨by simp⟩
@[simp] theorem eta_TCache (a : TCache) : TCache.mk a.most a.list = a := rfl
theorem inj_eCache : Inj eCache := by
  constructor
  rintro ⟨x0, x1⟩ ⟨y0, y1⟩ h
  simp at h
  simp [h]
@[simp] theorem Inj_eCache : Inj eCache = True := eq_true inj_eCache
structure TEngine where
  scene : TScene
  frame : TSurface
  dirty : List TBox
  stamps : List Int
  cache : TCache
  painted : Int
@[simp] def eEngine (a : TEngine) : AV := .agg [AV.fsl (List.map eNode a.scene.nodes), AV.int .i64 a.frame.w, AV.int .i64 a.frame.h, AV.fsl (List.map eColor a.frame.pix), AV.fsl (List.map eBox a.dirty), AV.fsl (List.map (AV.int .i64) a.stamps), AV.int .i64 a.cache.most, AV.fsl (List.map eKept a.cache.list), AV.int .i64 a.painted]
@[simp] theorem wid_eEngine : wid eEngine 9 = True := eq_true ⟨by simp⟩
@[simp] theorem eta_TEngine (a : TEngine) : TEngine.mk a.scene a.frame a.dirty a.stamps a.cache a.painted = a := rfl
theorem inj_eEngine : Inj eEngine := by
  constructor
  rintro ⟨⟨x0⟩, ⟨x1, x2, x3⟩, x4, x5, ⟨x6, x7⟩, x8⟩ ⟨⟨y0⟩, ⟨y1, y2, y3⟩, y4, y5, ⟨y6, y7⟩, y8⟩ h
  simp at h
  simp [h]
@[simp] theorem Inj_eEngine : Inj eEngine = True := eq_true inj_eEngine
structure TL01Cur where
  b : List Int
  i : Int
  h : Int
@[simp] def eL01Cur (a : TL01Cur) : AV := .agg [AV.fsl (List.map (AV.int .u8) a.b), AV.int .i64 a.i, AV.int .i64 a.h]
@[simp] theorem wid_eL01Cur : wid eL01Cur 3 = True := eq_true ⟨by simp⟩
@[simp] theorem eta_TL01Cur (a : TL01Cur) : TL01Cur.mk a.b a.i a.h = a := rfl
theorem inj_eL01Cur : Inj eL01Cur := by
  constructor
  rintro ⟨x0, x1, x2⟩ ⟨y0, y1, y2⟩ h
  simp at h
  simp [h]
@[simp] theorem Inj_eL01Cur : Inj eL01Cur = True := eq_true inj_eL01Cur
end Go.Proofs.Ytokobfpimdadmaa.Am
