import Derived.Test.YtoafihhhdnmliaaAmNm
import Derived.Test.YtoafihhhdnmliaaProg
import Derived.KernelRfl
set_option linter.unusedVariables false
set_option linter.unusedSimpArgs false
set_option linter.unusedSectionVars false
namespace Go.Proofs.Ytoafihhhdnmliaa.Am
open Go Go.Proofs
set_option maxRecDepth 100000
set_option linter.unusedSimpArgs false
@[simp] theorem art_40 : art Try.prog 40 = none := by kernel_rfl
@[simp] theorem art_48 : art Try.prog 48 = none := by kernel_rfl
@[simp] theorem art_50 : art Try.prog 50 = none := by kernel_rfl
@[simp] theorem art_65 : art Try.prog 65 = none := by kernel_rfl
@[simp] theorem art_75 : art Try.prog 75 = none := by kernel_rfl
@[simp] theorem art_77 : art Try.prog 77 = none := by kernel_rfl
@[simp] theorem art_81 : art Try.prog 81 = none := by kernel_rfl
@[simp] theorem art_83 : art Try.prog 83 = none := by kernel_rfl
@[simp] theorem art_85 : art Try.prog 85 = none := by kernel_rfl
@[simp] theorem art_143 : art Try.prog 143 = none := by kernel_rfl
@[simp] theorem art_145 : art Try.prog 145 = none := by kernel_rfl
@[simp] theorem art_207 : art Try.prog 207 = none := by kernel_rfl
@[simp] theorem art_214 : art Try.prog 214 = none := by kernel_rfl
@[simp] theorem cvt_5_3 : cvt Try.prog 5 3 = some (.int .i64) := by kernel_rfl
@[simp] theorem elt_40 : elt Try.prog 40 = some (3, .sc, 8) := by kernel_rfl
@[simp] theorem elt_48 : elt Try.prog 48 = some (81, (.ag 4), 32) := by kernel_rfl
@[simp] theorem elt_65 : elt Try.prog 65 = some (5, .sc, 1) := by kernel_rfl
@[simp] theorem elt_143 : elt Try.prog 143 = some (83, (.ag 2), 16) := by kernel_rfl
@[simp] theorem elt_214 : elt Try.prog 214 = some (143, .sc, 24) := by kernel_rfl
@[simp] theorem eqk_3 : eqk Try.prog 3 = some (false, [.i]) := by kernel_rfl
@[simp] theorem eqk_75 : eqk Try.prog 75 = some (true, [.i, .i, .i, .i]) := by kernel_rfl
@[simp] theorem eqk_81 : eqk Try.prog 81 = some (true, [.i, .i, .i, .i]) := by kernel_rfl
@[simp] theorem eqk_83 : eqk Try.prog 83 = some (true, [.i, .i]) := by kernel_rfl
@[simp] theorem eqk_85 : eqk Try.prog 85 = some (true, [.i, .i, .i, .i, .i, .i, .i, .i, .i, .i, .i, .i, .i]) := by kernel_rfl
@[simp] theorem fld_50_0 : fld Try.prog 50 0 = some (0, .sc) := by kernel_rfl
@[simp] theorem fld_50_1 : fld Try.prog 50 1 = some (1, .sc) := by kernel_rfl
@[simp] theorem fld_50_2 : fld Try.prog 50 2 = some (2, .sc) := by kernel_rfl
@[simp] theorem fld_75_0 : fld Try.prog 75 0 = some (0, .sc) := by kernel_rfl
@[simp] theorem fld_75_1 : fld Try.prog 75 1 = some (1, .sc) := by kernel_rfl
@[simp] theorem fld_75_2 : fld Try.prog 75 2 = some (2, .sc) := by kernel_rfl
@[simp] theorem fld_75_3 : fld Try.prog 75 3 = some (3, .sc) := by kernel_rfl
@[simp] theorem fld_77_0 : fld Try.prog 77 0 = some (0, (.ag 4)) := by kernel_rfl
@[simp] theorem fld_77_1 : fld Try.prog 77 1 = some (4, .sc) := by kernel_rfl
@[simp] theorem fld_81_0 : fld Try.prog 81 0 = some (0, .sc) := by kernel_rfl
@[simp] theorem fld_81_1 : fld Try.prog 81 1 = some (1, .sc) := by kernel_rfl
@[simp] theorem fld_81_2 : fld Try.prog 81 2 = some (2, .sc) := by kernel_rfl
@[simp] theorem fld_81_3 : fld Try.prog 81 3 = some (3, .sc) := by kernel_rfl
@[simp] theorem fld_83_0 : fld Try.prog 83 0 = some (0, .sc) := by kernel_rfl
@[simp] theorem fld_83_1 : fld Try.prog 83 1 = some (1, .sc) := by kernel_rfl
@[simp] theorem fld_85_0 : fld Try.prog 85 0 = some (0, .sc) := by kernel_rfl
@[simp] theorem fld_85_1 : fld Try.prog 85 1 = some (1, (.ag 4)) := by kernel_rfl
@[simp] theorem fld_85_2 : fld Try.prog 85 2 = some (5, (.ag 4)) := by kernel_rfl
@[simp] theorem fld_85_3 : fld Try.prog 85 3 = some (9, (.ag 2)) := by kernel_rfl
@[simp] theorem fld_85_4 : fld Try.prog 85 4 = some (11, (.ag 2)) := by kernel_rfl
@[simp] theorem fld_145_0 : fld Try.prog 145 0 = some (0, .sc) := by kernel_rfl
@[simp] theorem fld_145_1 : fld Try.prog 145 1 = some (1, .sc) := by kernel_rfl
@[simp] theorem fld_207_0 : fld Try.prog 207 0 = some (0, .sc) := by kernel_rfl
@[simp] theorem fld_207_1 : fld Try.prog 207 1 = some (1, .sc) := by kernel_rfl
@[simp] theorem fld_207_2 : fld Try.prog 207 2 = some (2, .sc) := by kernel_rfl
@[simp] theorem isArr_50 : isArr Try.prog 50 = false := by kernel_rfl
@[simp] theorem isArr_75 : isArr Try.prog 75 = false := by kernel_rfl
@[simp] theorem isArr_77 : isArr Try.prog 77 = false := by kernel_rfl
@[simp] theorem isArr_81 : isArr Try.prog 81 = false := by kernel_rfl
@[simp] theorem isArr_83 : isArr Try.prog 83 = false := by kernel_rfl
@[simp] theorem isArr_85 : isArr Try.prog 85 = false := by kernel_rfl
@[simp] theorem isArr_145 : isArr Try.prog 145 = false := by kernel_rfl
@[simp] theorem isArr_207 : isArr Try.prog 207 = false := by kernel_rfl
@[simp] theorem lnK_40 : lnK Try.prog 40 = some .sl := by kernel_rfl
@[simp] theorem lnK_48 : lnK Try.prog 48 = some .sl := by kernel_rfl
@[simp] theorem lnK_65 : lnK Try.prog 65 = some .sl := by kernel_rfl
@[simp] theorem lnK_143 : lnK Try.prog 143 = some .sl := by kernel_rfl
@[simp] theorem lnK_214 : lnK Try.prog 214 = some .sl := by kernel_rfl
@[simp] theorem plc_50 : plc Try.prog 50 = some [(0, 1), (1, 1), (2, 1)] := by kernel_rfl
@[simp] theorem plc_75 : plc Try.prog 75 = some [(0, 1), (1, 1), (2, 1), (3, 1)] := by kernel_rfl
@[simp] theorem plc_77 : plc Try.prog 77 = some [(0, 4), (4, 1)] := by kernel_rfl
@[simp] theorem plc_81 : plc Try.prog 81 = some [(0, 1), (1, 1), (2, 1), (3, 1)] := by kernel_rfl
@[simp] theorem plc_83 : plc Try.prog 83 = some [(0, 1), (1, 1)] := by kernel_rfl
@[simp] theorem plc_85 : plc Try.prog 85 = some [(0, 1), (1, 4), (5, 4), (9, 2), (11, 2)] := by kernel_rfl
@[simp] theorem plc_145 : plc Try.prog 145 = some [(0, 1), (1, 1)] := by kernel_rfl
@[simp] theorem plc_207 : plc Try.prog 207 = some [(0, 1), (1, 1), (2, 1)] := by kernel_rfl
@[simp] theorem srcTy_40 : srcTy Try.prog 40 = true := by kernel_rfl
@[simp] theorem srcTy_48 : srcTy Try.prog 48 = true := by kernel_rfl
@[simp] theorem srcTy_143 : srcTy Try.prog 143 = true := by kernel_rfl
@[simp] theorem srcTy_214 : srcTy Try.prog 214 = true := by kernel_rfl
@[simp] theorem tsh_3 : tsh Try.prog 3 = some .sc := by kernel_rfl
@[simp] theorem tsh_5 : tsh Try.prog 5 = some .sc := by kernel_rfl
@[simp] theorem tsh_40 : tsh Try.prog 40 = some .sc := by kernel_rfl
@[simp] theorem tsh_48 : tsh Try.prog 48 = some .sc := by kernel_rfl
@[simp] theorem tsh_50 : tsh Try.prog 50 = some (.ag 3) := by kernel_rfl
@[simp] theorem tsh_65 : tsh Try.prog 65 = some .sc := by kernel_rfl
@[simp] theorem tsh_75 : tsh Try.prog 75 = some (.ag 4) := by kernel_rfl
@[simp] theorem tsh_77 : tsh Try.prog 77 = some (.ag 5) := by kernel_rfl
@[simp] theorem tsh_81 : tsh Try.prog 81 = some (.ag 4) := by kernel_rfl
@[simp] theorem tsh_83 : tsh Try.prog 83 = some (.ag 2) := by kernel_rfl
@[simp] theorem tsh_85 : tsh Try.prog 85 = some (.ag 13) := by kernel_rfl
@[simp] theorem tsh_143 : tsh Try.prog 143 = some .sc := by kernel_rfl
@[simp] theorem tsh_145 : tsh Try.prog 145 = some (.ag 2) := by kernel_rfl
@[simp] theorem zer_3 : zer Try.prog 3 = some (AV.int .i64 0) := by kernel_rfl
@[simp] theorem zer_5 : zer Try.prog 5 = some (AV.int .u8 0) := by kernel_rfl
@[simp] theorem zer_50 : zer Try.prog 50 = some (AV.agg [AV.int .i64 0, AV.int .i64 0, AV.nilsl]) := by kernel_rfl
@[simp] theorem zer_75 : zer Try.prog 75 = some (AV.agg [AV.int .i64 0, AV.int .i64 0, AV.int .i64 0, AV.int .i64 0]) := by kernel_rfl
@[simp] theorem zer_77 : zer Try.prog 77 = some (AV.agg [AV.int .i64 0, AV.int .i64 0, AV.int .i64 0, AV.int .i64 0, AV.nilsl]) := by kernel_rfl
@[simp] theorem zer_81 : zer Try.prog 81 = some (AV.agg [AV.int .i64 0, AV.int .i64 0, AV.int .i64 0, AV.int .i64 0]) := by kernel_rfl
@[simp] theorem zer_83 : zer Try.prog 83 = some (AV.agg [AV.int .i64 0, AV.int .i64 0]) := by kernel_rfl
@[simp] theorem zer_85 : zer Try.prog 85 = some (AV.agg [AV.int .i64 0, AV.int .i64 0, AV.int .i64 0, AV.int .i64 0, AV.int .i64 0, AV.int .i64 0, AV.int .i64 0, AV.int .i64 0, AV.int .i64 0, AV.int .i64 0, AV.int .i64 0, AV.int .i64 0, AV.int .i64 0]) := by kernel_rfl
@[simp] theorem zer_143 : zer Try.prog 143 = some (AV.nilsl) := by kernel_rfl
@[simp] theorem zer_145 : zer Try.prog 145 = some (AV.agg [AV.nilsl, AV.nilsl]) := by kernel_rfl
@[simp] theorem zer_207 : zer Try.prog 207 = some (AV.agg [AV.nilsl, AV.int .i64 0, AV.int .i64 0]) := by kernel_rfl
def E0 : FuncId → Md := fun f => (lkp [(39, { keep := true, lend := true }), (100, { own := true }), (101, { keep := true }), (103, { keep := true, lend := true }), (104, { own := true }), (109, { own := true }), (110, { own := true }), (113, { keep := true, lend := true }), (114, { own := true }), (115, { own := true }), (171, { own := true }), (172, { keep := true, lend := true }), (181, { keep := true, lend := true }), (183, { own := true }), (184, { own := true }), (185, { own := true }), (186, { own := true })] f).getD {}
@[simp] theorem E0_7 : E0 7 = {} := rfl
@[simp] theorem E0_28 : E0 28 = {} := rfl
@[simp] theorem E0_29 : E0 29 = {} := rfl
@[simp] theorem E0_32 : E0 32 = {} := rfl
@[simp] theorem E0_33 : E0 33 = {} := rfl
@[simp] theorem E0_34 : E0 34 = {} := rfl
@[simp] theorem E0_37 : E0 37 = {} := rfl
@[simp] theorem E0_38 : E0 38 = {} := rfl
@[simp] theorem E0_39 : E0 39 = { keep := true, lend := true } := rfl
@[simp] theorem E0_40 : E0 40 = {} := rfl
@[simp] theorem E0_41 : E0 41 = {} := rfl
@[simp] theorem E0_42 : E0 42 = {} := rfl
@[simp] theorem E0_43 : E0 43 = {} := rfl
@[simp] theorem E0_44 : E0 44 = {} := rfl
@[simp] theorem E0_45 : E0 45 = {} := rfl
@[simp] theorem E0_46 : E0 46 = {} := rfl
@[simp] theorem E0_67 : E0 67 = {} := rfl
@[simp] theorem E0_73 : E0 73 = {} := rfl
@[simp] theorem E0_74 : E0 74 = {} := rfl
@[simp] theorem E0_76 : E0 76 = {} := rfl
@[simp] theorem E0_78 : E0 78 = {} := rfl
@[simp] theorem E0_82 : E0 82 = {} := rfl
@[simp] theorem E0_84 : E0 84 = {} := rfl
@[simp] theorem E0_100 : E0 100 = { own := true } := rfl
@[simp] theorem E0_101 : E0 101 = { keep := true } := rfl
@[simp] theorem E0_102 : E0 102 = {} := rfl
@[simp] theorem E0_103 : E0 103 = { keep := true, lend := true } := rfl
@[simp] theorem E0_104 : E0 104 = { own := true } := rfl
@[simp] theorem E0_105 : E0 105 = {} := rfl
@[simp] theorem E0_107 : E0 107 = {} := rfl
@[simp] theorem E0_108 : E0 108 = {} := rfl
@[simp] theorem E0_109 : E0 109 = { own := true } := rfl
@[simp] theorem E0_110 : E0 110 = { own := true } := rfl
@[simp] theorem E0_111 : E0 111 = {} := rfl
@[simp] theorem E0_112 : E0 112 = {} := rfl
@[simp] theorem E0_113 : E0 113 = { keep := true, lend := true } := rfl
@[simp] theorem E0_114 : E0 114 = { own := true } := rfl
@[simp] theorem E0_115 : E0 115 = { own := true } := rfl
@[simp] theorem E0_116 : E0 116 = {} := rfl
@[simp] theorem E0_117 : E0 117 = {} := rfl
@[simp] theorem E0_118 : E0 118 = {} := rfl
@[simp] theorem E0_119 : E0 119 = {} := rfl
@[simp] theorem E0_120 : E0 120 = {} := rfl
@[simp] theorem E0_121 : E0 121 = {} := rfl
@[simp] theorem E0_122 : E0 122 = {} := rfl
@[simp] theorem E0_123 : E0 123 = {} := rfl
@[simp] theorem E0_124 : E0 124 = {} := rfl
@[simp] theorem E0_125 : E0 125 = {} := rfl
@[simp] theorem E0_126 : E0 126 = {} := rfl
@[simp] theorem E0_127 : E0 127 = {} := rfl
@[simp] theorem E0_128 : E0 128 = {} := rfl
@[simp] theorem E0_148 : E0 148 = {} := rfl
@[simp] theorem E0_152 : E0 152 = {} := rfl
@[simp] theorem E0_157 : E0 157 = {} := rfl
@[simp] theorem E0_158 : E0 158 = {} := rfl
@[simp] theorem E0_170 : E0 170 = {} := rfl
@[simp] theorem E0_171 : E0 171 = { own := true } := rfl
@[simp] theorem E0_172 : E0 172 = { keep := true, lend := true } := rfl
@[simp] theorem E0_173 : E0 173 = {} := rfl
@[simp] theorem E0_174 : E0 174 = {} := rfl
@[simp] theorem E0_175 : E0 175 = {} := rfl
@[simp] theorem E0_176 : E0 176 = {} := rfl
@[simp] theorem E0_177 : E0 177 = {} := rfl
@[simp] theorem E0_178 : E0 178 = {} := rfl
@[simp] theorem E0_179 : E0 179 = {} := rfl
@[simp] theorem E0_180 : E0 180 = {} := rfl
@[simp] theorem E0_181 : E0 181 = { keep := true, lend := true } := rfl
@[simp] theorem E0_182 : E0 182 = {} := rfl
@[simp] theorem E0_183 : E0 183 = { own := true } := rfl
@[simp] theorem E0_184 : E0 184 = { own := true } := rfl
@[simp] theorem E0_185 : E0 185 = { own := true } := rfl
@[simp] theorem E0_186 : E0 186 = { own := true } := rfl
@[simp] theorem E0_187 : E0 187 = {} := rfl
@[simp] theorem E0_188 : E0 188 = {} := rfl
@[simp] theorem E0_189 : E0 189 = {} := rfl
@[simp] theorem E0_190 : E0 190 = {} := rfl
@[simp] theorem E0_191 : E0 191 = {} := rfl
@[simp] theorem E0_192 : E0 192 = {} := rfl
@[simp] theorem E0_193 : E0 193 = {} := rfl
@[simp] theorem E0_194 : E0 194 = {} := rfl
@[simp] theorem E0_195 : E0 195 = {} := rfl
@[simp] theorem E0_196 : E0 196 = {} := rfl
@[simp] theorem E0_204 : E0 204 = {} := rfl
@[simp] theorem E0_219 : E0 219 = {} := rfl
@[simp] theorem E0_220 : E0 220 = {} := rfl
@[simp] theorem E0_221 : E0 221 = {} := rfl
@[simp] theorem E0_222 : E0 222 = {} := rfl
@[simp] theorem E0_223 : E0 223 = {} := rfl
@[simp] theorem E0_224 : E0 224 = {} := rfl
@[simp] theorem E0_225 : E0 225 = {} := rfl
@[simp] theorem E0_226 : E0 226 = {} := rfl
@[simp] theorem E0_227 : E0 227 = {} := rfl
@[simp] theorem E0_228 : E0 228 = {} := rfl
@[simp] theorem E0_229 : E0 229 = {} := rfl
@[simp] theorem E0_230 : E0 230 = {} := rfl
@[simp] theorem E0_241 : E0 241 = {} := rfl
@[simp] theorem E0_242 : E0 242 = {} := rfl
@[simp] theorem E0_245 : E0 245 = {} := rfl
@[simp] theorem E0_247 : E0 247 = {} := rfl
structure TBox where
  x0 : Int
  y0 : Int
  x1 : Int
  y1 : Int
@[simp] def eBox (a : TBox) : AV := .agg [AV.int .i64 a.x0, AV.int .i64 a.y0, AV.int .i64 a.x1, AV.int .i64 a.y1]
@[simp] theorem wid_eBox : wid eBox 4 = True := eq_true ⟨by simp⟩
@[simp] theorem eta_TBox (a : TBox) : TBox.mk a.x0 a.y0 a.x1 a.y1 = a := rfl
theorem inj_eBox : Inj eBox := by
  constructor
  rintro ⟨x0, x1, x2, x3⟩ ⟨y0, y1, y2, y3⟩ h
  simp at h
  simp [h]
@[simp] theorem Inj_eBox : Inj eBox = True := eq_true inj_eBox
@[simp] theorem pln_eBox : pln eBox = True := eq_true ⟨fun a => by simp⟩
structure TMask where
  box : TBox
  bits : List Int
@[simp] def eMask (a : TMask) : AV := .agg [AV.int .i64 a.box.x0, AV.int .i64 a.box.y0, AV.int .i64 a.box.x1, AV.int .i64 a.box.y1, AV.fsl (List.map (AV.int .i64) a.bits)]
@[simp] theorem wid_eMask : wid eMask 5 = True := eq_true ⟨by simp⟩
@[simp] theorem eta_TMask (a : TMask) : TMask.mk a.box a.bits = a := rfl
theorem inj_eMask : Inj eMask := by
  constructor
  rintro ⟨⟨x0, x1, x2, x3⟩, x4⟩ ⟨⟨y0, y1, y2, y3⟩, y4⟩ h
  simp at h
  simp [h]
@[simp] theorem Inj_eMask : Inj eMask = True := eq_true inj_eMask
structure TKept where
  id : Int
  mask : TMask
@[simp] def eKept (a : TKept) : AV := .agg [AV.int .i64 a.id, AV.int .i64 a.mask.box.x0, AV.int .i64 a.mask.box.y0, AV.int .i64 a.mask.box.x1, AV.int .i64 a.mask.box.y1, AV.fsl (List.map (AV.int .i64) a.mask.bits)]
@[simp] theorem wid_eKept : wid eKept 6 = True := eq_true ⟨by simp⟩
@[simp] theorem eta_TKept (a : TKept) : TKept.mk a.id a.mask = a := rfl
theorem inj_eKept : Inj eKept := by
  constructor
  rintro ⟨x0, ⟨⟨x1, x2, x3, x4⟩, x5⟩⟩ ⟨y0, ⟨⟨y1, y2, y3, y4⟩, y5⟩⟩ h
  simp at h
  simp [h]
@[simp] theorem Inj_eKept : Inj eKept = True := eq_true inj_eKept
structure TCache where
  most : Int
  list : List TKept
@[simp] def eCache (a : TCache) : AV := .agg [AV.int .i64 a.most, AV.fsl (List.map eKept a.list)]
@[simp] theorem wid_eCache : wid eCache 2 = True := eq_true ⟨by simp⟩
@[simp] theorem eta_TCache (a : TCache) : TCache.mk a.most a.list = a := rfl
theorem inj_eCache : Inj eCache := by
  constructor
  rintro ⟨x0, x1⟩ ⟨y0, y1⟩ h
  simp at h
  simp [h]
@[simp] theorem Inj_eCache : Inj eCache = True := eq_true inj_eCache
structure TColor where
  r : Int
  g : Int
  b : Int
  a : Int
@[simp] def eColor (a : TColor) : AV := .agg [AV.int .i64 a.r, AV.int .i64 a.g, AV.int .i64 a.b, AV.int .i64 a.a]
@[simp] theorem wid_eColor : wid eColor 4 = True := eq_true ⟨by simp⟩
@[simp] theorem eta_TColor (a : TColor) : TColor.mk a.r a.g a.b a.a = a := rfl
theorem inj_eColor : Inj eColor := by
  constructor
  rintro ⟨x0, x1, x2, x3⟩ ⟨y0, y1, y2, y3⟩ h
  simp at h
  simp [h]
@[simp] theorem Inj_eColor : Inj eColor = True := eq_true inj_eColor
@[simp] theorem pln_eColor : pln eColor = True := eq_true ⟨fun a => by simp⟩
structure TSurface where
  w : Int
  h : Int
  pix : List TColor
@[simp] def eSurface (a : TSurface) : AV := .agg [AV.int .i64 a.w, AV.int .i64 a.h, AV.fsl (List.map eColor a.pix)]
@[simp] theorem wid_eSurface : wid eSurface 3 = True := eq_true ⟨by simp⟩
@[simp] theorem eta_TSurface (a : TSurface) : TSurface.mk a.w a.h a.pix = a := rfl
theorem inj_eSurface : Inj eSurface := by
  constructor
  rintro ⟨x0, x1, x2⟩ ⟨y0, y1, y2⟩ h
  simp at h
  simp [h]
@[simp] theorem Inj_eSurface : Inj eSurface = True := eq_true inj_eSurface
structure TL01Cur where
  b : List Int
  i : Int
  h : Int
@[simp] def eL01Cur (a : TL01Cur) : AV := .agg [AV.fsl (List.map (AV.int .u8) a.b), AV.int .i64 a.i, AV.int .i64 a.h]
@[simp] theorem wid_eL01Cur : wid eL01Cur 3 = True := eq_true ⟨by simp⟩
@[simp] theorem eta_TL01Cur (a : TL01Cur) : TL01Cur.mk a.b a.i a.h = a := rfl
theorem inj_eL01Cur : Inj eL01Cur := by
  constructor
  rintro ⟨x0, x1, x2⟩ ⟨y0, y1, y2⟩ h
  simp at h
  simp [h]
@[simp] theorem Inj_eL01Cur : Inj eL01Cur = True := eq_true inj_eL01Cur
structure TPoint where
  x : Int
  y : Int
@[simp] def ePoint (a : TPoint) : AV := .agg [AV.int .i64 a.x, AV.int .i64 a.y]
@[simp] theorem wid_ePoint : wid ePoint 2 = True := eq_true ⟨by simp⟩
@[simp] theorem eta_TPoint (a : TPoint) : TPoint.mk a.x a.y = a := rfl
theorem inj_ePoint : Inj ePoint := by
  constructor
  rintro ⟨x0, x1⟩ ⟨y0, y1⟩ h
  simp at h
  simp [h]
@[simp] theorem Inj_ePoint : Inj ePoint = True := eq_true inj_ePoint
@[simp] theorem pln_ePoint : pln ePoint = True := eq_true ⟨fun a => by simp⟩
structure TPath where
  verbs : List Int
  points : List TPoint
@[simp] def ePath (a : TPath) : AV := .agg [AV.fsl (List.map (AV.int .i64) a.verbs), AV.fsl (List.map ePoint a.points)]
@[simp] theorem wid_ePath : wid ePath 2 = True := eq_true ⟨by simp⟩
@[simp] theorem eta_TPath (a : TPath) : TPath.mk a.verbs a.points = a := rfl
theorem inj_ePath : Inj ePath := by
  constructor
  rintro ⟨x0, x1⟩ ⟨y0, y1⟩ h
  simp at h
  simp [h]
@[simp] theorem Inj_ePath : Inj ePath = True := eq_true inj_ePath
structure TPaint where
  kind : Int
  first : TColor
  last : TColor
  from_ : TPoint
  to : TPoint
@[simp] def ePaint (a : TPaint) : AV := .agg [AV.int .i64 a.kind, AV.int .i64 a.first.r, AV.int .i64 a.first.g, AV.int .i64 a.first.b, AV.int .i64 a.first.a, AV.int .i64 a.last.r, AV.int .i64 a.last.g, AV.int .i64 a.last.b, AV.int .i64 a.last.a, AV.int .i64 a.from_.x, AV.int .i64 a.from_.y, AV.int .i64 a.to.x, AV.int .i64 a.to.y]
@[simp] theorem wid_ePaint : wid ePaint 13 = True := eq_true ⟨by simp⟩
@[simp] theorem eta_TPaint (a : TPaint) : TPaint.mk a.kind a.first a.last a.from_ a.to = a := rfl
theorem inj_ePaint : Inj ePaint := by
  constructor
  rintro ⟨x0, ⟨x1, x2, x3, x4⟩, ⟨x5, x6, x7, x8⟩, ⟨x9, x10⟩, ⟨x11, x12⟩⟩ ⟨y0, ⟨y1, y2, y3, y4⟩, ⟨y5, y6, y7, y8⟩, ⟨y9, y10⟩, ⟨y11, y12⟩⟩ h
  simp at h
  simp [h]
@[simp] theorem Inj_ePaint : Inj ePaint = True := eq_true inj_ePaint
@[simp] theorem pln_ePaint : pln ePaint = True := eq_true ⟨fun a => by simp⟩
end Go.Proofs.Ytoafihhhdnmliaa.Am
