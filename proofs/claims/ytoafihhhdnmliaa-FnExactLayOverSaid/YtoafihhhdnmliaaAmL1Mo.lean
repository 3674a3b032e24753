import Derived.Test.YtoafihhhdnmliaaAmL1Ty
set_option linter.unusedVariables false
set_option linter.unusedSimpArgs false
set_option linter.unusedSectionVars false
namespace Go.Proofs.Ytoafihhhdnmliaa.Am
open Go Go.Proofs
set_option maxRecDepth 100000
set_option linter.unusedSimpArgs false
set_option linter.unusedVariables false
set_option maxHeartbeats 4000000
/-! laws_szColorS: function 140 -/
noncomputable def laws_szColorS (a0 : List TColor) (a1 : Int) : Option ((Int)) :=
  cnd (ile 0 (IntKind.i64.wrap (a1 - (List.length a0 : Int)))) (
   some (IntKind.i64.wrap (a1 - (List.length a0 : Int)))) (
   some (-1))
noncomputable def laws_szColorS_e (q : (List TColor) × (Int)) : List AV × List Ob := ([AV.fsl (List.map eColor q.1), AV.int .i64 q.2], [])
noncomputable def laws_szColorS_v (q : (List TColor) × (Int)) (r : (Int)) : AV × List Ob := (AV.int .i64 r, [])
noncomputable def laws_szColorS_x : List AV → List Ob → Option (AV × List Ob) := xOf laws_szColorS_e (fun q => laws_szColorS q.1 q.2) laws_szColorS_v
theorem laws_szColorS_i : ∀ a b, laws_szColorS_e a = laws_szColorS_e b → a = b := by rintro ⟨x0, x1⟩ ⟨y0, y1⟩ h; simp [laws_szColorS_e] at h; simp [h]
@[simp] theorem laws_szColorS_k (z0 : List TColor) (z1 : Int) : laws_szColorS_x [AV.fsl (List.map eColor z0), AV.int .i64 z1] [] = mapR (laws_szColorS z0 z1) (fun r => (AV.int .i64 r, [])) :=
  xOf_eq laws_szColorS_i (z0, z1)
/-! laws_szSurface: function 61 -/
noncomputable def laws_szSurface (a0 : TSurface) (a1 : Int) : Option ((Int)) :=
  bnd (laws_szColorS a0.pix a1) fun v1 =>
  cnd (ile 0 v1) (
   some v1) (
   some (-1))
noncomputable def laws_szSurface_e (q : (TSurface) × (Int)) : List AV × List Ob := ([AV.agg [AV.int .i64 q.1.w, AV.int .i64 q.1.h, AV.fsl (List.map eColor q.1.pix)], AV.int .i64 q.2], [])
noncomputable def laws_szSurface_v (q : (TSurface) × (Int)) (r : (Int)) : AV × List Ob := (AV.int .i64 r, [])
noncomputable def laws_szSurface_x : List AV → List Ob → Option (AV × List Ob) := xOf laws_szSurface_e (fun q => laws_szSurface q.1 q.2) laws_szSurface_v
theorem laws_szSurface_i : ∀ a b, laws_szSurface_e a = laws_szSurface_e b → a = b := by rintro ⟨⟨x0, x1, x2⟩, x3⟩ ⟨⟨y0, y1, y2⟩, y3⟩ h; simp [laws_szSurface_e] at h; simp [h]
@[simp] theorem laws_szSurface_k (z0 : Int) (z1 : Int) (z2 : List TColor) (z3 : Int) : laws_szSurface_x [AV.agg [AV.int .i64 z0, AV.int .i64 z1, AV.fsl (List.map eColor z2)], AV.int .i64 z3] [] = mapR (laws_szSurface ⟨z0, z1, z2⟩ z3) (fun r => (AV.int .i64 r, [])) :=
  xOf_eq laws_szSurface_i (⟨z0, z1, z2⟩, z3)
/-! laws_toColor: function 145 -/
noncomputable def laws_toColor (a0 : TColor) : Option ((TColor)) :=
  some a0
noncomputable def laws_toColor_e (q : (TColor)) : List AV × List Ob := ([AV.agg [AV.int .i64 q.r, AV.int .i64 q.g, AV.int .i64 q.b, AV.int .i64 q.a]], [])
noncomputable def laws_toColor_v (q : (TColor)) (r : (TColor)) : AV × List Ob := (AV.agg [AV.int .i64 r.r, AV.int .i64 r.g, AV.int .i64 r.b, AV.int .i64 r.a], [])
noncomputable def laws_toColor_x : List AV → List Ob → Option (AV × List Ob) := xOf laws_toColor_e (fun q => laws_toColor q) laws_toColor_v
theorem laws_toColor_i : ∀ a b, laws_toColor_e a = laws_toColor_e b → a = b := by rintro ⟨x0, x1, x2, x3⟩ ⟨y0, y1, y2, y3⟩ h; simp [laws_toColor_e] at h; simp [h]
@[simp] theorem laws_toColor_k (z0 : Int) (z1 : Int) (z2 : Int) (z3 : Int) : laws_toColor_x [AV.agg [AV.int .i64 z0, AV.int .i64 z1, AV.int .i64 z2, AV.int .i64 z3]] [] = mapR (laws_toColor ⟨z0, z1, z2, z3⟩) (fun r => (AV.agg [AV.int .i64 r.r, AV.int .i64 r.g, AV.int .i64 r.b, AV.int .i64 r.a], [])) :=
  xOf_eq laws_toColor_i ⟨z0, z1, z2, z3⟩
/-! laws_toColorS: function 141 -/
noncomputable def laws_toColorS_l0 (a0 : List TColor) : ((Int) × (List TColor)) → Option (((Int) × (List TColor)) ⊕ ((List TColor))) := fun (x6, x7) =>
  cnd (ile (List.length a0 : Int) x6) (
   some (.inr x7)) (
   bnd (idx a0 x6) fun v8 =>
   bnd (laws_toColor v8) fun v9 =>
   bnd (idx x7 x6) fun v10 =>
   nam ((List.set x7 (Int.toNat x6) v9) : List TColor) fun l11 =>
   some (.inl ((IntKind.i64.wrap (x6 + 1)), l11)))
noncomputable def laws_toColorS_l0_S (a0 : List TColor) : ((Int) × (List TColor)) → St := fun (x6, x7) => ⟨[(0, AV.fsl (List.map eColor a0)), (3, AV.osl 0 0 (List.length x7) (List.length x7)), (4, AV.int .i64 x6)], [(0, Ob.arr 4 (List.map eColor x7) false)], 1⟩
noncomputable def laws_toColorS_l0_X (a0 : List TColor) : ((List TColor)) → Ex × St := fun y12 => ((.exit 0), ⟨[(3, AV.osl 0 0 (List.length y12) (List.length y12))], [(0, Ob.arr 4 (List.map eColor y12) false)], 1⟩)
noncomputable def laws_toColorS (a0 : List TColor) : Option ((List TColor)) :=
  chkP (0 ≤ (List.length a0 : Int) ∧ (List.length a0 : Int) ≤ (List.length a0 : Int) ∧ (List.length a0 : Int) ≤ 17592186044416 ∧ (List.length a0 : Int) * 32 ≤ 17592186044416) (
  nam ((List.replicate (Int.toNat (List.length a0 : Int)) (TColor.mk 0 0 0 0)) : List TColor) fun l1 =>
  bnd (loopI (laws_toColorS_l0 a0) (0, l1)) fun y12 =>
  some y12)
noncomputable def laws_toColorS_e (q : (List TColor)) : List AV × List Ob := ([AV.fsl (List.map eColor q)], [])
noncomputable def laws_toColorS_v (q : (List TColor)) (r : (List TColor)) : AV × List Ob := (AV.osl 0 0 (List.length r) (List.length r), [Ob.arr 4 (List.map eColor r) false])
noncomputable def laws_toColorS_x : List AV → List Ob → Option (AV × List Ob) := xOf laws_toColorS_e (fun q => laws_toColorS q) laws_toColorS_v
theorem laws_toColorS_i : ∀ a b, laws_toColorS_e a = laws_toColorS_e b → a = b := by rintro x0 y0 h; simp [laws_toColorS_e] at h; simp [h]
@[simp] theorem laws_toColorS_k (z0 : List TColor) : laws_toColorS_x [AV.fsl (List.map eColor z0)] [] = mapR (laws_toColorS z0) (fun r => (AV.osl 0 0 (List.length r) (List.length r), [Ob.arr 4 (List.map eColor r) false])) :=
  xOf_eq laws_toColorS_i z0
/-! laws_toSurface: function 62 -/
noncomputable def laws_toSurface (a0 : TSurface) : Option ((Int) × (Int) × (List TColor)) :=
  bnd (laws_toColorS a0.pix) fun v1 =>
  some (a0.w, a0.h, v1)
noncomputable def laws_toSurface_e (q : (TSurface)) : List AV × List Ob := ([AV.agg [AV.int .i64 q.w, AV.int .i64 q.h, AV.fsl (List.map eColor q.pix)]], [])
noncomputable def laws_toSurface_v (q : (TSurface)) (r : (Int) × (Int) × (List TColor)) : AV × List Ob := (AV.agg [AV.int .i64 r.1, AV.int .i64 r.2.1, AV.osl 0 0 (List.length r.2.2) (List.length r.2.2)], [Ob.arr 4 (List.map eColor r.2.2) false])
noncomputable def laws_toSurface_x : List AV → List Ob → Option (AV × List Ob) := xOf laws_toSurface_e (fun q => laws_toSurface q) laws_toSurface_v
theorem laws_toSurface_i : ∀ a b, laws_toSurface_e a = laws_toSurface_e b → a = b := by rintro ⟨x0, x1, x2⟩ ⟨y0, y1, y2⟩ h; simp [laws_toSurface_e] at h; simp [h]
@[simp] theorem laws_toSurface_k (z0 : Int) (z1 : Int) (z2 : List TColor) : laws_toSurface_x [AV.agg [AV.int .i64 z0, AV.int .i64 z1, AV.fsl (List.map eColor z2)]] [] = mapR (laws_toSurface ⟨z0, z1, z2⟩) (fun r => (AV.agg [AV.int .i64 r.1, AV.int .i64 r.2.1, AV.osl 0 0 (List.length r.2.2) (List.length r.2.2)], [Ob.arr 4 (List.map eColor r.2.2) false])) :=
  xOf_eq laws_toSurface_i ⟨z0, z1, z2⟩
/-! spec_l14Copy: function 113 -/
noncomputable def spec_l14Copy (a0 : TSurface) : Option ((Int) × (Int) × (List TColor)) :=
  chkP ((0 + List.length a0.pix) * 32 ≤ 17592186044416) (
  nam (([] ++ a0.pix) : List TColor) fun l1 =>
  some (a0.w, a0.h, l1))
noncomputable def spec_l14Copy_e (q : (TSurface)) : List AV × List Ob := ([AV.agg [AV.int .i64 q.w, AV.int .i64 q.h, AV.fsl (List.map eColor q.pix)]], [])
noncomputable def spec_l14Copy_v (q : (TSurface)) (r : (Int) × (Int) × (List TColor)) : AV × List Ob := (AV.agg [AV.int .i64 r.1, AV.int .i64 r.2.1, AV.osl 0 0 (List.length r.2.2) (List.length r.2.2)], [Ob.arr 4 (List.map eColor r.2.2) false])
noncomputable def spec_l14Copy_x : List AV → List Ob → Option (AV × List Ob) := xOf spec_l14Copy_e (fun q => spec_l14Copy q) spec_l14Copy_v
theorem spec_l14Copy_i : ∀ a b, spec_l14Copy_e a = spec_l14Copy_e b → a = b := by rintro ⟨x0, x1, x2⟩ ⟨y0, y1, y2⟩ h; simp [spec_l14Copy_e] at h; simp [h]
@[simp] theorem spec_l14Copy_k (z0 : Int) (z1 : Int) (z2 : List TColor) : spec_l14Copy_x [AV.agg [AV.int .i64 z0, AV.int .i64 z1, AV.fsl (List.map eColor z2)]] [] = mapR (spec_l14Copy ⟨z0, z1, z2⟩) (fun r => (AV.agg [AV.int .i64 r.1, AV.int .i64 r.2.1, AV.osl 0 0 (List.length r.2.2) (List.length r.2.2)], [Ob.arr 4 (List.map eColor r.2.2) false])) :=
  xOf_eq spec_l14Copy_i ⟨z0, z1, z2⟩
/-! spec_l01In: function 73 -/
noncomputable def spec_l01In (a0 : Int) (a1 : Int) (a2 : Int) : Option ((Bool)) :=
  cnd (ile a1 a0) (
   some (ile a0 a2)) (
   some false)
noncomputable def spec_l01In_e (q : (Int) × (Int) × (Int)) : List AV × List Ob := ([AV.int .i64 q.1, AV.int .i64 q.2.1, AV.int .i64 q.2.2], [])
noncomputable def spec_l01In_v (q : (Int) × (Int) × (Int)) (r : (Bool)) : AV × List Ob := (AV.bool r, [])
noncomputable def spec_l01In_x : List AV → List Ob → Option (AV × List Ob) := xOf spec_l01In_e (fun q => spec_l01In q.1 q.2.1 q.2.2) spec_l01In_v
theorem spec_l01In_i : ∀ a b, spec_l01In_e a = spec_l01In_e b → a = b := by rintro ⟨x0, x1, x2⟩ ⟨y0, y1, y2⟩ h; simp [spec_l01In_e] at h; simp [h]
@[simp] theorem spec_l01In_k (z0 : Int) (z1 : Int) (z2 : Int) : spec_l01In_x [AV.int .i64 z0, AV.int .i64 z1, AV.int .i64 z2] [] = mapR (spec_l01In z0 z1 z2) (fun r => (AV.bool r, [])) :=
  xOf_eq spec_l01In_i (z0, z1, z2)
/-! spec_ColorOk: function 193 -/
noncomputable def spec_ColorOk (a0 : TColor) : Option ((Bool)) :=
  bnd (spec_l01In a0.r 0 255) fun v1 =>
  cnd v1 (
   bnd (spec_l01In a0.g 0 255) fun v2 =>
   cnd v2 (
    bnd (spec_l01In a0.b 0 255) fun v3 =>
    cnd v3 (
     bnd (spec_l01In a0.a 0 255) fun v4 =>
     some v4) (
     some false)) (
    some false)) (
   some false)
noncomputable def spec_ColorOk_e (q : (TColor)) : List AV × List Ob := ([AV.agg [AV.int .i64 q.r, AV.int .i64 q.g, AV.int .i64 q.b, AV.int .i64 q.a]], [])
noncomputable def spec_ColorOk_v (q : (TColor)) (r : (Bool)) : AV × List Ob := (AV.bool r, [])
noncomputable def spec_ColorOk_x : List AV → List Ob → Option (AV × List Ob) := xOf spec_ColorOk_e (fun q => spec_ColorOk q) spec_ColorOk_v
theorem spec_ColorOk_i : ∀ a b, spec_ColorOk_e a = spec_ColorOk_e b → a = b := by rintro ⟨x0, x1, x2, x3⟩ ⟨y0, y1, y2, y3⟩ h; simp [spec_ColorOk_e] at h; simp [h]
@[simp] theorem spec_ColorOk_k (z0 : Int) (z1 : Int) (z2 : Int) (z3 : Int) : spec_ColorOk_x [AV.agg [AV.int .i64 z0, AV.int .i64 z1, AV.int .i64 z2, AV.int .i64 z3]] [] = mapR (spec_ColorOk ⟨z0, z1, z2, z3⟩) (fun r => (AV.bool r, [])) :=
  xOf_eq spec_ColorOk_i ⟨z0, z1, z2, z3⟩
/-! spec_LaidOk: function 121 -/
noncomputable def spec_LaidOk (a0 : TColor) : Option ((Bool)) :=
  bnd (spec_ColorOk a0) fun v1 =>
  cnd v1 (
   cnd (ile a0.r a0.a) (
    cnd (ile a0.g a0.a) (
     some (ile a0.b a0.a)) (
     some false)) (
    some false)) (
   some false)
noncomputable def spec_LaidOk_e (q : (TColor)) : List AV × List Ob := ([AV.agg [AV.int .i64 q.r, AV.int .i64 q.g, AV.int .i64 q.b, AV.int .i64 q.a]], [])
noncomputable def spec_LaidOk_v (q : (TColor)) (r : (Bool)) : AV × List Ob := (AV.bool r, [])
noncomputable def spec_LaidOk_x : List AV → List Ob → Option (AV × List Ob) := xOf spec_LaidOk_e (fun q => spec_LaidOk q) spec_LaidOk_v
theorem spec_LaidOk_i : ∀ a b, spec_LaidOk_e a = spec_LaidOk_e b → a = b := by rintro ⟨x0, x1, x2, x3⟩ ⟨y0, y1, y2, y3⟩ h; simp [spec_LaidOk_e] at h; simp [h]
@[simp] theorem spec_LaidOk_k (z0 : Int) (z1 : Int) (z2 : Int) (z3 : Int) : spec_LaidOk_x [AV.agg [AV.int .i64 z0, AV.int .i64 z1, AV.int .i64 z2, AV.int .i64 z3]] [] = mapR (spec_LaidOk ⟨z0, z1, z2, z3⟩) (fun r => (AV.bool r, [])) :=
  xOf_eq spec_LaidOk_i ⟨z0, z1, z2, z3⟩
/-! spec_SurfaceOk: function 82 -/
noncomputable def spec_SurfaceOk_l0 (a0 : TSurface) : ((Int)) → Option (((Int)) ⊕ ((Unit) ⊕ (Unit))) := fun x5 =>
  cnd (ile (List.length a0.pix : Int) x5) (
   some (.inr (.inl ()))) (
   bnd (idx a0.pix x5) fun v6 =>
   bnd (spec_LaidOk v6) fun v7 =>
   cnd v7 (
    some (.inl (IntKind.i64.wrap (x5 + 1)))) (
    some (.inr (.inr ()))))
noncomputable def spec_SurfaceOk_l0_S (a0 : TSurface) : ((Int)) → St := fun x5 => ⟨[(1, AV.optr 0 0 3), (3, AV.int .i64 x5)], [(0, Ob.box [AV.int .i64 a0.w, AV.int .i64 a0.h, AV.fsl (List.map eColor a0.pix)])], 1⟩
noncomputable def spec_SurfaceOk_l0_X (a0 : TSurface) : ((Unit) ⊕ (Unit)) → Ex × St := fun q => match q with
  | .inl _ => ((.exit 0), ⟨[], [], 0⟩)
  | .inr _ => (.ret, ⟨[(2, AV.bool false)], [], 0⟩)
noncomputable def spec_SurfaceOk (a0 : TSurface) : Option ((Bool)) :=
  bnd (spec_l01In a0.w 1 12) fun v1 =>
  cnd v1 (
   bnd (spec_l01In a0.h 1 12) fun v2 =>
   cnd v2 (
    cnd (ieq (List.length a0.pix : Int) (IntKind.i64.wrap (a0.w * a0.h))) (
     bnd (loopI (spec_SurfaceOk_l0 a0) 0) fun q => match q with
     | .inl () =>
      some true
     | .inr () =>
      some false) (
     some false)) (
    some false)) (
   some false)
noncomputable def spec_SurfaceOk_e (q : (TSurface)) : List AV × List Ob := ([AV.agg [AV.int .i64 q.w, AV.int .i64 q.h, AV.fsl (List.map eColor q.pix)]], [])
noncomputable def spec_SurfaceOk_v (q : (TSurface)) (r : (Bool)) : AV × List Ob := (AV.bool r, [])
noncomputable def spec_SurfaceOk_x : List AV → List Ob → Option (AV × List Ob) := xOf spec_SurfaceOk_e (fun q => spec_SurfaceOk q) spec_SurfaceOk_v
theorem spec_SurfaceOk_i : ∀ a b, spec_SurfaceOk_e a = spec_SurfaceOk_e b → a = b := by rintro ⟨x0, x1, x2⟩ ⟨y0, y1, y2⟩ h; simp [spec_SurfaceOk_e] at h; simp [h]
@[simp] theorem spec_SurfaceOk_k (z0 : Int) (z1 : Int) (z2 : List TColor) : spec_SurfaceOk_x [AV.agg [AV.int .i64 z0, AV.int .i64 z1, AV.fsl (List.map eColor z2)]] [] = mapR (spec_SurfaceOk ⟨z0, z1, z2⟩) (fun r => (AV.bool r, [])) :=
  xOf_eq spec_SurfaceOk_i ⟨z0, z1, z2⟩
/-! spec_Clamp: function 194 -/
noncomputable def spec_Clamp (a0 : Int) (a1 : Int) (a2 : Int) : Option ((Int)) :=
  cnd (ile a1 a0) (
   cnd (ile a0 a2) (
    some a0) (
    some a2)) (
   some a1)
noncomputable def spec_Clamp_e (q : (Int) × (Int) × (Int)) : List AV × List Ob := ([AV.int .i64 q.1, AV.int .i64 q.2.1, AV.int .i64 q.2.2], [])
noncomputable def spec_Clamp_v (q : (Int) × (Int) × (Int)) (r : (Int)) : AV × List Ob := (AV.int .i64 r, [])
noncomputable def spec_Clamp_x : List AV → List Ob → Option (AV × List Ob) := xOf spec_Clamp_e (fun q => spec_Clamp q.1 q.2.1 q.2.2) spec_Clamp_v
theorem spec_Clamp_i : ∀ a b, spec_Clamp_e a = spec_Clamp_e b → a = b := by rintro ⟨x0, x1, x2⟩ ⟨y0, y1, y2⟩ h; simp [spec_Clamp_e] at h; simp [h]
@[simp] theorem spec_Clamp_k (z0 : Int) (z1 : Int) (z2 : Int) : spec_Clamp_x [AV.int .i64 z0, AV.int .i64 z1, AV.int .i64 z2] [] = mapR (spec_Clamp z0 z1 z2) (fun r => (AV.int .i64 r, [])) :=
  xOf_eq spec_Clamp_i (z0, z1, z2)
/-! spec_FloorDiv: function 195 -/
noncomputable def spec_FloorDiv (a0 : Int) (a1 : Int) : Option ((Int)) :=
  cnd (ile 1 a1) (
   chkP (¬ a1 = 0) (
   cnd (ile 0 (Int.tmod a0 a1)) (
    some (IntKind.i64.wrap (Int.tdiv a0 a1))) (
    some (IntKind.i64.wrap ((IntKind.i64.wrap (Int.tdiv a0 a1)) - 1))))) (
   some 0)
noncomputable def spec_FloorDiv_e (q : (Int) × (Int)) : List AV × List Ob := ([AV.int .i64 q.1, AV.int .i64 q.2], [])
noncomputable def spec_FloorDiv_v (q : (Int) × (Int)) (r : (Int)) : AV × List Ob := (AV.int .i64 r, [])
noncomputable def spec_FloorDiv_x : List AV → List Ob → Option (AV × List Ob) := xOf spec_FloorDiv_e (fun q => spec_FloorDiv q.1 q.2) spec_FloorDiv_v
theorem spec_FloorDiv_i : ∀ a b, spec_FloorDiv_e a = spec_FloorDiv_e b → a = b := by rintro ⟨x0, x1⟩ ⟨y0, y1⟩ h; simp [spec_FloorDiv_e] at h; simp [h]
@[simp] theorem spec_FloorDiv_k (z0 : Int) (z1 : Int) : spec_FloorDiv_x [AV.int .i64 z0, AV.int .i64 z1] [] = mapR (spec_FloorDiv z0 z1) (fun r => (AV.int .i64 r, [])) :=
  xOf_eq spec_FloorDiv_i (z0, z1)
/-! spec_RoundDiv: function 124 -/
noncomputable def spec_RoundDiv (a0 : Int) (a1 : Int) : Option ((Int)) :=
  cnd (ile 1 a1) (
   bnd (spec_FloorDiv a0 a1) fun v1 =>
   cnd (ile (IntKind.i64.wrap (a1 - (IntKind.i64.wrap (a0 - (IntKind.i64.wrap (v1 * a1)))))) (IntKind.i64.wrap (a0 - (IntKind.i64.wrap (v1 * a1))))) (
    some (IntKind.i64.wrap (v1 + 1))) (
    some v1)) (
   some 0)
noncomputable def spec_RoundDiv_e (q : (Int) × (Int)) : List AV × List Ob := ([AV.int .i64 q.1, AV.int .i64 q.2], [])
noncomputable def spec_RoundDiv_v (q : (Int) × (Int)) (r : (Int)) : AV × List Ob := (AV.int .i64 r, [])
noncomputable def spec_RoundDiv_x : List AV → List Ob → Option (AV × List Ob) := xOf spec_RoundDiv_e (fun q => spec_RoundDiv q.1 q.2) spec_RoundDiv_v
theorem spec_RoundDiv_i : ∀ a b, spec_RoundDiv_e a = spec_RoundDiv_e b → a = b := by rintro ⟨x0, x1⟩ ⟨y0, y1⟩ h; simp [spec_RoundDiv_e] at h; simp [h]
@[simp] theorem spec_RoundDiv_k (z0 : Int) (z1 : Int) : spec_RoundDiv_x [AV.int .i64 z0, AV.int .i64 z1] [] = mapR (spec_RoundDiv z0 z1) (fun r => (AV.int .i64 r, [])) :=
  xOf_eq spec_RoundDiv_i (z0, z1)
/-! spec_Times255: function 123 -/
noncomputable def spec_Times255 (a0 : Int) (a1 : Int) : Option ((Int)) :=
  bnd (spec_Clamp a0 0 255) fun v1 =>
  bnd (spec_Clamp a1 0 255) fun v2 =>
  bnd (spec_RoundDiv (IntKind.i64.wrap (v1 * v2)) 255) fun v3 =>
  some v3
noncomputable def spec_Times255_e (q : (Int) × (Int)) : List AV × List Ob := ([AV.int .i64 q.1, AV.int .i64 q.2], [])
noncomputable def spec_Times255_v (q : (Int) × (Int)) (r : (Int)) : AV × List Ob := (AV.int .i64 r, [])
noncomputable def spec_Times255_x : List AV → List Ob → Option (AV × List Ob) := xOf spec_Times255_e (fun q => spec_Times255 q.1 q.2) spec_Times255_v
theorem spec_Times255_i : ∀ a b, spec_Times255_e a = spec_Times255_e b → a = b := by rintro ⟨x0, x1⟩ ⟨y0, y1⟩ h; simp [spec_Times255_e] at h; simp [h]
@[simp] theorem spec_Times255_k (z0 : Int) (z1 : Int) : spec_Times255_x [AV.int .i64 z0, AV.int .i64 z1] [] = mapR (spec_Times255 z0 z1) (fun r => (AV.int .i64 r, [])) :=
  xOf_eq spec_Times255_i (z0, z1)
/-! spec_Fade: function 43 -/
noncomputable def spec_Fade (a0 : TColor) (a1 : Int) : Option ((TColor)) :=
  bnd (spec_LaidOk a0) fun v1 =>
  cnd v1 (
   bnd (spec_l01In a1 0 255) fun v2 =>
   cnd v2 (
    bnd (spec_Times255 a0.r a1) fun v3 =>
    bnd (spec_Times255 a0.g a1) fun v4 =>
    bnd (spec_Times255 a0.b a1) fun v5 =>
    bnd (spec_Times255 a0.a a1) fun v6 =>
    some (TColor.mk v3 v4 v5 v6)) (
    some (TColor.mk 0 0 0 0))) (
   some (TColor.mk 0 0 0 0))
noncomputable def spec_Fade_e (q : (TColor) × (Int)) : List AV × List Ob := ([AV.agg [AV.int .i64 q.1.r, AV.int .i64 q.1.g, AV.int .i64 q.1.b, AV.int .i64 q.1.a], AV.int .i64 q.2], [])
noncomputable def spec_Fade_v (q : (TColor) × (Int)) (r : (TColor)) : AV × List Ob := (AV.agg [AV.int .i64 r.r, AV.int .i64 r.g, AV.int .i64 r.b, AV.int .i64 r.a], [])
noncomputable def spec_Fade_x : List AV → List Ob → Option (AV × List Ob) := xOf spec_Fade_e (fun q => spec_Fade q.1 q.2) spec_Fade_v
theorem spec_Fade_i : ∀ a b, spec_Fade_e a = spec_Fade_e b → a = b := by rintro ⟨⟨x0, x1, x2, x3⟩, x4⟩ ⟨⟨y0, y1, y2, y3⟩, y4⟩ h; simp [spec_Fade_e] at h; simp [h]
@[simp] theorem spec_Fade_k (z0 : Int) (z1 : Int) (z2 : Int) (z3 : Int) (z4 : Int) : spec_Fade_x [AV.agg [AV.int .i64 z0, AV.int .i64 z1, AV.int .i64 z2, AV.int .i64 z3], AV.int .i64 z4] [] = mapR (spec_Fade ⟨z0, z1, z2, z3⟩ z4) (fun r => (AV.agg [AV.int .i64 r.r, AV.int .i64 r.g, AV.int .i64 r.b, AV.int .i64 r.a], [])) :=
  xOf_eq spec_Fade_i (⟨z0, z1, z2, z3⟩, z4)
/-! spec_l13Part: function 122 -/
noncomputable def spec_l13Part (a0 : Int) (a1 : Int) (a2 : Int) (a3 : Int) (a4 : Int) : Option ((Int)) :=
  cnd (ieq a0 1) (
   bnd (spec_Times255 a2 (IntKind.i64.wrap (255 - a3))) fun v1 =>
   cnd (ile (IntKind.i64.wrap (a1 + v1)) 255) (
    some (IntKind.i64.wrap (a1 + v1))) (
    some 255)) (
   cnd (ieq a0 2) (
    bnd (spec_RoundDiv (IntKind.i64.wrap ((IntKind.i64.wrap ((IntKind.i64.wrap (a1 * a2)) + (IntKind.i64.wrap (a1 * (IntKind.i64.wrap (255 - a4)))))) + (IntKind.i64.wrap (a2 * (IntKind.i64.wrap (255 - a3)))))) 255) fun v2 =>
    cnd (ile v2 255) (
     some v2) (
     some 255)) (
    cnd (ieq a0 3) (
     bnd (spec_RoundDiv (IntKind.i64.wrap (a1 * a2)) 255) fun v3 =>
     cnd (ile (IntKind.i64.wrap ((IntKind.i64.wrap (a1 + a2)) - v3)) 255) (
      some (IntKind.i64.wrap ((IntKind.i64.wrap (a1 + a2)) - v3))) (
      some 255)) (
     cnd (ieq a0 4) (
      cnd (ile (IntKind.i64.wrap (a1 + a2)) 255) (
       some (IntKind.i64.wrap (a1 + a2))) (
       some 255)) (
      cnd (ieq a0 5) (
       bnd (spec_Times255 a2 (IntKind.i64.wrap (255 - a3))) fun v4 =>
       cnd (ile v4 255) (
        some v4) (
        some 255)) (
       cnd (ile a2 255) (
        some a2) (
        some 255))))))
noncomputable def spec_l13Part_e (q : (Int) × (Int) × (Int) × (Int) × (Int)) : List AV × List Ob := ([AV.int .i64 q.1, AV.int .i64 q.2.1, AV.int .i64 q.2.2.1, AV.int .i64 q.2.2.2.1, AV.int .i64 q.2.2.2.2], [])
noncomputable def spec_l13Part_v (q : (Int) × (Int) × (Int) × (Int) × (Int)) (r : (Int)) : AV × List Ob := (AV.int .i64 r, [])
noncomputable def spec_l13Part_x : List AV → List Ob → Option (AV × List Ob) := xOf spec_l13Part_e (fun q => spec_l13Part q.1 q.2.1 q.2.2.1 q.2.2.2.1 q.2.2.2.2) spec_l13Part_v
theorem spec_l13Part_i : ∀ a b, spec_l13Part_e a = spec_l13Part_e b → a = b := by rintro ⟨x0, x1, x2, x3, x4⟩ ⟨y0, y1, y2, y3, y4⟩ h; simp [spec_l13Part_e] at h; simp [h]
@[simp] theorem spec_l13Part_k (z0 : Int) (z1 : Int) (z2 : Int) (z3 : Int) (z4 : Int) : spec_l13Part_x [AV.int .i64 z0, AV.int .i64 z1, AV.int .i64 z2, AV.int .i64 z3, AV.int .i64 z4] [] = mapR (spec_l13Part z0 z1 z2 z3 z4) (fun r => (AV.int .i64 r, [])) :=
  xOf_eq spec_l13Part_i (z0, z1, z2, z3, z4)
/-! spec_Blend: function 42 -/
noncomputable def spec_Blend (a0 : Int) (a1 : TColor) (a2 : TColor) : Option ((TColor)) :=
  bnd (spec_LaidOk a1) fun v1 =>
  cnd v1 (
   bnd (spec_LaidOk a2) fun v2 =>
   cnd v2 (
    bnd (spec_l13Part a0 a1.r a2.r a1.a a2.a) fun v3 =>
    bnd (spec_l13Part a0 a1.g a2.g a1.a a2.a) fun v4 =>
    bnd (spec_l13Part a0 a1.b a2.b a1.a a2.a) fun v5 =>
    bnd (spec_l13Part a0 a1.a a2.a a1.a a2.a) fun v6 =>
    some (TColor.mk v3 v4 v5 v6)) (
    some a2)) (
   some a2)
noncomputable def spec_Blend_e (q : (Int) × (TColor) × (TColor)) : List AV × List Ob := ([AV.int .i64 q.1, AV.agg [AV.int .i64 q.2.1.r, AV.int .i64 q.2.1.g, AV.int .i64 q.2.1.b, AV.int .i64 q.2.1.a], AV.agg [AV.int .i64 q.2.2.r, AV.int .i64 q.2.2.g, AV.int .i64 q.2.2.b, AV.int .i64 q.2.2.a]], [])
noncomputable def spec_Blend_v (q : (Int) × (TColor) × (TColor)) (r : (TColor)) : AV × List Ob := (AV.agg [AV.int .i64 r.r, AV.int .i64 r.g, AV.int .i64 r.b, AV.int .i64 r.a], [])
noncomputable def spec_Blend_x : List AV → List Ob → Option (AV × List Ob) := xOf spec_Blend_e (fun q => spec_Blend q.1 q.2.1 q.2.2) spec_Blend_v
theorem spec_Blend_i : ∀ a b, spec_Blend_e a = spec_Blend_e b → a = b := by rintro ⟨x0, ⟨x1, x2, x3, x4⟩, ⟨x5, x6, x7, x8⟩⟩ ⟨y0, ⟨y1, y2, y3, y4⟩, ⟨y5, y6, y7, y8⟩⟩ h; simp [spec_Blend_e] at h; simp [h]
@[simp] theorem spec_Blend_k (z0 : Int) (z1 : Int) (z2 : Int) (z3 : Int) (z4 : Int) (z5 : Int) (z6 : Int) (z7 : Int) (z8 : Int) : spec_Blend_x [AV.int .i64 z0, AV.agg [AV.int .i64 z1, AV.int .i64 z2, AV.int .i64 z3, AV.int .i64 z4], AV.agg [AV.int .i64 z5, AV.int .i64 z6, AV.int .i64 z7, AV.int .i64 z8]] [] = mapR (spec_Blend z0 ⟨z1, z2, z3, z4⟩ ⟨z5, z6, z7, z8⟩) (fun r => (AV.agg [AV.int .i64 r.r, AV.int .i64 r.g, AV.int .i64 r.b, AV.int .i64 r.a], [])) :=
  xOf_eq spec_Blend_i (z0, ⟨z1, z2, z3, z4⟩, ⟨z5, z6, z7, z8⟩)
/-! spec_LayOver: function 36 -/
noncomputable def spec_LayOver_l0 (a0 : TSurface) (a1 : TSurface) (a2 : Int) (a3 : Int) (w2 : Int) (w3 : Int) : ((Int) × (List TColor)) → Option (((Int) × (List TColor)) ⊕ ((List TColor))) := fun (x13, x14) =>
  cnd (ile (List.length a0.pix : Int) x13) (
   some (.inr x14)) (
   bnd (idx a1.pix x13) fun v15 =>
   bnd (spec_Fade v15 a3) fun v16 =>
   bnd (idx a0.pix x13) fun v17 =>
   bnd (spec_Blend a2 v16 v17) fun v18 =>
   bnd (idx x14 x13) fun v19 =>
   nam ((List.set x14 (Int.toNat x13) v18) : List TColor) fun l20 =>
   some (.inl ((IntKind.i64.wrap (x13 + 1)), l20)))
noncomputable def spec_LayOver_l0_S (a0 : TSurface) (a1 : TSurface) (a2 : Int) (a3 : Int) (w2 : Int) (w3 : Int) : ((Int) × (List TColor)) → St := fun (x13, x14) => ⟨[(2, AV.int .i64 a2), (3, AV.int .i64 a3), (4, AV.optr 0 0 3), (5, AV.optr 1 0 3), (8, AV.optr 2 0 3), (9, AV.optr 3 0 3), (10, AV.int .i64 x13)], [(0, Ob.box [AV.int .i64 a0.w, AV.int .i64 a0.h, AV.fsl (List.map eColor a0.pix)]), (1, Ob.box [AV.int .i64 a1.w, AV.int .i64 a1.h, AV.fsl (List.map eColor a1.pix)]), (2, Ob.box [AV.int .i64 0, AV.int .i64 0, AV.nilsl]), (3, Ob.box [AV.int .i64 w2, AV.int .i64 w3, AV.osl 4 0 (List.length x14) (List.length x14)]), (4, Ob.arr 4 (List.map eColor x14) false)], 5⟩
noncomputable def spec_LayOver_l0_X (a0 : TSurface) (a1 : TSurface) (a2 : Int) (a3 : Int) (w2 : Int) (w3 : Int) : ((List TColor)) → Ex × St := fun y21 => ((.exit 0), ⟨[(8, AV.optr 0 0 3), (9, AV.optr 1 0 3)], [(0, Ob.box [AV.int .i64 0, AV.int .i64 0, AV.nilsl]), (1, Ob.box [AV.int .i64 w2, AV.int .i64 w3, AV.osl 2 0 (List.length y21) (List.length y21)]), (2, Ob.arr 4 (List.map eColor y21) false)], 3⟩)
noncomputable def spec_LayOver (a0 : TSurface) (a1 : TSurface) (a2 : Int) (a3 : Int) : Option ((TSurface)) :=
  bnd (spec_l14Copy a0) fun (w2, w3, w4) =>
  bnd (spec_SurfaceOk a0) fun v5 =>
  cnd v5 (
   bnd (spec_SurfaceOk a1) fun v6 =>
   cnd v6 (
    cnd (ieq a0.w a1.w) (
     cnd (ieq a0.h a1.h) (
      bnd (loopI (spec_LayOver_l0 a0 a1 a2 a3 w2 w3) (0, w4)) fun y21 =>
      some (TSurface.mk w2 w3 y21)) (
      some (TSurface.mk w2 w3 w4))) (
     some (TSurface.mk w2 w3 w4))) (
    some (TSurface.mk w2 w3 w4))) (
   some (TSurface.mk w2 w3 w4))
noncomputable def spec_LayOver_e (q : (TSurface) × (TSurface) × (Int) × (Int)) : List AV × List Ob := ([AV.agg [AV.int .i64 q.1.w, AV.int .i64 q.1.h, AV.fsl (List.map eColor q.1.pix)], AV.agg [AV.int .i64 q.2.1.w, AV.int .i64 q.2.1.h, AV.fsl (List.map eColor q.2.1.pix)], AV.int .i64 q.2.2.1, AV.int .i64 q.2.2.2], [])
noncomputable def spec_LayOver_v (q : (TSurface) × (TSurface) × (Int) × (Int)) (r : (TSurface)) : AV × List Ob := (AV.agg [AV.int .i64 r.w, AV.int .i64 r.h, AV.fsl (List.map eColor r.pix)], [])
noncomputable def spec_LayOver_x : List AV → List Ob → Option (AV × List Ob) := xOf spec_LayOver_e (fun q => spec_LayOver q.1 q.2.1 q.2.2.1 q.2.2.2) spec_LayOver_v
theorem spec_LayOver_i : ∀ a b, spec_LayOver_e a = spec_LayOver_e b → a = b := by rintro ⟨⟨x0, x1, x2⟩, ⟨x3, x4, x5⟩, x6, x7⟩ ⟨⟨y0, y1, y2⟩, ⟨y3, y4, y5⟩, y6, y7⟩ h; simp [spec_LayOver_e] at h; simp [h]
@[simp] theorem spec_LayOver_k (z0 : Int) (z1 : Int) (z2 : List TColor) (z3 : Int) (z4 : Int) (z5 : List TColor) (z6 : Int) (z7 : Int) : spec_LayOver_x [AV.agg [AV.int .i64 z0, AV.int .i64 z1, AV.fsl (List.map eColor z2)], AV.agg [AV.int .i64 z3, AV.int .i64 z4, AV.fsl (List.map eColor z5)], AV.int .i64 z6, AV.int .i64 z7] [] = mapR (spec_LayOver ⟨z0, z1, z2⟩ ⟨z3, z4, z5⟩ z6 z7) (fun r => (AV.agg [AV.int .i64 r.w, AV.int .i64 r.h, AV.fsl (List.map eColor r.pix)], [])) :=
  xOf_eq spec_LayOver_i (⟨z0, z1, z2⟩, ⟨z3, z4, z5⟩, z6, z7)
/-! slices_Clone_Color: function 172 -/
noncomputable def slices_Clone_Color (a0 : List TColor) : Option ((List TColor)) :=
  chkP (List.length a0 * 32 ≤ 17592186044416) (
  some a0)
noncomputable def slices_Clone_Color_e (q : (List TColor)) : List AV × List Ob := ([AV.fsl (List.map eColor q)], [])
noncomputable def slices_Clone_Color_v (q : (List TColor)) (r : (List TColor)) : AV × List Ob := (AV.osl 0 0 (List.length r) (List.length r), [Ob.arr 4 (List.map eColor r) false])
noncomputable def slices_Clone_Color_x : List AV → List Ob → Option (AV × List Ob) := xOf slices_Clone_Color_e (fun q => slices_Clone_Color q) slices_Clone_Color_v
theorem slices_Clone_Color_i : ∀ a b, slices_Clone_Color_e a = slices_Clone_Color_e b → a = b := by rintro x0 y0 h; simp [slices_Clone_Color_e] at h; simp [h]
@[simp] theorem slices_Clone_Color_k (z0 : List TColor) : slices_Clone_Color_x [AV.fsl (List.map eColor z0)] [] = mapR (slices_Clone_Color z0) (fun r => (AV.osl 0 0 (List.length r) (List.length r), [Ob.arr 4 (List.map eColor r) false])) :=
  xOf_eq slices_Clone_Color_i z0
/-! impl_copySurface: function 103 -/
noncomputable def impl_copySurface (a0 : TSurface) : Option ((Int) × (Int) × (List TColor)) :=
  bnd (slices_Clone_Color a0.pix) fun v1 =>
  some (a0.w, a0.h, v1)
noncomputable def impl_copySurface_e (q : (TSurface)) : List AV × List Ob := ([AV.agg [AV.int .i64 q.w, AV.int .i64 q.h, AV.fsl (List.map eColor q.pix)]], [])
noncomputable def impl_copySurface_v (q : (TSurface)) (r : (Int) × (Int) × (List TColor)) : AV × List Ob := (AV.agg [AV.int .i64 r.1, AV.int .i64 r.2.1, AV.osl 0 0 (List.length r.2.2) (List.length r.2.2)], [Ob.arr 4 (List.map eColor r.2.2) false])
noncomputable def impl_copySurface_x : List AV → List Ob → Option (AV × List Ob) := xOf impl_copySurface_e (fun q => impl_copySurface q) impl_copySurface_v
theorem impl_copySurface_i : ∀ a b, impl_copySurface_e a = impl_copySurface_e b → a = b := by rintro ⟨x0, x1, x2⟩ ⟨y0, y1, y2⟩ h; simp [impl_copySurface_e] at h; simp [h]
@[simp] theorem impl_copySurface_k (z0 : Int) (z1 : Int) (z2 : List TColor) : impl_copySurface_x [AV.agg [AV.int .i64 z0, AV.int .i64 z1, AV.fsl (List.map eColor z2)]] [] = mapR (impl_copySurface ⟨z0, z1, z2⟩) (fun r => (AV.agg [AV.int .i64 r.1, AV.int .i64 r.2.1, AV.osl 0 0 (List.length r.2.2) (List.length r.2.2)], [Ob.arr 4 (List.map eColor r.2.2) false])) :=
  xOf_eq impl_copySurface_i ⟨z0, z1, z2⟩
/-! impl_inRange: function 76 -/
noncomputable def impl_inRange (a0 : Int) (a1 : Int) (a2 : Int) : Option ((Bool)) :=
  cnd (ile a1 a0) (
   some (ile a0 a2)) (
   some false)
noncomputable def impl_inRange_e (q : (Int) × (Int) × (Int)) : List AV × List Ob := ([AV.int .i64 q.1, AV.int .i64 q.2.1, AV.int .i64 q.2.2], [])
noncomputable def impl_inRange_v (q : (Int) × (Int) × (Int)) (r : (Bool)) : AV × List Ob := (AV.bool r, [])
noncomputable def impl_inRange_x : List AV → List Ob → Option (AV × List Ob) := xOf impl_inRange_e (fun q => impl_inRange q.1 q.2.1 q.2.2) impl_inRange_v
theorem impl_inRange_i : ∀ a b, impl_inRange_e a = impl_inRange_e b → a = b := by rintro ⟨x0, x1, x2⟩ ⟨y0, y1, y2⟩ h; simp [impl_inRange_e] at h; simp [h]
@[simp] theorem impl_inRange_k (z0 : Int) (z1 : Int) (z2 : Int) : impl_inRange_x [AV.int .i64 z0, AV.int .i64 z1, AV.int .i64 z2] [] = mapR (impl_inRange z0 z1 z2) (fun r => (AV.bool r, [])) :=
  xOf_eq impl_inRange_i (z0, z1, z2)
/-! impl_isSide: function 102 -/
noncomputable def impl_isSide (a0 : Int) : Option ((Bool)) :=
  bnd (impl_inRange a0 1 12) fun v1 =>
  some v1
noncomputable def impl_isSide_e (q : (Int)) : List AV × List Ob := ([AV.int .i64 q], [])
noncomputable def impl_isSide_v (q : (Int)) (r : (Bool)) : AV × List Ob := (AV.bool r, [])
noncomputable def impl_isSide_x : List AV → List Ob → Option (AV × List Ob) := xOf impl_isSide_e (fun q => impl_isSide q) impl_isSide_v
theorem impl_isSide_i : ∀ a b, impl_isSide_e a = impl_isSide_e b → a = b := by rintro x0 y0 h; simp [impl_isSide_e] at h; simp [h]
@[simp] theorem impl_isSide_k (z0 : Int) : impl_isSide_x [AV.int .i64 z0] [] = mapR (impl_isSide z0) (fun r => (AV.bool r, [])) :=
  xOf_eq impl_isSide_i z0
/-! impl_isByte: function 178 -/
noncomputable def impl_isByte (a0 : Int) : Option ((Bool)) :=
  bnd (impl_inRange a0 0 255) fun v1 =>
  some v1
noncomputable def impl_isByte_e (q : (Int)) : List AV × List Ob := ([AV.int .i64 q], [])
noncomputable def impl_isByte_v (q : (Int)) (r : (Bool)) : AV × List Ob := (AV.bool r, [])
noncomputable def impl_isByte_x : List AV → List Ob → Option (AV × List Ob) := xOf impl_isByte_e (fun q => impl_isByte q) impl_isByte_v
theorem impl_isByte_i : ∀ a b, impl_isByte_e a = impl_isByte_e b → a = b := by rintro x0 y0 h; simp [impl_isByte_e] at h; simp [h]
@[simp] theorem impl_isByte_k (z0 : Int) : impl_isByte_x [AV.int .i64 z0] [] = mapR (impl_isByte z0) (fun r => (AV.bool r, [])) :=
  xOf_eq impl_isByte_i z0
/-! impl_ColorOk: function 180 -/
noncomputable def impl_ColorOk (a0 : TColor) : Option ((Bool)) :=
  bnd (impl_isByte a0.r) fun v1 =>
  cnd v1 (
   bnd (impl_isByte a0.g) fun v2 =>
   cnd v2 (
    bnd (impl_isByte a0.b) fun v3 =>
    cnd v3 (
     bnd (impl_isByte a0.a) fun v4 =>
     some v4) (
     some false)) (
    some false)) (
   some false)
noncomputable def impl_ColorOk_e (q : (TColor)) : List AV × List Ob := ([AV.agg [AV.int .i64 q.r, AV.int .i64 q.g, AV.int .i64 q.b, AV.int .i64 q.a]], [])
noncomputable def impl_ColorOk_v (q : (TColor)) (r : (Bool)) : AV × List Ob := (AV.bool r, [])
noncomputable def impl_ColorOk_x : List AV → List Ob → Option (AV × List Ob) := xOf impl_ColorOk_e (fun q => impl_ColorOk q) impl_ColorOk_v
theorem impl_ColorOk_i : ∀ a b, impl_ColorOk_e a = impl_ColorOk_e b → a = b := by rintro ⟨x0, x1, x2, x3⟩ ⟨y0, y1, y2, y3⟩ h; simp [impl_ColorOk_e] at h; simp [h]
@[simp] theorem impl_ColorOk_k (z0 : Int) (z1 : Int) (z2 : Int) (z3 : Int) : impl_ColorOk_x [AV.agg [AV.int .i64 z0, AV.int .i64 z1, AV.int .i64 z2, AV.int .i64 z3]] [] = mapR (impl_ColorOk ⟨z0, z1, z2, z3⟩) (fun r => (AV.bool r, [])) :=
  xOf_eq impl_ColorOk_i ⟨z0, z1, z2, z3⟩
/-! impl_LaidOk: function 112 -/
noncomputable def impl_LaidOk (a0 : TColor) : Option ((Bool)) :=
  bnd (impl_ColorOk a0) fun v1 =>
  cnd v1 (
   cnd (ile a0.r a0.a) (
    cnd (ile a0.g a0.a) (
     some (ile a0.b a0.a)) (
     some false)) (
    some false)) (
   some false)
noncomputable def impl_LaidOk_e (q : (TColor)) : List AV × List Ob := ([AV.agg [AV.int .i64 q.r, AV.int .i64 q.g, AV.int .i64 q.b, AV.int .i64 q.a]], [])
noncomputable def impl_LaidOk_v (q : (TColor)) (r : (Bool)) : AV × List Ob := (AV.bool r, [])
noncomputable def impl_LaidOk_x : List AV → List Ob → Option (AV × List Ob) := xOf impl_LaidOk_e (fun q => impl_LaidOk q) impl_LaidOk_v
theorem impl_LaidOk_i : ∀ a b, impl_LaidOk_e a = impl_LaidOk_e b → a = b := by rintro ⟨x0, x1, x2, x3⟩ ⟨y0, y1, y2, y3⟩ h; simp [impl_LaidOk_e] at h; simp [h]
@[simp] theorem impl_LaidOk_k (z0 : Int) (z1 : Int) (z2 : Int) (z3 : Int) : impl_LaidOk_x [AV.agg [AV.int .i64 z0, AV.int .i64 z1, AV.int .i64 z2, AV.int .i64 z3]] [] = mapR (impl_LaidOk ⟨z0, z1, z2, z3⟩) (fun r => (AV.bool r, [])) :=
  xOf_eq impl_LaidOk_i ⟨z0, z1, z2, z3⟩
/-! impl_SurfaceOk: function 34 -/
noncomputable def impl_SurfaceOk_l0 (a0 : TSurface) : ((Int)) → Option (((Int)) ⊕ ((Unit) ⊕ (Unit))) := fun x5 =>
  cnd (ile (List.length a0.pix : Int) x5) (
   some (.inr (.inl ()))) (
   bnd (idx a0.pix x5) fun v6 =>
   bnd (impl_LaidOk v6) fun v7 =>
   cnd v7 (
    some (.inl (IntKind.i64.wrap (x5 + 1)))) (
    some (.inr (.inr ()))))
noncomputable def impl_SurfaceOk_l0_S (a0 : TSurface) : ((Int)) → St := fun x5 => ⟨[(27, AV.fsl (List.map eColor a0.pix)), (28, AV.int .i64 (List.length a0.pix : Int)), (29, AV.int .i64 x5)], [], 0⟩
noncomputable def impl_SurfaceOk_l0_X (a0 : TSurface) : ((Unit) ⊕ (Unit)) → Ex × St := fun q => match q with
  | .inl _ => ((.exit 0), ⟨[], [], 0⟩)
  | .inr _ => (.ret, ⟨[(2, AV.bool false)], [], 0⟩)
noncomputable def impl_SurfaceOk (a0 : TSurface) : Option ((Bool)) :=
  bnd (impl_isSide a0.w) fun v1 =>
  cnd v1 (
   bnd (impl_isSide a0.h) fun v2 =>
   cnd v2 (
    cnd (ieq (List.length a0.pix : Int) (IntKind.i64.wrap (a0.w * a0.h))) (
     bnd (loopI (impl_SurfaceOk_l0 a0) 0) fun q => match q with
     | .inl () =>
      some true
     | .inr () =>
      some false) (
     some false)) (
    some false)) (
   some false)
noncomputable def impl_SurfaceOk_e (q : (TSurface)) : List AV × List Ob := ([AV.agg [AV.int .i64 q.w, AV.int .i64 q.h, AV.fsl (List.map eColor q.pix)]], [])
noncomputable def impl_SurfaceOk_v (q : (TSurface)) (r : (Bool)) : AV × List Ob := (AV.bool r, [])
noncomputable def impl_SurfaceOk_x : List AV → List Ob → Option (AV × List Ob) := xOf impl_SurfaceOk_e (fun q => impl_SurfaceOk q) impl_SurfaceOk_v
theorem impl_SurfaceOk_i : ∀ a b, impl_SurfaceOk_e a = impl_SurfaceOk_e b → a = b := by rintro ⟨x0, x1, x2⟩ ⟨y0, y1, y2⟩ h; simp [impl_SurfaceOk_e] at h; simp [h]
@[simp] theorem impl_SurfaceOk_k (z0 : Int) (z1 : Int) (z2 : List TColor) : impl_SurfaceOk_x [AV.agg [AV.int .i64 z0, AV.int .i64 z1, AV.fsl (List.map eColor z2)]] [] = mapR (impl_SurfaceOk ⟨z0, z1, z2⟩) (fun r => (AV.bool r, [])) :=
  xOf_eq impl_SurfaceOk_i ⟨z0, z1, z2⟩
/-! impl_Surface_box: function 105 -/
noncomputable def impl_Surface_box (a0 : TSurface) : Option ((TBox)) :=
  some (TBox.mk 0 0 a0.w a0.h)
noncomputable def impl_Surface_box_e (q : (TSurface)) : List AV × List Ob := ([AV.fptr [AV.int .i64 q.w, AV.int .i64 q.h, AV.fsl (List.map eColor q.pix)] 0], [])
noncomputable def impl_Surface_box_v (q : (TSurface)) (r : (TBox)) : AV × List Ob := (AV.agg [AV.int .i64 r.x0, AV.int .i64 r.y0, AV.int .i64 r.x1, AV.int .i64 r.y1], [])
noncomputable def impl_Surface_box_x : List AV → List Ob → Option (AV × List Ob) := xOf impl_Surface_box_e (fun q => impl_Surface_box q) impl_Surface_box_v
theorem impl_Surface_box_i : ∀ a b, impl_Surface_box_e a = impl_Surface_box_e b → a = b := by rintro ⟨x0, x1, x2⟩ ⟨y0, y1, y2⟩ h; simp [impl_Surface_box_e] at h; simp [h]
@[simp] theorem impl_Surface_box_k (z0 : Int) (z1 : Int) (z2 : List TColor) : impl_Surface_box_x [AV.fptr [AV.int .i64 z0, AV.int .i64 z1, AV.fsl (List.map eColor z2)] 0] [] = mapR (impl_Surface_box ⟨z0, z1, z2⟩) (fun r => (AV.agg [AV.int .i64 r.x0, AV.int .i64 r.y0, AV.int .i64 r.x1, AV.int .i64 r.y1], [])) :=
  xOf_eq impl_Surface_box_i ⟨z0, z1, z2⟩
/-! impl_Empty: function 158 -/
noncomputable def impl_Empty (a0 : TBox) : Option ((Bool)) :=
  cnd (ile a0.x1 a0.x0) (
   some true) (
   some (ile a0.y1 a0.y0))
noncomputable def impl_Empty_e (q : (TBox)) : List AV × List Ob := ([AV.agg [AV.int .i64 q.x0, AV.int .i64 q.y0, AV.int .i64 q.x1, AV.int .i64 q.y1]], [])
noncomputable def impl_Empty_v (q : (TBox)) (r : (Bool)) : AV × List Ob := (AV.bool r, [])
noncomputable def impl_Empty_x : List AV → List Ob → Option (AV × List Ob) := xOf impl_Empty_e (fun q => impl_Empty q) impl_Empty_v
theorem impl_Empty_i : ∀ a b, impl_Empty_e a = impl_Empty_e b → a = b := by rintro ⟨x0, x1, x2, x3⟩ ⟨y0, y1, y2, y3⟩ h; simp [impl_Empty_e] at h; simp [h]
@[simp] theorem impl_Empty_k (z0 : Int) (z1 : Int) (z2 : Int) (z3 : Int) : impl_Empty_x [AV.agg [AV.int .i64 z0, AV.int .i64 z1, AV.int .i64 z2, AV.int .i64 z3]] [] = mapR (impl_Empty ⟨z0, z1, z2, z3⟩) (fun r => (AV.bool r, [])) :=
  xOf_eq impl_Empty_i ⟨z0, z1, z2, z3⟩
/-! impl_MeetBox: function 157 -/
noncomputable def impl_MeetBox (a0 : TBox) (a1 : TBox) : Option ((TBox)) :=
  bnd (impl_Empty (TBox.mk (max a0.x0 a1.x0) (max a0.y0 a1.y0) (min a0.x1 a1.x1) (min a0.y1 a1.y1))) fun v1 =>
  cnd v1 (
   some (TBox.mk 0 0 0 0)) (
   some (TBox.mk (max a0.x0 a1.x0) (max a0.y0 a1.y0) (min a0.x1 a1.x1) (min a0.y1 a1.y1)))
noncomputable def impl_MeetBox_e (q : (TBox) × (TBox)) : List AV × List Ob := ([AV.agg [AV.int .i64 q.1.x0, AV.int .i64 q.1.y0, AV.int .i64 q.1.x1, AV.int .i64 q.1.y1], AV.agg [AV.int .i64 q.2.x0, AV.int .i64 q.2.y0, AV.int .i64 q.2.x1, AV.int .i64 q.2.y1]], [])
noncomputable def impl_MeetBox_v (q : (TBox) × (TBox)) (r : (TBox)) : AV × List Ob := (AV.agg [AV.int .i64 r.x0, AV.int .i64 r.y0, AV.int .i64 r.x1, AV.int .i64 r.y1], [])
noncomputable def impl_MeetBox_x : List AV → List Ob → Option (AV × List Ob) := xOf impl_MeetBox_e (fun q => impl_MeetBox q.1 q.2) impl_MeetBox_v
theorem impl_MeetBox_i : ∀ a b, impl_MeetBox_e a = impl_MeetBox_e b → a = b := by rintro ⟨⟨x0, x1, x2, x3⟩, ⟨x4, x5, x6, x7⟩⟩ ⟨⟨y0, y1, y2, y3⟩, ⟨y4, y5, y6, y7⟩⟩ h; simp [impl_MeetBox_e] at h; simp [h]
@[simp] theorem impl_MeetBox_k (z0 : Int) (z1 : Int) (z2 : Int) (z3 : Int) (z4 : Int) (z5 : Int) (z6 : Int) (z7 : Int) : impl_MeetBox_x [AV.agg [AV.int .i64 z0, AV.int .i64 z1, AV.int .i64 z2, AV.int .i64 z3], AV.agg [AV.int .i64 z4, AV.int .i64 z5, AV.int .i64 z6, AV.int .i64 z7]] [] = mapR (impl_MeetBox ⟨z0, z1, z2, z3⟩ ⟨z4, z5, z6, z7⟩) (fun r => (AV.agg [AV.int .i64 r.x0, AV.int .i64 r.y0, AV.int .i64 r.x1, AV.int .i64 r.y1], [])) :=
  xOf_eq impl_MeetBox_i (⟨z0, z1, z2, z3⟩, ⟨z4, z5, z6, z7⟩)
/-! impl_Clamp: function 219 -/
noncomputable def impl_Clamp (a0 : Int) (a1 : Int) (a2 : Int) : Option ((Int)) :=
  cnd (ile a1 a0) (
   cnd (ile a0 a2) (
    some a0) (
    some a2)) (
   some a1)
noncomputable def impl_Clamp_e (q : (Int) × (Int) × (Int)) : List AV × List Ob := ([AV.int .i64 q.1, AV.int .i64 q.2.1, AV.int .i64 q.2.2], [])
noncomputable def impl_Clamp_v (q : (Int) × (Int) × (Int)) (r : (Int)) : AV × List Ob := (AV.int .i64 r, [])
noncomputable def impl_Clamp_x : List AV → List Ob → Option (AV × List Ob) := xOf impl_Clamp_e (fun q => impl_Clamp q.1 q.2.1 q.2.2) impl_Clamp_v
theorem impl_Clamp_i : ∀ a b, impl_Clamp_e a = impl_Clamp_e b → a = b := by rintro ⟨x0, x1, x2⟩ ⟨y0, y1, y2⟩ h; simp [impl_Clamp_e] at h; simp [h]
@[simp] theorem impl_Clamp_k (z0 : Int) (z1 : Int) (z2 : Int) : impl_Clamp_x [AV.int .i64 z0, AV.int .i64 z1, AV.int .i64 z2] [] = mapR (impl_Clamp z0 z1 z2) (fun r => (AV.int .i64 r, [])) :=
  xOf_eq impl_Clamp_i (z0, z1, z2)
/-! impl_FloorDiv: function 220 -/
noncomputable def impl_FloorDiv (a0 : Int) (a1 : Int) : Option ((Int)) :=
  cnd (ile 1 a1) (
   chkP (¬ a1 = 0) (
   cnd (ile 0 (Int.tmod a0 a1)) (
    some (IntKind.i64.wrap (Int.tdiv a0 a1))) (
    some (IntKind.i64.wrap ((IntKind.i64.wrap (Int.tdiv a0 a1)) - 1))))) (
   some 0)
noncomputable def impl_FloorDiv_e (q : (Int) × (Int)) : List AV × List Ob := ([AV.int .i64 q.1, AV.int .i64 q.2], [])
noncomputable def impl_FloorDiv_v (q : (Int) × (Int)) (r : (Int)) : AV × List Ob := (AV.int .i64 r, [])
noncomputable def impl_FloorDiv_x : List AV → List Ob → Option (AV × List Ob) := xOf impl_FloorDiv_e (fun q => impl_FloorDiv q.1 q.2) impl_FloorDiv_v
theorem impl_FloorDiv_i : ∀ a b, impl_FloorDiv_e a = impl_FloorDiv_e b → a = b := by rintro ⟨x0, x1⟩ ⟨y0, y1⟩ h; simp [impl_FloorDiv_e] at h; simp [h]
@[simp] theorem impl_FloorDiv_k (z0 : Int) (z1 : Int) : impl_FloorDiv_x [AV.int .i64 z0, AV.int .i64 z1] [] = mapR (impl_FloorDiv z0 z1) (fun r => (AV.int .i64 r, [])) :=
  xOf_eq impl_FloorDiv_i (z0, z1)
/-! impl_RoundDiv: function 177 -/
noncomputable def impl_RoundDiv (a0 : Int) (a1 : Int) : Option ((Int)) :=
  cnd (ile 1 a1) (
   bnd (impl_FloorDiv a0 a1) fun v1 =>
   cnd (ile (IntKind.i64.wrap (a1 - (IntKind.i64.wrap (a0 - (IntKind.i64.wrap (v1 * a1)))))) (IntKind.i64.wrap (a0 - (IntKind.i64.wrap (v1 * a1))))) (
    some (IntKind.i64.wrap (v1 + 1))) (
    some v1)) (
   some 0)
noncomputable def impl_RoundDiv_e (q : (Int) × (Int)) : List AV × List Ob := ([AV.int .i64 q.1, AV.int .i64 q.2], [])
noncomputable def impl_RoundDiv_v (q : (Int) × (Int)) (r : (Int)) : AV × List Ob := (AV.int .i64 r, [])
noncomputable def impl_RoundDiv_x : List AV → List Ob → Option (AV × List Ob) := xOf impl_RoundDiv_e (fun q => impl_RoundDiv q.1 q.2) impl_RoundDiv_v
theorem impl_RoundDiv_i : ∀ a b, impl_RoundDiv_e a = impl_RoundDiv_e b → a = b := by rintro ⟨x0, x1⟩ ⟨y0, y1⟩ h; simp [impl_RoundDiv_e] at h; simp [h]
@[simp] theorem impl_RoundDiv_k (z0 : Int) (z1 : Int) : impl_RoundDiv_x [AV.int .i64 z0, AV.int .i64 z1] [] = mapR (impl_RoundDiv z0 z1) (fun r => (AV.int .i64 r, [])) :=
  xOf_eq impl_RoundDiv_i (z0, z1)
/-! impl_Times255: function 176 -/
noncomputable def impl_Times255 (a0 : Int) (a1 : Int) : Option ((Int)) :=
  bnd (impl_Clamp a0 0 255) fun v1 =>
  bnd (impl_Clamp a1 0 255) fun v2 =>
  bnd (impl_RoundDiv (IntKind.i64.wrap (v1 * v2)) 255) fun v3 =>
  some v3
noncomputable def impl_Times255_e (q : (Int) × (Int)) : List AV × List Ob := ([AV.int .i64 q.1, AV.int .i64 q.2], [])
noncomputable def impl_Times255_v (q : (Int) × (Int)) (r : (Int)) : AV × List Ob := (AV.int .i64 r, [])
noncomputable def impl_Times255_x : List AV → List Ob → Option (AV × List Ob) := xOf impl_Times255_e (fun q => impl_Times255 q.1 q.2) impl_Times255_v
theorem impl_Times255_i : ∀ a b, impl_Times255_e a = impl_Times255_e b → a = b := by rintro ⟨x0, x1⟩ ⟨y0, y1⟩ h; simp [impl_Times255_e] at h; simp [h]
@[simp] theorem impl_Times255_k (z0 : Int) (z1 : Int) : impl_Times255_x [AV.int .i64 z0, AV.int .i64 z1] [] = mapR (impl_Times255 z0 z1) (fun r => (AV.int .i64 r, [])) :=
  xOf_eq impl_Times255_i (z0, z1)
/-! impl_Fade_1: function 179 -/
noncomputable def impl_Fade_1 (a0 : Int) (a1 : Int) (a2 : Int) : Option ((Int)) :=
  bnd (impl_Times255 a0 a2) fun v1 =>
  some v1
noncomputable def impl_Fade_1_e (q : (Int) × (Int) × (Int)) : List AV × List Ob := ([AV.int .i64 q.1, AV.int .i64 q.2.1, AV.fptr [AV.int .i64 q.2.2] 0], [])
noncomputable def impl_Fade_1_v (q : (Int) × (Int) × (Int)) (r : (Int)) : AV × List Ob := (AV.int .i64 r, [])
noncomputable def impl_Fade_1_x : List AV → List Ob → Option (AV × List Ob) := xOf impl_Fade_1_e (fun q => impl_Fade_1 q.1 q.2.1 q.2.2) impl_Fade_1_v
theorem impl_Fade_1_i : ∀ a b, impl_Fade_1_e a = impl_Fade_1_e b → a = b := by rintro ⟨x0, x1, x2⟩ ⟨y0, y1, y2⟩ h; simp [impl_Fade_1_e] at h; simp [h]
@[simp] theorem impl_Fade_1_k (z0 : Int) (z1 : Int) (z2 : Int) : impl_Fade_1_x [AV.int .i64 z0, AV.int .i64 z1, AV.fptr [AV.int .i64 z2] 0] [] = mapR (impl_Fade_1 z0 z1 z2) (fun r => (AV.int .i64 r, [])) :=
  xOf_eq impl_Fade_1_i (z0, z1, z2)
/-! impl_each: function 174 -/
noncomputable def impl_each (a0 : TColor) (a1 : TColor) (a2 : Int) : Option ((TColor)) :=
  bnd (impl_Fade_1 a0.r a1.r a2) fun v1 =>
  bnd (impl_Fade_1 a0.g a1.g a2) fun v2 =>
  bnd (impl_Fade_1 a0.b a1.b a2) fun v3 =>
  bnd (impl_Fade_1 a0.a a1.a a2) fun v4 =>
  some (TColor.mk v1 v2 v3 v4)
noncomputable def impl_each_e (q : (TColor) × (TColor) × (Int)) : List AV × List Ob := ([AV.agg [AV.int .i64 q.1.r, AV.int .i64 q.1.g, AV.int .i64 q.1.b, AV.int .i64 q.1.a], AV.agg [AV.int .i64 q.2.1.r, AV.int .i64 q.2.1.g, AV.int .i64 q.2.1.b, AV.int .i64 q.2.1.a], AV.func (.func 179) [] [AV.fptr [AV.int .i64 q.2.2] 0]], [])
noncomputable def impl_each_v (q : (TColor) × (TColor) × (Int)) (r : (TColor)) : AV × List Ob := (AV.agg [AV.int .i64 r.r, AV.int .i64 r.g, AV.int .i64 r.b, AV.int .i64 r.a], [])
noncomputable def impl_each_x : List AV → List Ob → Option (AV × List Ob) := xOf impl_each_e (fun q => impl_each q.1 q.2.1 q.2.2) impl_each_v
theorem impl_each_i : ∀ a b, impl_each_e a = impl_each_e b → a = b := by rintro ⟨⟨x0, x1, x2, x3⟩, ⟨x4, x5, x6, x7⟩, x8⟩ ⟨⟨y0, y1, y2, y3⟩, ⟨y4, y5, y6, y7⟩, y8⟩ h; simp [impl_each_e] at h; simp [h]
@[simp] theorem impl_each_k (z0 : Int) (z1 : Int) (z2 : Int) (z3 : Int) (z4 : Int) (z5 : Int) (z6 : Int) (z7 : Int) (z8 : Int) : impl_each_x [AV.agg [AV.int .i64 z0, AV.int .i64 z1, AV.int .i64 z2, AV.int .i64 z3], AV.agg [AV.int .i64 z4, AV.int .i64 z5, AV.int .i64 z6, AV.int .i64 z7], AV.func (.func 179) [] [AV.fptr [AV.int .i64 z8] 0]] [] = mapR (impl_each ⟨z0, z1, z2, z3⟩ ⟨z4, z5, z6, z7⟩ z8) (fun r => (AV.agg [AV.int .i64 r.r, AV.int .i64 r.g, AV.int .i64 r.b, AV.int .i64 r.a], [])) :=
  xOf_eq impl_each_i (⟨z0, z1, z2, z3⟩, ⟨z4, z5, z6, z7⟩, z8)
/-! impl_Fade: function 108 -/
noncomputable def impl_Fade (a0 : TColor) (a1 : Int) : Option ((TColor)) :=
  bnd (impl_isByte a1) fun v1 =>
  cnd v1 (
   bnd (impl_LaidOk a0) fun v2 =>
   cnd v2 (
    bnd (impl_each a0 a0 a1) fun v3 =>
    some v3) (
    some (TColor.mk 0 0 0 0))) (
   some (TColor.mk 0 0 0 0))
noncomputable def impl_Fade_e (q : (TColor) × (Int)) : List AV × List Ob := ([AV.agg [AV.int .i64 q.1.r, AV.int .i64 q.1.g, AV.int .i64 q.1.b, AV.int .i64 q.1.a], AV.int .i64 q.2], [])
noncomputable def impl_Fade_v (q : (TColor) × (Int)) (r : (TColor)) : AV × List Ob := (AV.agg [AV.int .i64 r.r, AV.int .i64 r.g, AV.int .i64 r.b, AV.int .i64 r.a], [])
noncomputable def impl_Fade_x : List AV → List Ob → Option (AV × List Ob) := xOf impl_Fade_e (fun q => impl_Fade q.1 q.2) impl_Fade_v
theorem impl_Fade_i : ∀ a b, impl_Fade_e a = impl_Fade_e b → a = b := by rintro ⟨⟨x0, x1, x2, x3⟩, x4⟩ ⟨⟨y0, y1, y2, y3⟩, y4⟩ h; simp [impl_Fade_e] at h; simp [h]
@[simp] theorem impl_Fade_k (z0 : Int) (z1 : Int) (z2 : Int) (z3 : Int) (z4 : Int) : impl_Fade_x [AV.agg [AV.int .i64 z0, AV.int .i64 z1, AV.int .i64 z2, AV.int .i64 z3], AV.int .i64 z4] [] = mapR (impl_Fade ⟨z0, z1, z2, z3⟩ z4) (fun r => (AV.agg [AV.int .i64 r.r, AV.int .i64 r.g, AV.int .i64 r.b, AV.int .i64 r.a], [])) :=
  xOf_eq impl_Fade_i (⟨z0, z1, z2, z3⟩, z4)
/-! impl_isMode: function 173 -/
noncomputable def impl_isMode (a0 : Int) : Option ((Bool)) :=
  bnd (impl_inRange a0 1 5) fun v1 =>
  some v1
noncomputable def impl_isMode_e (q : (Int)) : List AV × List Ob := ([AV.int .i64 q], [])
noncomputable def impl_isMode_v (q : (Int)) (r : (Bool)) : AV × List Ob := (AV.bool r, [])
noncomputable def impl_isMode_x : List AV → List Ob → Option (AV × List Ob) := xOf impl_isMode_e (fun q => impl_isMode q) impl_isMode_v
theorem impl_isMode_i : ∀ a b, impl_isMode_e a = impl_isMode_e b → a = b := by rintro x0 y0 h; simp [impl_isMode_e] at h; simp [h]
@[simp] theorem impl_isMode_k (z0 : Int) : impl_isMode_x [AV.int .i64 z0] [] = mapR (impl_isMode z0) (fun r => (AV.bool r, [])) :=
  xOf_eq impl_isMode_i z0
/-! impl_Blend_1: function 175 -/
noncomputable def impl_Blend_1 (a0 : Int) (a1 : Int) (a2 : Int) (a3 : Int) (a4 : Int) : Option ((Int)) :=
  bnd (impl_Times255 a1 a2) fun v1 =>
  cnd (ieq a3 1) (
   some (min (IntKind.i64.wrap (v1 + a0)) 255)) (
   cnd (ieq a3 2) (
    bnd (impl_RoundDiv (IntKind.i64.wrap ((IntKind.i64.wrap ((IntKind.i64.wrap (a0 * a1)) + (IntKind.i64.wrap (a0 * a4)))) + (IntKind.i64.wrap (a1 * a2)))) 255) fun v2 =>
    some (min v2 255)) (
    cnd (ieq a3 3) (
     bnd (impl_RoundDiv (IntKind.i64.wrap (a0 * a1)) 255) fun v3 =>
     some (min (IntKind.i64.wrap ((IntKind.i64.wrap (a0 + a1)) - v3)) 255)) (
     cnd (ieq a3 4) (
      some (min (IntKind.i64.wrap (a0 + a1)) 255)) (
      some (min v1 255)))))
noncomputable def impl_Blend_1_e (q : (Int) × (Int) × (Int) × (Int) × (Int)) : List AV × List Ob := ([AV.int .i64 q.1, AV.int .i64 q.2.1, AV.fptr [AV.int .i64 q.2.2.1] 0, AV.fptr [AV.int .i64 q.2.2.2.1] 0, AV.fptr [AV.int .i64 q.2.2.2.2] 0], [])
noncomputable def impl_Blend_1_v (q : (Int) × (Int) × (Int) × (Int) × (Int)) (r : (Int)) : AV × List Ob := (AV.int .i64 r, [])
noncomputable def impl_Blend_1_x : List AV → List Ob → Option (AV × List Ob) := xOf impl_Blend_1_e (fun q => impl_Blend_1 q.1 q.2.1 q.2.2.1 q.2.2.2.1 q.2.2.2.2) impl_Blend_1_v
theorem impl_Blend_1_i : ∀ a b, impl_Blend_1_e a = impl_Blend_1_e b → a = b := by rintro ⟨x0, x1, x2, x3, x4⟩ ⟨y0, y1, y2, y3, y4⟩ h; simp [impl_Blend_1_e] at h; simp [h]
@[simp] theorem impl_Blend_1_k (z0 : Int) (z1 : Int) (z2 : Int) (z3 : Int) (z4 : Int) : impl_Blend_1_x [AV.int .i64 z0, AV.int .i64 z1, AV.fptr [AV.int .i64 z2] 0, AV.fptr [AV.int .i64 z3] 0, AV.fptr [AV.int .i64 z4] 0] [] = mapR (impl_Blend_1 z0 z1 z2 z3 z4) (fun r => (AV.int .i64 r, [])) :=
  xOf_eq impl_Blend_1_i (z0, z1, z2, z3, z4)
/-! impl_each_2: function 174 -/
noncomputable def impl_each_2 (a0 : TColor) (a1 : TColor) (a2 : Int) (a3 : Int) (a4 : Int) : Option ((TColor)) :=
  bnd (impl_Blend_1 a0.r a1.r a2 a3 a4) fun v1 =>
  bnd (impl_Blend_1 a0.g a1.g a2 a3 a4) fun v2 =>
  bnd (impl_Blend_1 a0.b a1.b a2 a3 a4) fun v3 =>
  bnd (impl_Blend_1 a0.a a1.a a2 a3 a4) fun v4 =>
  some (TColor.mk v1 v2 v3 v4)
noncomputable def impl_each_2_e (q : (TColor) × (TColor) × (Int) × (Int) × (Int)) : List AV × List Ob := ([AV.agg [AV.int .i64 q.1.r, AV.int .i64 q.1.g, AV.int .i64 q.1.b, AV.int .i64 q.1.a], AV.agg [AV.int .i64 q.2.1.r, AV.int .i64 q.2.1.g, AV.int .i64 q.2.1.b, AV.int .i64 q.2.1.a], AV.func (.func 175) [] [AV.fptr [AV.int .i64 q.2.2.1] 0, AV.fptr [AV.int .i64 q.2.2.2.1] 0, AV.fptr [AV.int .i64 q.2.2.2.2] 0]], [])
noncomputable def impl_each_2_v (q : (TColor) × (TColor) × (Int) × (Int) × (Int)) (r : (TColor)) : AV × List Ob := (AV.agg [AV.int .i64 r.r, AV.int .i64 r.g, AV.int .i64 r.b, AV.int .i64 r.a], [])
noncomputable def impl_each_2_x : List AV → List Ob → Option (AV × List Ob) := xOf impl_each_2_e (fun q => impl_each_2 q.1 q.2.1 q.2.2.1 q.2.2.2.1 q.2.2.2.2) impl_each_2_v
theorem impl_each_2_i : ∀ a b, impl_each_2_e a = impl_each_2_e b → a = b := by rintro ⟨⟨x0, x1, x2, x3⟩, ⟨x4, x5, x6, x7⟩, x8, x9, x10⟩ ⟨⟨y0, y1, y2, y3⟩, ⟨y4, y5, y6, y7⟩, y8, y9, y10⟩ h; simp [impl_each_2_e] at h; simp [h]
@[simp] theorem impl_each_2_k (z0 : Int) (z1 : Int) (z2 : Int) (z3 : Int) (z4 : Int) (z5 : Int) (z6 : Int) (z7 : Int) (z8 : Int) (z9 : Int) (z10 : Int) : impl_each_2_x [AV.agg [AV.int .i64 z0, AV.int .i64 z1, AV.int .i64 z2, AV.int .i64 z3], AV.agg [AV.int .i64 z4, AV.int .i64 z5, AV.int .i64 z6, AV.int .i64 z7], AV.func (.func 175) [] [AV.fptr [AV.int .i64 z8] 0, AV.fptr [AV.int .i64 z9] 0, AV.fptr [AV.int .i64 z10] 0]] [] = mapR (impl_each_2 ⟨z0, z1, z2, z3⟩ ⟨z4, z5, z6, z7⟩ z8 z9 z10) (fun r => (AV.agg [AV.int .i64 r.r, AV.int .i64 r.g, AV.int .i64 r.b, AV.int .i64 r.a], [])) :=
  xOf_eq impl_each_2_i (⟨z0, z1, z2, z3⟩, ⟨z4, z5, z6, z7⟩, z8, z9, z10)
/-! impl_Blend: function 107 -/
noncomputable def impl_Blend (a0 : Int) (a1 : TColor) (a2 : TColor) : Option ((TColor)) :=
  bnd (impl_isMode a0) fun v1 =>
  cnd v1 (
   bnd (impl_LaidOk a1) fun v2 =>
   cnd v2 (
    bnd (impl_LaidOk a2) fun v3 =>
    cnd v3 (
     bnd (impl_each_2 a1 a2 (IntKind.i64.wrap (255 - a1.a)) a0 (IntKind.i64.wrap (255 - a2.a))) fun v4 =>
     some v4) (
     some a2)) (
    some a2)) (
   some a2)
noncomputable def impl_Blend_e (q : (Int) × (TColor) × (TColor)) : List AV × List Ob := ([AV.int .i64 q.1, AV.agg [AV.int .i64 q.2.1.r, AV.int .i64 q.2.1.g, AV.int .i64 q.2.1.b, AV.int .i64 q.2.1.a], AV.agg [AV.int .i64 q.2.2.r, AV.int .i64 q.2.2.g, AV.int .i64 q.2.2.b, AV.int .i64 q.2.2.a]], [])
noncomputable def impl_Blend_v (q : (Int) × (TColor) × (TColor)) (r : (TColor)) : AV × List Ob := (AV.agg [AV.int .i64 r.r, AV.int .i64 r.g, AV.int .i64 r.b, AV.int .i64 r.a], [])
noncomputable def impl_Blend_x : List AV → List Ob → Option (AV × List Ob) := xOf impl_Blend_e (fun q => impl_Blend q.1 q.2.1 q.2.2) impl_Blend_v
theorem impl_Blend_i : ∀ a b, impl_Blend_e a = impl_Blend_e b → a = b := by rintro ⟨x0, ⟨x1, x2, x3, x4⟩, ⟨x5, x6, x7, x8⟩⟩ ⟨y0, ⟨y1, y2, y3, y4⟩, ⟨y5, y6, y7, y8⟩⟩ h; simp [impl_Blend_e] at h; simp [h]
@[simp] theorem impl_Blend_k (z0 : Int) (z1 : Int) (z2 : Int) (z3 : Int) (z4 : Int) (z5 : Int) (z6 : Int) (z7 : Int) (z8 : Int) : impl_Blend_x [AV.int .i64 z0, AV.agg [AV.int .i64 z1, AV.int .i64 z2, AV.int .i64 z3, AV.int .i64 z4], AV.agg [AV.int .i64 z5, AV.int .i64 z6, AV.int .i64 z7, AV.int .i64 z8]] [] = mapR (impl_Blend z0 ⟨z1, z2, z3, z4⟩ ⟨z5, z6, z7, z8⟩) (fun r => (AV.agg [AV.int .i64 r.r, AV.int .i64 r.g, AV.int .i64 r.b, AV.int .i64 r.a], [])) :=
  xOf_eq impl_Blend_i (z0, ⟨z1, z2, z3, z4⟩, ⟨z5, z6, z7, z8⟩)
/-! impl_LayOver_1: function 106 -/
noncomputable def impl_LayOver_1 (a0 : Int) (a1 : Int) (a2 : TColor) (a3 : Int) (a4 : TSurface) (a5 : Int) : Option ((TColor)) :=
  bnd (idx a4.pix (IntKind.i64.wrap ((IntKind.i64.wrap (a1 * a4.w)) + a0))) fun v1 =>
  bnd (impl_Fade v1 a5) fun v2 =>
  bnd (impl_Blend a3 v2 a2) fun v3 =>
  some v3
noncomputable def impl_LayOver_1_e (q : (Int) × (Int) × (TColor) × (Int) × (TSurface) × (Int)) : List AV × List Ob := ([AV.int .i64 q.1, AV.int .i64 q.2.1, AV.agg [AV.int .i64 q.2.2.1.r, AV.int .i64 q.2.2.1.g, AV.int .i64 q.2.2.1.b, AV.int .i64 q.2.2.1.a], AV.fptr [AV.int .i64 q.2.2.2.1] 0, AV.fptr [AV.int .i64 q.2.2.2.2.1.w, AV.int .i64 q.2.2.2.2.1.h, AV.fsl (List.map eColor q.2.2.2.2.1.pix)] 0, AV.fptr [AV.int .i64 q.2.2.2.2.2] 0], [])
noncomputable def impl_LayOver_1_v (q : (Int) × (Int) × (TColor) × (Int) × (TSurface) × (Int)) (r : (TColor)) : AV × List Ob := (AV.agg [AV.int .i64 r.r, AV.int .i64 r.g, AV.int .i64 r.b, AV.int .i64 r.a], [])
noncomputable def impl_LayOver_1_x : List AV → List Ob → Option (AV × List Ob) := xOf impl_LayOver_1_e (fun q => impl_LayOver_1 q.1 q.2.1 q.2.2.1 q.2.2.2.1 q.2.2.2.2.1 q.2.2.2.2.2) impl_LayOver_1_v
theorem impl_LayOver_1_i : ∀ a b, impl_LayOver_1_e a = impl_LayOver_1_e b → a = b := by rintro ⟨x0, x1, ⟨x2, x3, x4, x5⟩, x6, ⟨x7, x8, x9⟩, x10⟩ ⟨y0, y1, ⟨y2, y3, y4, y5⟩, y6, ⟨y7, y8, y9⟩, y10⟩ h; simp [impl_LayOver_1_e] at h; simp [h]
@[simp] theorem impl_LayOver_1_k (z0 : Int) (z1 : Int) (z2 : Int) (z3 : Int) (z4 : Int) (z5 : Int) (z6 : Int) (z7 : Int) (z8 : Int) (z9 : List TColor) (z10 : Int) : impl_LayOver_1_x [AV.int .i64 z0, AV.int .i64 z1, AV.agg [AV.int .i64 z2, AV.int .i64 z3, AV.int .i64 z4, AV.int .i64 z5], AV.fptr [AV.int .i64 z6] 0, AV.fptr [AV.int .i64 z7, AV.int .i64 z8, AV.fsl (List.map eColor z9)] 0, AV.fptr [AV.int .i64 z10] 0] [] = mapR (impl_LayOver_1 z0 z1 ⟨z2, z3, z4, z5⟩ z6 ⟨z7, z8, z9⟩ z10) (fun r => (AV.agg [AV.int .i64 r.r, AV.int .i64 r.g, AV.int .i64 r.b, AV.int .i64 r.a], [])) :=
  xOf_eq impl_LayOver_1_i (z0, z1, ⟨z2, z3, z4, z5⟩, z6, ⟨z7, z8, z9⟩, z10)
/-! impl_Surface_paint: function 104 -/
noncomputable def impl_Surface_paint_l0 (a1 : Int) (a2 : Int) (a3 : Int) (a4 : TSurface) (a5 : Int) (v2 : TBox) (x12 : Int) : ((Int) × (List TColor)) → Option (((Int) × (List TColor)) ⊕ ((List TColor))) := fun (x17, x18) =>
  cnd (ile v2.x1 x17) (
   some (.inr x18)) (
   bnd (idx x18 (IntKind.i64.wrap ((IntKind.i64.wrap (x12 * a1)) + x17))) fun v19 =>
   bnd (impl_LayOver_1 x17 x12 v19 a3 a4 a5) fun v20 =>
   nam ((List.set x18 (Int.toNat (IntKind.i64.wrap ((IntKind.i64.wrap (x12 * a1)) + x17))) v20) : List TColor) fun l21 =>
   some (.inl ((IntKind.i64.wrap (x17 + 1)), l21)))
noncomputable def impl_Surface_paint_l0_S (a1 : Int) (a2 : Int) (a3 : Int) (a4 : TSurface) (a5 : Int) (v2 : TBox) (x12 : Int) : ((Int) × (List TColor)) → St := fun (x17, x18) => ⟨[(0, AV.optr 0 0 3), (2, AV.func (.func 106) [] [AV.optr 1 0 1, AV.optr 2 0 3, AV.optr 3 0 1]), (4, AV.optr 5 0 4), (6, AV.int .i64 x12), (7, AV.int .i64 x17)], [(0, Ob.box [AV.int .i64 a1, AV.int .i64 a2, AV.osl 4 0 (List.length x18) (List.length x18)]), (1, Ob.box [AV.int .i64 a3]), (2, Ob.box [AV.int .i64 a4.w, AV.int .i64 a4.h, AV.fsl (List.map eColor a4.pix)]), (3, Ob.box [AV.int .i64 a5]), (4, Ob.arr 4 (List.map eColor x18) false), (5, Ob.box [AV.int .i64 v2.x0, AV.int .i64 v2.y0, AV.int .i64 v2.x1, AV.int .i64 v2.y1])], 6⟩
noncomputable def impl_Surface_paint_l0_X (a1 : Int) (a2 : Int) (a3 : Int) (a4 : TSurface) (a5 : Int) (v2 : TBox) (x12 : Int) : ((List TColor)) → Ex × St := fun y22 => ((.exit 2), ⟨[(0, AV.optr 0 0 3), (2, AV.func (.func 106) [] [AV.optr 1 0 1, AV.optr 2 0 3, AV.optr 3 0 1]), (4, AV.optr 5 0 4), (6, AV.int .i64 x12)], [(0, Ob.box [AV.int .i64 a1, AV.int .i64 a2, AV.osl 4 0 (List.length y22) (List.length y22)]), (1, Ob.box [AV.int .i64 a3]), (2, Ob.box [AV.int .i64 a4.w, AV.int .i64 a4.h, AV.fsl (List.map eColor a4.pix)]), (3, Ob.box [AV.int .i64 a5]), (4, Ob.arr 4 (List.map eColor y22) false), (5, Ob.box [AV.int .i64 v2.x0, AV.int .i64 v2.y0, AV.int .i64 v2.x1, AV.int .i64 v2.y1])], 6⟩)
noncomputable def impl_Surface_paint_l1 (a1 : Int) (a2 : Int) (a3 : Int) (a4 : TSurface) (a5 : Int) (v2 : TBox) : ((Int) × (List TColor)) → Option (((Int) × (List TColor)) ⊕ ((List TColor))) := fun (x12, x13) =>
  cnd (ile v2.y1 x12) (
   some (.inr x13)) (
   bnd (loopI (impl_Surface_paint_l0 a1 a2 a3 a4 a5 v2 x12) (v2.x0, x13)) fun y22 =>
   some (.inl ((IntKind.i64.wrap (x12 + 1)), y22)))
noncomputable def impl_Surface_paint_l1_S (a1 : Int) (a2 : Int) (a3 : Int) (a4 : TSurface) (a5 : Int) (v2 : TBox) : ((Int) × (List TColor)) → St := fun (x12, x13) => ⟨[(0, AV.optr 0 0 3), (2, AV.func (.func 106) [] [AV.optr 1 0 1, AV.optr 2 0 3, AV.optr 3 0 1]), (4, AV.optr 5 0 4), (6, AV.int .i64 x12)], [(0, Ob.box [AV.int .i64 a1, AV.int .i64 a2, AV.osl 4 0 (List.length x13) (List.length x13)]), (1, Ob.box [AV.int .i64 a3]), (2, Ob.box [AV.int .i64 a4.w, AV.int .i64 a4.h, AV.fsl (List.map eColor a4.pix)]), (3, Ob.box [AV.int .i64 a5]), (4, Ob.arr 4 (List.map eColor x13) false), (5, Ob.box [AV.int .i64 v2.x0, AV.int .i64 v2.y0, AV.int .i64 v2.x1, AV.int .i64 v2.y1])], 6⟩
noncomputable def impl_Surface_paint_l1_X (a1 : Int) (a2 : Int) (a3 : Int) (a4 : TSurface) (a5 : Int) (v2 : TBox) : ((List TColor)) → Ex × St := fun y23 => ((.exit 0), ⟨[], [(0, Ob.box [AV.int .i64 a1, AV.int .i64 a2, AV.osl 4 0 (List.length y23) (List.length y23)]), (1, Ob.box [AV.int .i64 a3]), (2, Ob.box [AV.int .i64 a4.w, AV.int .i64 a4.h, AV.fsl (List.map eColor a4.pix)]), (3, Ob.box [AV.int .i64 a5]), (4, Ob.arr 4 (List.map eColor y23) false)], 5⟩)
noncomputable def impl_Surface_paint (a0 : TBox) (a1 : Int) (a2 : Int) (a3 : Int) (a4 : TSurface) (a5 : Int) (a6 : List TColor) : Option ((List TColor)) :=
  bnd (impl_Surface_box (TSurface.mk a1 a2 a6)) fun v1 =>
  bnd (impl_MeetBox a0 v1) fun v2 =>
  bnd (loopI (impl_Surface_paint_l1 a1 a2 a3 a4 a5 v2) (v2.y0, a6)) fun y23 =>
  some y23
noncomputable def impl_Surface_paint_e (q : (TBox) × (Int) × (Int) × (Int) × (TSurface) × (Int) × (List TColor)) : List AV × List Ob := ([AV.optr 0 0 3, AV.agg [AV.int .i64 q.1.x0, AV.int .i64 q.1.y0, AV.int .i64 q.1.x1, AV.int .i64 q.1.y1], AV.func (.func 106) [] [AV.optr 1 0 1, AV.optr 2 0 3, AV.optr 3 0 1]], [Ob.box [AV.int .i64 q.2.1, AV.int .i64 q.2.2.1, AV.osl 4 0 (List.length q.2.2.2.2.2.2) (List.length q.2.2.2.2.2.2)], Ob.box [AV.int .i64 q.2.2.2.1], Ob.box [AV.int .i64 q.2.2.2.2.1.w, AV.int .i64 q.2.2.2.2.1.h, AV.fsl (List.map eColor q.2.2.2.2.1.pix)], Ob.box [AV.int .i64 q.2.2.2.2.2.1], Ob.arr 4 (List.map eColor q.2.2.2.2.2.2) false])
noncomputable def impl_Surface_paint_v (q : (TBox) × (Int) × (Int) × (Int) × (TSurface) × (Int) × (List TColor)) (r : (List TColor)) : AV × List Ob := (AV.tup [], [Ob.box [AV.int .i64 q.2.1, AV.int .i64 q.2.2.1, AV.osl 4 0 (List.length r) (List.length r)], Ob.box [AV.int .i64 q.2.2.2.1], Ob.box [AV.int .i64 q.2.2.2.2.1.w, AV.int .i64 q.2.2.2.2.1.h, AV.fsl (List.map eColor q.2.2.2.2.1.pix)], Ob.box [AV.int .i64 q.2.2.2.2.2.1], Ob.arr 4 (List.map eColor r) false])
noncomputable def impl_Surface_paint_x : List AV → List Ob → Option (AV × List Ob) := xOf impl_Surface_paint_e (fun q => impl_Surface_paint q.1 q.2.1 q.2.2.1 q.2.2.2.1 q.2.2.2.2.1 q.2.2.2.2.2.1 q.2.2.2.2.2.2) impl_Surface_paint_v
theorem impl_Surface_paint_i : ∀ a b, impl_Surface_paint_e a = impl_Surface_paint_e b → a = b := by rintro ⟨⟨x0, x1, x2, x3⟩, x4, x5, x6, ⟨x7, x8, x9⟩, x10, x11⟩ ⟨⟨y0, y1, y2, y3⟩, y4, y5, y6, ⟨y7, y8, y9⟩, y10, y11⟩ h; simp [impl_Surface_paint_e] at h; simp [h]
@[simp] theorem impl_Surface_paint_k (z0 : Int) (z1 : Int) (z2 : Int) (z3 : Int) (z4 : Int) (z5 : Int) (z6 : Int) (z7 : Int) (z8 : Int) (z9 : List TColor) (z10 : Int) (z11 : List TColor) : impl_Surface_paint_x [AV.optr 0 0 3, AV.agg [AV.int .i64 z0, AV.int .i64 z1, AV.int .i64 z2, AV.int .i64 z3], AV.func (.func 106) [] [AV.optr 1 0 1, AV.optr 2 0 3, AV.optr 3 0 1]] [Ob.box [AV.int .i64 z4, AV.int .i64 z5, AV.osl 4 0 (List.length z11) (List.length z11)], Ob.box [AV.int .i64 z6], Ob.box [AV.int .i64 z7, AV.int .i64 z8, AV.fsl (List.map eColor z9)], Ob.box [AV.int .i64 z10], Ob.arr 4 (List.map eColor z11) false] = mapR (impl_Surface_paint ⟨z0, z1, z2, z3⟩ z4 z5 z6 ⟨z7, z8, z9⟩ z10 z11) (fun r => (AV.tup [], [Ob.box [AV.int .i64 z4, AV.int .i64 z5, AV.osl 4 0 (List.length r) (List.length r)], Ob.box [AV.int .i64 z6], Ob.box [AV.int .i64 z7, AV.int .i64 z8, AV.fsl (List.map eColor z9)], Ob.box [AV.int .i64 z10], Ob.arr 4 (List.map eColor r) false])) :=
  xOf_eq impl_Surface_paint_i (⟨z0, z1, z2, z3⟩, z4, z5, z6, ⟨z7, z8, z9⟩, z10, z11)
/-! impl_LayOver: function 31 -/
noncomputable def impl_LayOver (a0 : TSurface) (a1 : TSurface) (a2 : Int) (a3 : Int) : Option ((Int) × (Int) × (List TColor)) :=
  bnd (impl_copySurface a0) fun (w2, w3, w4) =>
  cnd (ieq a0.w a1.w) (
   cnd (ieq a0.h a1.h) (
    bnd (impl_SurfaceOk a0) fun v5 =>
    cnd v5 (
     bnd (impl_SurfaceOk a1) fun v6 =>
     cnd v6 (
      bnd (impl_Surface_box (TSurface.mk w2 w3 w4)) fun v7 =>
      bnd (impl_Surface_paint v7 w2 w3 a2 a1 a3 w4) fun v8 =>
      some (w2, w3, v8)) (
      some (w2, w3, w4))) (
     some (w2, w3, w4))) (
    some (w2, w3, w4))) (
   some (w2, w3, w4))
noncomputable def impl_LayOver_e (q : (TSurface) × (TSurface) × (Int) × (Int)) : List AV × List Ob := ([AV.agg [AV.int .i64 q.1.w, AV.int .i64 q.1.h, AV.fsl (List.map eColor q.1.pix)], AV.agg [AV.int .i64 q.2.1.w, AV.int .i64 q.2.1.h, AV.fsl (List.map eColor q.2.1.pix)], AV.int .i64 q.2.2.1, AV.int .i64 q.2.2.2], [])
noncomputable def impl_LayOver_v (q : (TSurface) × (TSurface) × (Int) × (Int)) (r : (Int) × (Int) × (List TColor)) : AV × List Ob := (AV.agg [AV.int .i64 r.1, AV.int .i64 r.2.1, AV.osl 0 0 (List.length r.2.2) (List.length r.2.2)], [Ob.arr 4 (List.map eColor r.2.2) false])
noncomputable def impl_LayOver_x : List AV → List Ob → Option (AV × List Ob) := xOf impl_LayOver_e (fun q => impl_LayOver q.1 q.2.1 q.2.2.1 q.2.2.2) impl_LayOver_v
theorem impl_LayOver_i : ∀ a b, impl_LayOver_e a = impl_LayOver_e b → a = b := by rintro ⟨⟨x0, x1, x2⟩, ⟨x3, x4, x5⟩, x6, x7⟩ ⟨⟨y0, y1, y2⟩, ⟨y3, y4, y5⟩, y6, y7⟩ h; simp [impl_LayOver_e] at h; simp [h]
@[simp] theorem impl_LayOver_k (z0 : Int) (z1 : Int) (z2 : List TColor) (z3 : Int) (z4 : Int) (z5 : List TColor) (z6 : Int) (z7 : Int) : impl_LayOver_x [AV.agg [AV.int .i64 z0, AV.int .i64 z1, AV.fsl (List.map eColor z2)], AV.agg [AV.int .i64 z3, AV.int .i64 z4, AV.fsl (List.map eColor z5)], AV.int .i64 z6, AV.int .i64 z7] [] = mapR (impl_LayOver ⟨z0, z1, z2⟩ ⟨z3, z4, z5⟩ z6 z7) (fun r => (AV.agg [AV.int .i64 r.1, AV.int .i64 r.2.1, AV.osl 0 0 (List.length r.2.2) (List.length r.2.2)], [Ob.arr 4 (List.map eColor r.2.2) false])) :=
  xOf_eq impl_LayOver_i (⟨z0, z1, z2⟩, ⟨z3, z4, z5⟩, z6, z7)
/-! laws_eqColor: function 202 -/
noncomputable def laws_eqColor (a0 : TColor) (a1 : TColor) : Option ((Bool)) :=
  cnd (ieq a0.r a1.r) (
   cnd (ieq a0.g a1.g) (
    cnd (ieq a0.b a1.b) (
     cnd (ieq a0.a a1.a) (
      some true) (
      some false)) (
     some false)) (
    some false)) (
   some false)
noncomputable def laws_eqColor_e (q : (TColor) × (TColor)) : List AV × List Ob := ([AV.agg [AV.int .i64 q.1.r, AV.int .i64 q.1.g, AV.int .i64 q.1.b, AV.int .i64 q.1.a], AV.agg [AV.int .i64 q.2.r, AV.int .i64 q.2.g, AV.int .i64 q.2.b, AV.int .i64 q.2.a]], [])
noncomputable def laws_eqColor_v (q : (TColor) × (TColor)) (r : (Bool)) : AV × List Ob := (AV.bool r, [])
noncomputable def laws_eqColor_x : List AV → List Ob → Option (AV × List Ob) := xOf laws_eqColor_e (fun q => laws_eqColor q.1 q.2) laws_eqColor_v
theorem laws_eqColor_i : ∀ a b, laws_eqColor_e a = laws_eqColor_e b → a = b := by rintro ⟨⟨x0, x1, x2, x3⟩, ⟨x4, x5, x6, x7⟩⟩ ⟨⟨y0, y1, y2, y3⟩, ⟨y4, y5, y6, y7⟩⟩ h; simp [laws_eqColor_e] at h; simp [h]
@[simp] theorem laws_eqColor_k (z0 : Int) (z1 : Int) (z2 : Int) (z3 : Int) (z4 : Int) (z5 : Int) (z6 : Int) (z7 : Int) : laws_eqColor_x [AV.agg [AV.int .i64 z0, AV.int .i64 z1, AV.int .i64 z2, AV.int .i64 z3], AV.agg [AV.int .i64 z4, AV.int .i64 z5, AV.int .i64 z6, AV.int .i64 z7]] [] = mapR (laws_eqColor ⟨z0, z1, z2, z3⟩ ⟨z4, z5, z6, z7⟩) (fun r => (AV.bool r, [])) :=
  xOf_eq laws_eqColor_i (⟨z0, z1, z2, z3⟩, ⟨z4, z5, z6, z7⟩)
/-! laws_eqColorS: function 142 -/
noncomputable def laws_eqColorS_l0 (a0 : List TColor) (a1 : List TColor) : ((Int)) → Option (((Int)) ⊕ ((Unit) ⊕ (Unit))) := fun x4 =>
  cnd (ile (List.length a0 : Int) x4) (
   some (.inr (.inl ()))) (
   bnd (idx a0 x4) fun v5 =>
   bnd (idx a1 x4) fun v6 =>
   bnd (laws_eqColor v5 v6) fun v7 =>
   cnd v7 (
    some (.inl (IntKind.i64.wrap (x4 + 1)))) (
    some (.inr (.inr ()))))
noncomputable def laws_eqColorS_l0_S (a0 : List TColor) (a1 : List TColor) : ((Int)) → St := fun x4 => ⟨[(0, AV.fsl (List.map eColor a0)), (1, AV.fsl (List.map eColor a1)), (5, AV.int .i64 x4)], [], 0⟩
noncomputable def laws_eqColorS_l0_X (a0 : List TColor) (a1 : List TColor) : ((Unit) ⊕ (Unit)) → Ex × St := fun q => match q with
  | .inl _ => ((.exit 0), ⟨[], [], 0⟩)
  | .inr _ => (.ret, ⟨[(4, AV.bool false)], [], 0⟩)
noncomputable def laws_eqColorS (a0 : List TColor) (a1 : List TColor) : Option ((Bool)) :=
  cnd (ieq (List.length a0 : Int) (List.length a1 : Int)) (
   bnd (loopI (laws_eqColorS_l0 a0 a1) 0) fun q => match q with
   | .inl () =>
    some true
   | .inr () =>
    some false) (
   some false)
noncomputable def laws_eqColorS_e (q : (List TColor) × (List TColor)) : List AV × List Ob := ([AV.fsl (List.map eColor q.1), AV.fsl (List.map eColor q.2)], [])
noncomputable def laws_eqColorS_v (q : (List TColor) × (List TColor)) (r : (Bool)) : AV × List Ob := (AV.bool r, [])
noncomputable def laws_eqColorS_x : List AV → List Ob → Option (AV × List Ob) := xOf laws_eqColorS_e (fun q => laws_eqColorS q.1 q.2) laws_eqColorS_v
theorem laws_eqColorS_i : ∀ a b, laws_eqColorS_e a = laws_eqColorS_e b → a = b := by rintro ⟨x0, x1⟩ ⟨y0, y1⟩ h; simp [laws_eqColorS_e] at h; simp [h]
@[simp] theorem laws_eqColorS_k (z0 : List TColor) (z1 : List TColor) : laws_eqColorS_x [AV.fsl (List.map eColor z0), AV.fsl (List.map eColor z1)] [] = mapR (laws_eqColorS z0 z1) (fun r => (AV.bool r, [])) :=
  xOf_eq laws_eqColorS_i (z0, z1)
/-! laws_eqSurface: function 63 -/
noncomputable def laws_eqSurface (a0 : TSurface) (a1 : TSurface) : Option ((Bool)) :=
  cnd (ieq a0.w a1.w) (
   cnd (ieq a0.h a1.h) (
    bnd (laws_eqColorS a0.pix a1.pix) fun v1 =>
    cnd v1 (
     some true) (
     some false)) (
    some false)) (
   some false)
noncomputable def laws_eqSurface_e (q : (TSurface) × (TSurface)) : List AV × List Ob := ([AV.agg [AV.int .i64 q.1.w, AV.int .i64 q.1.h, AV.fsl (List.map eColor q.1.pix)], AV.agg [AV.int .i64 q.2.w, AV.int .i64 q.2.h, AV.fsl (List.map eColor q.2.pix)]], [])
noncomputable def laws_eqSurface_v (q : (TSurface) × (TSurface)) (r : (Bool)) : AV × List Ob := (AV.bool r, [])
noncomputable def laws_eqSurface_x : List AV → List Ob → Option (AV × List Ob) := xOf laws_eqSurface_e (fun q => laws_eqSurface q.1 q.2) laws_eqSurface_v
theorem laws_eqSurface_i : ∀ a b, laws_eqSurface_e a = laws_eqSurface_e b → a = b := by rintro ⟨⟨x0, x1, x2⟩, ⟨x3, x4, x5⟩⟩ ⟨⟨y0, y1, y2⟩, ⟨y3, y4, y5⟩⟩ h; simp [laws_eqSurface_e] at h; simp [h]
@[simp] theorem laws_eqSurface_k (z0 : Int) (z1 : Int) (z2 : List TColor) (z3 : Int) (z4 : Int) (z5 : List TColor) : laws_eqSurface_x [AV.agg [AV.int .i64 z0, AV.int .i64 z1, AV.fsl (List.map eColor z2)], AV.agg [AV.int .i64 z3, AV.int .i64 z4, AV.fsl (List.map eColor z5)]] [] = mapR (laws_eqSurface ⟨z0, z1, z2⟩ ⟨z3, z4, z5⟩) (fun r => (AV.bool r, [])) :=
  xOf_eq laws_eqSurface_i (⟨z0, z1, z2⟩, ⟨z3, z4, z5⟩)
/-! laws_markColorS: function 143 -/
noncomputable def laws_markColorS_l0  : ((Int) × (Int) × (List TColor)) → Option (((Int) × (Int) × (List TColor)) ⊕ ((List TColor) × (Int))) := fun (x9, x10, x11) =>
  cnd (ile (List.length x11 : Int) x10) (
   some (.inr (x11, x9))) (
   bnd (idx x11 x10) fun v12 =>
   nam ((List.set x11 (Int.toNat x10) (TColor.mk x9 v12.g v12.b v12.a)) : List TColor) fun l13 =>
   bnd (idx l13 x10) fun v14 =>
   nam ((List.set l13 (Int.toNat x10) (TColor.mk v14.r (IntKind.i64.wrap (x9 + 1)) v14.b v14.a)) : List TColor) fun l15 =>
   bnd (idx l15 x10) fun v16 =>
   nam ((List.set l15 (Int.toNat x10) (TColor.mk v16.r v16.g (IntKind.i64.wrap ((IntKind.i64.wrap (x9 + 1)) + 1)) v16.a)) : List TColor) fun l17 =>
   bnd (idx l17 x10) fun v18 =>
   nam ((List.set l17 (Int.toNat x10) (TColor.mk v18.r v18.g v18.b (IntKind.i64.wrap ((IntKind.i64.wrap ((IntKind.i64.wrap (x9 + 1)) + 1)) + 1)))) : List TColor) fun l19 =>
   some (.inl ((IntKind.i64.wrap ((IntKind.i64.wrap ((IntKind.i64.wrap ((IntKind.i64.wrap (x9 + 1)) + 1)) + 1)) + 1)), (IntKind.i64.wrap (x10 + 1)), l19)))
noncomputable def laws_markColorS_l0_S  : ((Int) × (Int) × (List TColor)) → St := fun (x9, x10, x11) => ⟨[(0, AV.osl 0 0 (List.length x11) (List.length x11)), (1, AV.int .i64 x9), (5, AV.int .i64 x10)], [(0, Ob.arr 4 (List.map eColor x11) false)], 1⟩
noncomputable def laws_markColorS_l0_X  : ((List TColor) × (Int)) → Ex × St := fun (y20, y21) => ((.exit 0), ⟨[(1, AV.int .i64 y21)], [(0, Ob.arr 4 (List.map eColor y20) false)], 1⟩)
noncomputable def laws_markColorS (a0 : Int) (a1 : List TColor) : Option ((Int) × (List TColor)) :=
  bnd (loopI laws_markColorS_l0 (a0, 0, a1)) fun (y20, y21) =>
  some (y21, y20)
noncomputable def laws_markColorS_e (q : (Int) × (List TColor)) : List AV × List Ob := ([AV.osl 0 0 (List.length q.2) (List.length q.2), AV.int .i64 q.1], [Ob.arr 4 (List.map eColor q.2) false])
noncomputable def laws_markColorS_v (q : (Int) × (List TColor)) (r : (Int) × (List TColor)) : AV × List Ob := (AV.int .i64 r.1, [Ob.arr 4 (List.map eColor r.2) false])
noncomputable def laws_markColorS_x : List AV → List Ob → Option (AV × List Ob) := xOf laws_markColorS_e (fun q => laws_markColorS q.1 q.2) laws_markColorS_v
theorem laws_markColorS_i : ∀ a b, laws_markColorS_e a = laws_markColorS_e b → a = b := by rintro ⟨x0, x1⟩ ⟨y0, y1⟩ h; simp [laws_markColorS_e] at h; simp [h]
@[simp] theorem laws_markColorS_k (z0 : Int) (z1 : List TColor) : laws_markColorS_x [AV.osl 0 0 (List.length z1) (List.length z1), AV.int .i64 z0] [Ob.arr 4 (List.map eColor z1) false] = mapR (laws_markColorS z0 z1) (fun r => (AV.int .i64 r.1, [Ob.arr 4 (List.map eColor r.2) false])) :=
  xOf_eq laws_markColorS_i (z0, z1)
theorem laws_markColorS_n {a0 : Int} {a1 : List TColor} {r0 : Int} {r1 : List TColor} (h : laws_markColorS a0 a1 = some (r0, r1)) : List.length a1 = List.length r1 := by
  unfold laws_markColorS at h; replace h : HS _ _ := h
  obtain ⟨q, e1, h⟩ := HS.bnd h
  replace e1 := loopI_pres (P := fun s => List.length a1 = List.length s.2.2) (Q := fun s => List.length a1 = List.length s.1) e1 (by
    rintro ⟨x9, x10, x11⟩ o hp h; dsimp only at hp; unfold laws_markColorS_l0 at h; replace h : HS _ _ := h
    rcases HS.cnd h with h | h
    · skip
      have h := HS.some h
      first | (cases h; simp_all; done) | (subst h; simp_all; done) | (simp only [Prod.mk.injEq] at h; simp_all; done)
    · skip
      obtain ⟨v12, e2, h⟩ := HS.bnd h
      clear e2
      obtain ⟨l13, e3, h⟩ := HS.nam h; replace e3 := congrArg List.length e3; simp only [List.length_set] at e3
      obtain ⟨v14, e4, h⟩ := HS.bnd h
      clear e4
      obtain ⟨l15, e5, h⟩ := HS.nam h; replace e5 := congrArg List.length e5; simp only [List.length_set] at e5
      obtain ⟨v16, e6, h⟩ := HS.bnd h
      clear e6
      obtain ⟨l17, e7, h⟩ := HS.nam h; replace e7 := congrArg List.length e7; simp only [List.length_set] at e7
      obtain ⟨v18, e8, h⟩ := HS.bnd h
      clear e8
      obtain ⟨l19, e9, h⟩ := HS.nam h; replace e9 := congrArg List.length e9; simp only [List.length_set] at e9
      have h := HS.some h
      first | (cases h; simp_all; done) | (subst h; simp_all; done) | (simp only [Prod.mk.injEq] at h; simp_all; done)) (by simp)
  obtain ⟨y20, y21⟩ := q
  dsimp only at h e1
  have h := HS.some h
  first | (cases h; simp_all; done) | (subst h; simp_all; done) | (simp only [Prod.mk.injEq] at h; simp_all; done)
/-! laws_markSurface: function 64 -/
noncomputable def laws_markSurface (a0 : Int) (a1 : Int) (a2 : Int) (a3 : List TColor) : Option ((Int) × (List TColor)) :=
  bnd (laws_markColorS a2 a3) fun (w2, w3) =>
  some (w2, w3)
noncomputable def laws_markSurface_e (q : (Int) × (Int) × (Int) × (List TColor)) : List AV × List Ob := ([AV.agg [AV.int .i64 q.1, AV.int .i64 q.2.1, AV.osl 0 0 (List.length q.2.2.2) (List.length q.2.2.2)], AV.int .i64 q.2.2.1], [Ob.arr 4 (List.map eColor q.2.2.2) false])
noncomputable def laws_markSurface_v (q : (Int) × (Int) × (Int) × (List TColor)) (r : (Int) × (List TColor)) : AV × List Ob := (AV.int .i64 r.1, [Ob.arr 4 (List.map eColor r.2) false])
noncomputable def laws_markSurface_x : List AV → List Ob → Option (AV × List Ob) := xOf laws_markSurface_e (fun q => laws_markSurface q.1 q.2.1 q.2.2.1 q.2.2.2) laws_markSurface_v
theorem laws_markSurface_i : ∀ a b, laws_markSurface_e a = laws_markSurface_e b → a = b := by rintro ⟨x0, x1, x2, x3⟩ ⟨y0, y1, y2, y3⟩ h; simp [laws_markSurface_e] at h; simp [h]
@[simp] theorem laws_markSurface_k (z0 : Int) (z1 : Int) (z2 : Int) (z3 : List TColor) : laws_markSurface_x [AV.agg [AV.int .i64 z0, AV.int .i64 z1, AV.osl 0 0 (List.length z3) (List.length z3)], AV.int .i64 z2] [Ob.arr 4 (List.map eColor z3) false] = mapR (laws_markSurface z0 z1 z2 z3) (fun r => (AV.int .i64 r.1, [Ob.arr 4 (List.map eColor r.2) false])) :=
  xOf_eq laws_markSurface_i (z0, z1, z2, z3)
theorem laws_markSurface_n {a0 : Int} {a1 : Int} {a2 : Int} {a3 : List TColor} {r0 : Int} {r1 : List TColor} (h : laws_markSurface a0 a1 a2 a3 = some (r0, r1)) : List.length a3 = List.length r1 := by
  unfold laws_markSurface at h; replace h : HS _ _ := h
  obtain ⟨⟨w2, w3⟩, e1, h⟩ := HS.bnd h
  dsimp only at h
  replace e1 := laws_markColorS_n e1
  have h := HS.some h
  first | (cases h; simp_all; done) | (subst h; simp_all; done) | (simp only [Prod.mk.injEq] at h; simp_all; done)
/-! laws_heldColorS: function 144 -/
noncomputable def laws_heldColorS_l0 (a0 : List TColor) : ((Int) × (Int)) → Option (((Int) × (Int)) ⊕ (((Int)) ⊕ (Unit))) := fun (x2, x3) =>
  cnd (ile (List.length a0 : Int) x3) (
   some (.inr (.inl x2))) (
   bnd (idx a0 x3) fun v4 =>
   cnd (ieq v4.r x2) (
    cnd (ieq v4.g (IntKind.i64.wrap (x2 + 1))) (
     cnd (ieq v4.b (IntKind.i64.wrap ((IntKind.i64.wrap (x2 + 1)) + 1))) (
      cnd (ieq v4.a (IntKind.i64.wrap ((IntKind.i64.wrap ((IntKind.i64.wrap (x2 + 1)) + 1)) + 1))) (
       some (.inl ((IntKind.i64.wrap ((IntKind.i64.wrap ((IntKind.i64.wrap ((IntKind.i64.wrap (x2 + 1)) + 1)) + 1)) + 1)), (IntKind.i64.wrap (x3 + 1))))) (
       some (.inr (.inr ())))) (
      some (.inr (.inr ())))) (
     some (.inr (.inr ())))) (
    some (.inr (.inr ()))))
noncomputable def laws_heldColorS_l0_S (a0 : List TColor) : ((Int) × (Int)) → St := fun (x2, x3) => ⟨[(0, AV.fsl (List.map eColor a0)), (1, AV.int .i64 x2), (5, AV.int .i64 x3)], [], 0⟩
noncomputable def laws_heldColorS_l0_X (a0 : List TColor) : (((Int)) ⊕ (Unit)) → Ex × St := fun q => match q with
  | .inl y5 => ((.exit 0), ⟨[(1, AV.int .i64 y5)], [], 0⟩)
  | .inr _ => (.ret, ⟨[(4, AV.int .i64 (-1))], [], 0⟩)
noncomputable def laws_heldColorS (a0 : List TColor) (a1 : Int) : Option ((Int)) :=
  bnd (loopI (laws_heldColorS_l0 a0) (a1, 0)) fun q => match q with
  | .inl y5 =>
   some y5
  | .inr () =>
   some (-1)
noncomputable def laws_heldColorS_e (q : (List TColor) × (Int)) : List AV × List Ob := ([AV.fsl (List.map eColor q.1), AV.int .i64 q.2], [])
noncomputable def laws_heldColorS_v (q : (List TColor) × (Int)) (r : (Int)) : AV × List Ob := (AV.int .i64 r, [])
noncomputable def laws_heldColorS_x : List AV → List Ob → Option (AV × List Ob) := xOf laws_heldColorS_e (fun q => laws_heldColorS q.1 q.2) laws_heldColorS_v
theorem laws_heldColorS_i : ∀ a b, laws_heldColorS_e a = laws_heldColorS_e b → a = b := by rintro ⟨x0, x1⟩ ⟨y0, y1⟩ h; simp [laws_heldColorS_e] at h; simp [h]
@[simp] theorem laws_heldColorS_k (z0 : List TColor) (z1 : Int) : laws_heldColorS_x [AV.fsl (List.map eColor z0), AV.int .i64 z1] [] = mapR (laws_heldColorS z0 z1) (fun r => (AV.int .i64 r, [])) :=
  xOf_eq laws_heldColorS_i (z0, z1)
/-! laws_heldSurface: function 65 -/
noncomputable def laws_heldSurface (a0 : TSurface) (a1 : Int) : Option ((Int)) :=
  bnd (laws_heldColorS a0.pix a1) fun v1 =>
  cnd (ile 0 v1) (
   some v1) (
   some (-1))
noncomputable def laws_heldSurface_e (q : (TSurface) × (Int)) : List AV × List Ob := ([AV.agg [AV.int .i64 q.1.w, AV.int .i64 q.1.h, AV.fsl (List.map eColor q.1.pix)], AV.int .i64 q.2], [])
noncomputable def laws_heldSurface_v (q : (TSurface) × (Int)) (r : (Int)) : AV × List Ob := (AV.int .i64 r, [])
noncomputable def laws_heldSurface_x : List AV → List Ob → Option (AV × List Ob) := xOf laws_heldSurface_e (fun q => laws_heldSurface q.1 q.2) laws_heldSurface_v
theorem laws_heldSurface_i : ∀ a b, laws_heldSurface_e a = laws_heldSurface_e b → a = b := by rintro ⟨⟨x0, x1, x2⟩, x3⟩ ⟨⟨y0, y1, y2⟩, y3⟩ h; simp [laws_heldSurface_e] at h; simp [h]
@[simp] theorem laws_heldSurface_k (z0 : Int) (z1 : Int) (z2 : List TColor) (z3 : Int) : laws_heldSurface_x [AV.agg [AV.int .i64 z0, AV.int .i64 z1, AV.fsl (List.map eColor z2)], AV.int .i64 z3] [] = mapR (laws_heldSurface ⟨z0, z1, z2⟩ z3) (fun r => (AV.int .i64 r, [])) :=
  xOf_eq laws_heldSurface_i (⟨z0, z1, z2⟩, z3)
/-! laws_FnExactLayOver: function 10 -/
noncomputable def laws_FnExactLayOver (a0 : TSurface) (a1 : TSurface) (a2 : Int) (a3 : Int) : Option ((Bool)) :=
  bnd (laws_szSurface a0 1048576) fun v1 =>
  cnd (ile 0 v1) (
   bnd (laws_szSurface a1 v1) fun v2 =>
   cnd (ile 0 v2) (
    bnd (laws_toSurface a0) fun (w4, w5, w6) =>
    bnd (laws_toSurface a1) fun (w8, w9, w10) =>
    bnd (spec_LayOver (TSurface.mk w4 w5 w6) (TSurface.mk w8 w9 w10) a2 a3) fun v11 =>
    bnd (impl_LayOver (TSurface.mk w4 w5 w6) (TSurface.mk w8 w9 w10) a2 a3) fun (w13, w14, w15) =>
    bnd (laws_eqSurface (TSurface.mk w13 w14 w15) v11) fun v16 =>
    cnd v16 (
     bnd (laws_eqSurface (TSurface.mk w4 w5 w6) (TSurface.mk w4 w5 w6)) fun v17 =>
     cnd v17 (
      bnd (laws_eqSurface (TSurface.mk w8 w9 w10) (TSurface.mk w8 w9 w10)) fun v18 =>
      cnd v18 (
       bnd (laws_markSurface w4 w5 1 w6) fun (w20, w21) =>
       bnd (laws_markSurface w8 w9 w20 w10) fun (w23, w24) =>
       cnd (ile 0 w23) (
        bnd (laws_markSurface w13 w14 1 w15) fun (w26, w27) =>
        bnd (laws_heldSurface (TSurface.mk w13 w14 w27) 1) fun v28 =>
        cnd (ile 0 v28) (
         cnd (ieq v28 w26) (
          some true) (
          some false)) (
         some false)) (
        some false)) (
       some false)) (
      some false)) (
     some false)) (
    some true)) (
   some true)
noncomputable def laws_FnExactLayOver_e (q : (TSurface) × (TSurface) × (Int) × (Int)) : List AV × List Ob := ([AV.agg [AV.int .i64 q.1.w, AV.int .i64 q.1.h, AV.fsl (List.map eColor q.1.pix)], AV.agg [AV.int .i64 q.2.1.w, AV.int .i64 q.2.1.h, AV.fsl (List.map eColor q.2.1.pix)], AV.int .i64 q.2.2.1, AV.int .i64 q.2.2.2], [])
noncomputable def laws_FnExactLayOver_v (q : (TSurface) × (TSurface) × (Int) × (Int)) (r : (Bool)) : AV × List Ob := (AV.bool r, [])
noncomputable def laws_FnExactLayOver_x : List AV → List Ob → Option (AV × List Ob) := xOf laws_FnExactLayOver_e (fun q => laws_FnExactLayOver q.1 q.2.1 q.2.2.1 q.2.2.2) laws_FnExactLayOver_v
theorem laws_FnExactLayOver_i : ∀ a b, laws_FnExactLayOver_e a = laws_FnExactLayOver_e b → a = b := by rintro ⟨⟨x0, x1, x2⟩, ⟨x3, x4, x5⟩, x6, x7⟩ ⟨⟨y0, y1, y2⟩, ⟨y3, y4, y5⟩, y6, y7⟩ h; simp [laws_FnExactLayOver_e] at h; simp [h]
@[simp] theorem laws_FnExactLayOver_k (z0 : Int) (z1 : Int) (z2 : List TColor) (z3 : Int) (z4 : Int) (z5 : List TColor) (z6 : Int) (z7 : Int) : laws_FnExactLayOver_x [AV.agg [AV.int .i64 z0, AV.int .i64 z1, AV.fsl (List.map eColor z2)], AV.agg [AV.int .i64 z3, AV.int .i64 z4, AV.fsl (List.map eColor z5)], AV.int .i64 z6, AV.int .i64 z7] [] = mapR (laws_FnExactLayOver ⟨z0, z1, z2⟩ ⟨z3, z4, z5⟩ z6 z7) (fun r => (AV.bool r, [])) :=
  xOf_eq laws_FnExactLayOver_i (⟨z0, z1, z2⟩, ⟨z3, z4, z5⟩, z6, z7)
end Go.Proofs.Ytoafihhhdnmliaa.Am
