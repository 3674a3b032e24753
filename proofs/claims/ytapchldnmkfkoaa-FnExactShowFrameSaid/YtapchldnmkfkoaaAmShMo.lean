import Derived.Test.YtapchldnmkfkoaaAmShTy
set_option linter.unusedVariables false
set_option linter.unusedSimpArgs false
set_option linter.unusedSectionVars false
namespace Go.Proofs.Ytapchldnmkfkoaa.Am
open Go Go.Proofs
set_option maxRecDepth 100000
set_option linter.unusedSimpArgs false
set_option linter.unusedVariables false
set_option maxHeartbeats 4000000
/-! laws_szColorS: function 49 -/
noncomputable def laws_szColorS (a0 : List TColor) (a1 : Int) : Option ((Int)) :=
  cnd (ile 0 (IntKind.i64.wrap (a1 - (List.length a0 : Int)))) (
   some (IntKind.i64.wrap (a1 - (List.length a0 : Int)))) (
   some (-1))
noncomputable def laws_szColorS_e (q : (List TColor) × (Int)) : List AV × List Ob := ([AV.fsl (List.map eColor q.1), AV.int .i64 q.2], [])
noncomputable def laws_szColorS_v (q : (List TColor) × (Int)) (r : (Int)) : AV × List Ob := (AV.int .i64 r, [])
noncomputable def laws_szColorS_x : List AV → List Ob → Option (AV × List Ob) := xOf laws_szColorS_e (fun q => laws_szColorS q.1 q.2) laws_szColorS_v
theorem laws_szColorS_i : ∀ a b, laws_szColorS_e a = laws_szColorS_e b → a = b := by rintro ⟨x0, x1⟩ ⟨y0, y1⟩ h; simp [laws_szColorS_e] at h; simp [h]
@[simp] theorem laws_szColorS_k (z0 : List TColor) (z1 : Int) : laws_szColorS_x [AV.fsl (List.map eColor z0), AV.int .i64 z1] [] = mapR (laws_szColorS z0 z1) (fun r => (AV.int .i64 r, [])) :=
  xOf_eq laws_szColorS_i (z0, z1)
/-! laws_szSurface: function 9 -/
noncomputable def laws_szSurface (a0 : TSurface) (a1 : Int) : Option ((Int)) :=
  bnd (laws_szColorS a0.pix a1) fun v1 =>
  cnd (ile 0 v1) (
   some v1) (
   some (-1))
noncomputable def laws_szSurface_e (q : (TSurface) × (Int)) : List AV × List Ob := ([AV.agg [AV.int .i64 q.1.w, AV.int .i64 q.1.h, AV.fsl (List.map eColor q.1.pix)], AV.int .i64 q.2], [])
noncomputable def laws_szSurface_v (q : (TSurface) × (Int)) (r : (Int)) : AV × List Ob := (AV.int .i64 r, [])
noncomputable def laws_szSurface_x : List AV → List Ob → Option (AV × List Ob) := xOf laws_szSurface_e (fun q => laws_szSurface q.1 q.2) laws_szSurface_v
theorem laws_szSurface_i : ∀ a b, laws_szSurface_e a = laws_szSurface_e b → a = b := by rintro ⟨⟨x0, x1, x2⟩, x3⟩ ⟨⟨y0, y1, y2⟩, y3⟩ h; simp [laws_szSurface_e] at h; simp [h]
@[simp] theorem laws_szSurface_k (z0 : Int) (z1 : Int) (z2 : List TColor) (z3 : Int) : laws_szSurface_x [AV.agg [AV.int .i64 z0, AV.int .i64 z1, AV.fsl (List.map eColor z2)], AV.int .i64 z3] [] = mapR (laws_szSurface ⟨z0, z1, z2⟩ z3) (fun r => (AV.int .i64 r, [])) :=
  xOf_eq laws_szSurface_i (⟨z0, z1, z2⟩, z3)
/-! laws_toColor: function 111 -/
noncomputable def laws_toColor (a0 : TColor) : Option ((TColor)) :=
  some a0
noncomputable def laws_toColor_e (q : (TColor)) : List AV × List Ob := ([AV.agg [AV.int .i64 q.r, AV.int .i64 q.g, AV.int .i64 q.b, AV.int .i64 q.a]], [])
noncomputable def laws_toColor_v (q : (TColor)) (r : (TColor)) : AV × List Ob := (AV.agg [AV.int .i64 r.r, AV.int .i64 r.g, AV.int .i64 r.b, AV.int .i64 r.a], [])
noncomputable def laws_toColor_x : List AV → List Ob → Option (AV × List Ob) := xOf laws_toColor_e (fun q => laws_toColor q) laws_toColor_v
theorem laws_toColor_i : ∀ a b, laws_toColor_e a = laws_toColor_e b → a = b := by rintro ⟨x0, x1, x2, x3⟩ ⟨y0, y1, y2, y3⟩ h; simp [laws_toColor_e] at h; simp [h]
@[simp] theorem laws_toColor_k (z0 : Int) (z1 : Int) (z2 : Int) (z3 : Int) : laws_toColor_x [AV.agg [AV.int .i64 z0, AV.int .i64 z1, AV.int .i64 z2, AV.int .i64 z3]] [] = mapR (laws_toColor ⟨z0, z1, z2, z3⟩) (fun r => (AV.agg [AV.int .i64 r.r, AV.int .i64 r.g, AV.int .i64 r.b, AV.int .i64 r.a], [])) :=
  xOf_eq laws_toColor_i ⟨z0, z1, z2, z3⟩
/-! laws_toColorS: function 52 -/
noncomputable def laws_toColorS_l0 (a0 : List TColor) : ((Int) × (List TColor)) → Option (((Int) × (List TColor)) ⊕ ((List TColor))) := fun (x6, x7) =>
  cnd (ile (List.length a0 : Int) x6) (
   some (.inr x7)) (
   bnd (idx a0 x6) fun v8 =>
   bnd (laws_toColor v8) fun v9 =>
   bnd (idx x7 x6) fun v10 =>
   nam ((List.set x7 (Int.toNat x6) v9) : List TColor) fun l11 =>
   some (.inl ((IntKind.i64.wrap (x6 + 1)), l11)))
noncomputable def laws_toColorS_l0_S (a0 : List TColor) : ((Int) × (List TColor)) → St := fun (x6, x7) => ⟨[(0, AV.fsl (List.map eColor a0)), (3, AV.osl 0 0 (List.length x7) (List.length x7)), (4, AV.int .i64 x6)], [(0, Ob.arr 4 (List.map eColor x7) false)], 1⟩
noncomputable def laws_toColorS_l0_X (a0 : List TColor) : ((List TColor)) → Ex × St := fun y12 => ((.exit 0), ⟨[(3, AV.osl 0 0 (List.length y12) (List.length y12))], [(0, Ob.arr 4 (List.map eColor y12) false)], 1⟩)
noncomputable def laws_toColorS (a0 : List TColor) : Option ((List TColor)) :=
  chkP (0 ≤ (List.length a0 : Int) ∧ (List.length a0 : Int) ≤ (List.length a0 : Int) ∧ (List.length a0 : Int) ≤ 17592186044416 ∧ (List.length a0 : Int) * 32 ≤ 17592186044416) (
  nam ((List.replicate (Int.toNat (List.length a0 : Int)) (TColor.mk 0 0 0 0)) : List TColor) fun l1 =>
  bnd (loopI (laws_toColorS_l0 a0) (0, l1)) fun y12 =>
  some y12)
noncomputable def laws_toColorS_e (q : (List TColor)) : List AV × List Ob := ([AV.fsl (List.map eColor q)], [])
noncomputable def laws_toColorS_v (q : (List TColor)) (r : (List TColor)) : AV × List Ob := (AV.fsl (List.map eColor r), [])
noncomputable def laws_toColorS_x : List AV → List Ob → Option (AV × List Ob) := xOf laws_toColorS_e (fun q => laws_toColorS q) laws_toColorS_v
theorem laws_toColorS_i : ∀ a b, laws_toColorS_e a = laws_toColorS_e b → a = b := by rintro x0 y0 h; simp [laws_toColorS_e] at h; simp [h]
@[simp] theorem laws_toColorS_k (z0 : List TColor) : laws_toColorS_x [AV.fsl (List.map eColor z0)] [] = mapR (laws_toColorS z0) (fun r => (AV.fsl (List.map eColor r), [])) :=
  xOf_eq laws_toColorS_i z0
/-! laws_toSurface: function 11 -/
noncomputable def laws_toSurface (a0 : TSurface) : Option ((TSurface)) :=
  bnd (laws_toColorS a0.pix) fun v1 =>
  some (TSurface.mk a0.w a0.h v1)
noncomputable def laws_toSurface_e (q : (TSurface)) : List AV × List Ob := ([AV.agg [AV.int .i64 q.w, AV.int .i64 q.h, AV.fsl (List.map eColor q.pix)]], [])
noncomputable def laws_toSurface_v (q : (TSurface)) (r : (TSurface)) : AV × List Ob := (AV.agg [AV.int .i64 r.w, AV.int .i64 r.h, AV.fsl (List.map eColor r.pix)], [])
noncomputable def laws_toSurface_x : List AV → List Ob → Option (AV × List Ob) := xOf laws_toSurface_e (fun q => laws_toSurface q) laws_toSurface_v
theorem laws_toSurface_i : ∀ a b, laws_toSurface_e a = laws_toSurface_e b → a = b := by rintro ⟨x0, x1, x2⟩ ⟨y0, y1, y2⟩ h; simp [laws_toSurface_e] at h; simp [h]
@[simp] theorem laws_toSurface_k (z0 : Int) (z1 : Int) (z2 : List TColor) : laws_toSurface_x [AV.agg [AV.int .i64 z0, AV.int .i64 z1, AV.fsl (List.map eColor z2)]] [] = mapR (laws_toSurface ⟨z0, z1, z2⟩) (fun r => (AV.agg [AV.int .i64 r.w, AV.int .i64 r.h, AV.fsl (List.map eColor r.pix)], [])) :=
  xOf_eq laws_toSurface_i ⟨z0, z1, z2⟩
/-! spec_l01In: function 71 -/
noncomputable def spec_l01In (a0 : Int) (a1 : Int) (a2 : Int) : Option ((Bool)) :=
  cnd (ile a1 a0) (
   some (ile a0 a2)) (
   some false)
noncomputable def spec_l01In_e (q : (Int) × (Int) × (Int)) : List AV × List Ob := ([AV.int .i64 q.1, AV.int .i64 q.2.1, AV.int .i64 q.2.2], [])
noncomputable def spec_l01In_v (q : (Int) × (Int) × (Int)) (r : (Bool)) : AV × List Ob := (AV.bool r, [])
noncomputable def spec_l01In_x : List AV → List Ob → Option (AV × List Ob) := xOf spec_l01In_e (fun q => spec_l01In q.1 q.2.1 q.2.2) spec_l01In_v
theorem spec_l01In_i : ∀ a b, spec_l01In_e a = spec_l01In_e b → a = b := by rintro ⟨x0, x1, x2⟩ ⟨y0, y1, y2⟩ h; simp [spec_l01In_e] at h; simp [h]
@[simp] theorem spec_l01In_k (z0 : Int) (z1 : Int) (z2 : Int) : spec_l01In_x [AV.int .i64 z0, AV.int .i64 z1, AV.int .i64 z2] [] = mapR (spec_l01In z0 z1 z2) (fun r => (AV.bool r, [])) :=
  xOf_eq spec_l01In_i (z0, z1, z2)
/-! spec_ColorOk: function 152 -/
noncomputable def spec_ColorOk (a0 : TColor) : Option ((Bool)) :=
  bnd (spec_l01In a0.r 0 255) fun v1 =>
  cnd v1 (
   bnd (spec_l01In a0.g 0 255) fun v2 =>
   cnd v2 (
    bnd (spec_l01In a0.b 0 255) fun v3 =>
    cnd v3 (
     bnd (spec_l01In a0.a 0 255) fun v4 =>
     some v4) (
     some false)) (
    some false)) (
   some false)
noncomputable def spec_ColorOk_e (q : (TColor)) : List AV × List Ob := ([AV.agg [AV.int .i64 q.r, AV.int .i64 q.g, AV.int .i64 q.b, AV.int .i64 q.a]], [])
noncomputable def spec_ColorOk_v (q : (TColor)) (r : (Bool)) : AV × List Ob := (AV.bool r, [])
noncomputable def spec_ColorOk_x : List AV → List Ob → Option (AV × List Ob) := xOf spec_ColorOk_e (fun q => spec_ColorOk q) spec_ColorOk_v
theorem spec_ColorOk_i : ∀ a b, spec_ColorOk_e a = spec_ColorOk_e b → a = b := by rintro ⟨x0, x1, x2, x3⟩ ⟨y0, y1, y2, y3⟩ h; simp [spec_ColorOk_e] at h; simp [h]
@[simp] theorem spec_ColorOk_k (z0 : Int) (z1 : Int) (z2 : Int) (z3 : Int) : spec_ColorOk_x [AV.agg [AV.int .i64 z0, AV.int .i64 z1, AV.int .i64 z2, AV.int .i64 z3]] [] = mapR (spec_ColorOk ⟨z0, z1, z2, z3⟩) (fun r => (AV.bool r, [])) :=
  xOf_eq spec_ColorOk_i ⟨z0, z1, z2, z3⟩
/-! spec_LaidOk: function 109 -/
noncomputable def spec_LaidOk (a0 : TColor) : Option ((Bool)) :=
  bnd (spec_ColorOk a0) fun v1 =>
  cnd v1 (
   cnd (ile a0.r a0.a) (
    cnd (ile a0.g a0.a) (
     some (ile a0.b a0.a)) (
     some false)) (
    some false)) (
   some false)
noncomputable def spec_LaidOk_e (q : (TColor)) : List AV × List Ob := ([AV.agg [AV.int .i64 q.r, AV.int .i64 q.g, AV.int .i64 q.b, AV.int .i64 q.a]], [])
noncomputable def spec_LaidOk_v (q : (TColor)) (r : (Bool)) : AV × List Ob := (AV.bool r, [])
noncomputable def spec_LaidOk_x : List AV → List Ob → Option (AV × List Ob) := xOf spec_LaidOk_e (fun q => spec_LaidOk q) spec_LaidOk_v
theorem spec_LaidOk_i : ∀ a b, spec_LaidOk_e a = spec_LaidOk_e b → a = b := by rintro ⟨x0, x1, x2, x3⟩ ⟨y0, y1, y2, y3⟩ h; simp [spec_LaidOk_e] at h; simp [h]
@[simp] theorem spec_LaidOk_k (z0 : Int) (z1 : Int) (z2 : Int) (z3 : Int) : spec_LaidOk_x [AV.agg [AV.int .i64 z0, AV.int .i64 z1, AV.int .i64 z2, AV.int .i64 z3]] [] = mapR (spec_LaidOk ⟨z0, z1, z2, z3⟩) (fun r => (AV.bool r, [])) :=
  xOf_eq spec_LaidOk_i ⟨z0, z1, z2, z3⟩
/-! spec_SurfaceOk: function 50 -/
noncomputable def spec_SurfaceOk_l0 (a0 : TSurface) : ((Int)) → Option (((Int)) ⊕ ((Unit) ⊕ (Unit))) := fun x5 =>
  cnd (ile (List.length a0.pix : Int) x5) (
   some (.inr (.inl ()))) (
   bnd (idx a0.pix x5) fun v6 =>
   bnd (spec_LaidOk v6) fun v7 =>
   cnd v7 (
    some (.inl (IntKind.i64.wrap (x5 + 1)))) (
    some (.inr (.inr ()))))
noncomputable def spec_SurfaceOk_l0_S (a0 : TSurface) : ((Int)) → St := fun x5 => ⟨[(1, AV.optr 0 0 3), (3, AV.int .i64 x5)], [(0, Ob.box [AV.int .i64 a0.w, AV.int .i64 a0.h, AV.fsl (List.map eColor a0.pix)])], 1⟩
noncomputable def spec_SurfaceOk_l0_X (a0 : TSurface) : ((Unit) ⊕ (Unit)) → Ex × St := fun q => match q with
  | .inl _ => ((.exit 0), ⟨[], [], 0⟩)
  | .inr _ => (.ret, ⟨[(2, AV.bool false)], [], 0⟩)
noncomputable def spec_SurfaceOk (a0 : TSurface) : Option ((Bool)) :=
  bnd (spec_l01In a0.w 1 12) fun v1 =>
  cnd v1 (
   bnd (spec_l01In a0.h 1 12) fun v2 =>
   cnd v2 (
    cnd (ieq (List.length a0.pix : Int) (IntKind.i64.wrap (a0.w * a0.h))) (
     bnd (loopI (spec_SurfaceOk_l0 a0) 0) fun q => match q with
     | .inl () =>
      some true
     | .inr () =>
      some false) (
     some false)) (
    some false)) (
   some false)
noncomputable def spec_SurfaceOk_e (q : (TSurface)) : List AV × List Ob := ([AV.agg [AV.int .i64 q.w, AV.int .i64 q.h, AV.fsl (List.map eColor q.pix)]], [])
noncomputable def spec_SurfaceOk_v (q : (TSurface)) (r : (Bool)) : AV × List Ob := (AV.bool r, [])
noncomputable def spec_SurfaceOk_x : List AV → List Ob → Option (AV × List Ob) := xOf spec_SurfaceOk_e (fun q => spec_SurfaceOk q) spec_SurfaceOk_v
theorem spec_SurfaceOk_i : ∀ a b, spec_SurfaceOk_e a = spec_SurfaceOk_e b → a = b := by rintro ⟨x0, x1, x2⟩ ⟨y0, y1, y2⟩ h; simp [spec_SurfaceOk_e] at h; simp [h]
@[simp] theorem spec_SurfaceOk_k (z0 : Int) (z1 : Int) (z2 : List TColor) : spec_SurfaceOk_x [AV.agg [AV.int .i64 z0, AV.int .i64 z1, AV.fsl (List.map eColor z2)]] [] = mapR (spec_SurfaceOk ⟨z0, z1, z2⟩) (fun r => (AV.bool r, [])) :=
  xOf_eq spec_SurfaceOk_i ⟨z0, z1, z2⟩
/-! spec_l01Figure: function 110 -/
noncomputable def spec_l01Figure (a0 : Int) : Option ((Int)) :=
  cnd (ile 10 a0) (
   some (IntKind.u8.wrap (IntKind.i64.wrap ((IntKind.i64.wrap (97 + a0)) - 10)))) (
   some (IntKind.u8.wrap (IntKind.i64.wrap (48 + a0))))
noncomputable def spec_l01Figure_e (q : (Int)) : List AV × List Ob := ([AV.int .i64 q], [])
noncomputable def spec_l01Figure_v (q : (Int)) (r : (Int)) : AV × List Ob := (AV.int .u8 r, [])
noncomputable def spec_l01Figure_x : List AV → List Ob → Option (AV × List Ob) := xOf spec_l01Figure_e (fun q => spec_l01Figure q) spec_l01Figure_v
theorem spec_l01Figure_i : ∀ a b, spec_l01Figure_e a = spec_l01Figure_e b → a = b := by rintro x0 y0 h; simp [spec_l01Figure_e] at h; simp [h]
@[simp] theorem spec_l01Figure_k (z0 : Int) : spec_l01Figure_x [AV.int .i64 z0] [] = mapR (spec_l01Figure z0) (fun r => (AV.int .u8 r, [])) :=
  xOf_eq spec_l01Figure_i z0
/-! spec_Hex: function 51 -/
noncomputable def spec_Hex_l0 (a0 : List UInt8) : ((Int) × (List Int)) → Option (((Int) × (List Int)) ⊕ ((List Int))) := fun (x4, x5) =>
  cnd (ile (List.length a0 : Int) x4) (
   some (.inr x5)) (
   bnd (idx a0 x4) fun b6 =>
   bnd (spec_l01Figure (IntKind.i64.wrap (Int.tdiv (IntKind.i64.wrap (b6.toNat : Int)) 16))) fun v7 =>
   bnd (spec_l01Figure (Int.tmod (IntKind.i64.wrap (b6.toNat : Int)) 16)) fun v8 =>
   chkP ((List.length x5 + 2) * 1 ≤ 17592186044416) (
   nam ((x5 ++ [v7, v8]) : List Int) fun l9 =>
   some (.inl ((IntKind.i64.wrap (x4 + 1)), l9))))
noncomputable def spec_Hex_l0_S (a0 : List UInt8) : ((Int) × (List Int)) → St := fun (x4, x5) => ⟨[(0, AV.str (bs a0)), (4, AV.osl 0 0 (List.length x5) (List.length x5)), (5, AV.int .i64 x4)], [(0, Ob.arr 1 (List.map (AV.int .u8) x5) false)], 1⟩
noncomputable def spec_Hex_l0_X (a0 : List UInt8) : ((List Int)) → Ex × St := fun y10 => ((.exit 0), ⟨[(4, AV.osl 0 0 (List.length y10) (List.length y10))], [(0, Ob.arr 1 (List.map (AV.int .u8) y10) false)], 1⟩)
noncomputable def spec_Hex (a0 : List UInt8) : Option ((List UInt8) × (Bool)) :=
  cnd (ile (List.length a0 : Int) 20000) (
   bnd (loopI (spec_Hex_l0 a0) (0, [])) fun y10 =>
   some ((toBs y10), true)) (
   some ([], false))
noncomputable def spec_Hex_e (q : (List UInt8)) : List AV × List Ob := ([AV.str (bs q)], [])
noncomputable def spec_Hex_v (q : (List UInt8)) (r : (List UInt8) × (Bool)) : AV × List Ob := (AV.tup [AV.str (bs r.1), AV.bool r.2], [])
noncomputable def spec_Hex_x : List AV → List Ob → Option (AV × List Ob) := xOf spec_Hex_e (fun q => spec_Hex q) spec_Hex_v
theorem spec_Hex_i : ∀ a b, spec_Hex_e a = spec_Hex_e b → a = b := by rintro x0 y0 h; simp [spec_Hex_e] at h; simp [h]
@[simp] theorem spec_Hex_k (z0 : List UInt8) : spec_Hex_x [AV.str (bs z0)] [] = mapR (spec_Hex z0) (fun r => (AV.tup [AV.str (bs r.1), AV.bool r.2], [])) :=
  xOf_eq spec_Hex_i z0
/-! spec_ShowFrame: function 10 -/
noncomputable def spec_ShowFrame_l0 (a0 : TSurface) (x14 : Int) : ((List UInt8) × (Int)) → Option (((List UInt8) × (Int)) ⊕ ((List UInt8))) := fun (x19, x20) =>
  cnd (ile a0.w x20) (
   some (.inr x19)) (
   bnd (idx a0.pix (IntKind.i64.wrap ((IntKind.i64.wrap (x14 * a0.w)) + x20))) fun v21 =>
   bnd (spec_Hex (toBs [(IntKind.u8.wrap v21.a)])) fun (w23, w24) =>
   chkP (((List.length x19 + List.length w23 : Nat) : Int) ≤ 9223372036854775807) (
   some (.inl ((x19 ++ w23), (IntKind.i64.wrap (x20 + 1))))))
noncomputable def spec_ShowFrame_l0_S (a0 : TSurface) (x14 : Int) : ((List UInt8) × (Int)) → St := fun (x19, x20) => ⟨[(1, AV.optr 0 0 3), (3, AV.str (bs x19)), (4, AV.int .i64 x14), (5, AV.int .i64 x20)], [(0, Ob.box [AV.int .i64 a0.w, AV.int .i64 a0.h, AV.fsl (List.map eColor a0.pix)])], 1⟩
noncomputable def spec_ShowFrame_l0_X (a0 : TSurface) (x14 : Int) : ((List UInt8)) → Ex × St := fun y25 => ((.exit 2), ⟨[(1, AV.optr 0 0 3), (3, AV.str (bs y25)), (4, AV.int .i64 x14)], [(0, Ob.box [AV.int .i64 a0.w, AV.int .i64 a0.h, AV.fsl (List.map eColor a0.pix)])], 1⟩)
noncomputable def spec_ShowFrame_l1 (a0 : TSurface) : ((List UInt8) × (Int)) → Option (((List UInt8) × (Int)) ⊕ ((List UInt8))) := fun (x13, x14) =>
  cnd (ile a0.h x14) (
   some (.inr x13)) (
   bnd (loopI (spec_ShowFrame_l0 a0 x14) (x13, 0)) fun y25 =>
   chkP (((List.length y25 + List.length [10] : Nat) : Int) ≤ 9223372036854775807) (
   some (.inl ((y25 ++ [10]), (IntKind.i64.wrap (x14 + 1))))))
noncomputable def spec_ShowFrame_l1_S (a0 : TSurface) : ((List UInt8) × (Int)) → St := fun (x13, x14) => ⟨[(1, AV.optr 0 0 3), (3, AV.str (bs x13)), (4, AV.int .i64 x14)], [(0, Ob.box [AV.int .i64 a0.w, AV.int .i64 a0.h, AV.fsl (List.map eColor a0.pix)])], 1⟩
noncomputable def spec_ShowFrame_l1_X (a0 : TSurface) : ((List UInt8)) → Ex × St := fun y26 => ((.exit 0), ⟨[(3, AV.str (bs y26))], [], 0⟩)
noncomputable def spec_ShowFrame (a0 : TSurface) : Option ((List UInt8)) :=
  bnd (spec_SurfaceOk a0) fun v1 =>
  cnd v1 (
   bnd (loopI (spec_ShowFrame_l1 a0) ([], 0)) fun y26 =>
   some y26) (
   some [])
noncomputable def spec_ShowFrame_e (q : (TSurface)) : List AV × List Ob := ([AV.agg [AV.int .i64 q.w, AV.int .i64 q.h, AV.fsl (List.map eColor q.pix)]], [])
noncomputable def spec_ShowFrame_v (q : (TSurface)) (r : (List UInt8)) : AV × List Ob := (AV.str (bs r), [])
noncomputable def spec_ShowFrame_x : List AV → List Ob → Option (AV × List Ob) := xOf spec_ShowFrame_e (fun q => spec_ShowFrame q) spec_ShowFrame_v
theorem spec_ShowFrame_i : ∀ a b, spec_ShowFrame_e a = spec_ShowFrame_e b → a = b := by rintro ⟨x0, x1, x2⟩ ⟨y0, y1, y2⟩ h; simp [spec_ShowFrame_e] at h; simp [h]
@[simp] theorem spec_ShowFrame_k (z0 : Int) (z1 : Int) (z2 : List TColor) : spec_ShowFrame_x [AV.agg [AV.int .i64 z0, AV.int .i64 z1, AV.fsl (List.map eColor z2)]] [] = mapR (spec_ShowFrame ⟨z0, z1, z2⟩) (fun r => (AV.str (bs r), [])) :=
  xOf_eq spec_ShowFrame_i ⟨z0, z1, z2⟩
/-! impl_inRange: function 75 -/
noncomputable def impl_inRange (a0 : Int) (a1 : Int) (a2 : Int) : Option ((Bool)) :=
  cnd (ile a1 a0) (
   some (ile a0 a2)) (
   some false)
noncomputable def impl_inRange_e (q : (Int) × (Int) × (Int)) : List AV × List Ob := ([AV.int .i64 q.1, AV.int .i64 q.2.1, AV.int .i64 q.2.2], [])
noncomputable def impl_inRange_v (q : (Int) × (Int) × (Int)) (r : (Bool)) : AV × List Ob := (AV.bool r, [])
noncomputable def impl_inRange_x : List AV → List Ob → Option (AV × List Ob) := xOf impl_inRange_e (fun q => impl_inRange q.1 q.2.1 q.2.2) impl_inRange_v
theorem impl_inRange_i : ∀ a b, impl_inRange_e a = impl_inRange_e b → a = b := by rintro ⟨x0, x1, x2⟩ ⟨y0, y1, y2⟩ h; simp [impl_inRange_e] at h; simp [h]
@[simp] theorem impl_inRange_k (z0 : Int) (z1 : Int) (z2 : Int) : impl_inRange_x [AV.int .i64 z0, AV.int .i64 z1, AV.int .i64 z2] [] = mapR (impl_inRange z0 z1 z2) (fun r => (AV.bool r, [])) :=
  xOf_eq impl_inRange_i (z0, z1, z2)
/-! impl_isSide: function 112 -/
noncomputable def impl_isSide (a0 : Int) : Option ((Bool)) :=
  bnd (impl_inRange a0 1 12) fun v1 =>
  some v1
noncomputable def impl_isSide_e (q : (Int)) : List AV × List Ob := ([AV.int .i64 q], [])
noncomputable def impl_isSide_v (q : (Int)) (r : (Bool)) : AV × List Ob := (AV.bool r, [])
noncomputable def impl_isSide_x : List AV → List Ob → Option (AV × List Ob) := xOf impl_isSide_e (fun q => impl_isSide q) impl_isSide_v
theorem impl_isSide_i : ∀ a b, impl_isSide_e a = impl_isSide_e b → a = b := by rintro x0 y0 h; simp [impl_isSide_e] at h; simp [h]
@[simp] theorem impl_isSide_k (z0 : Int) : impl_isSide_x [AV.int .i64 z0] [] = mapR (impl_isSide z0) (fun r => (AV.bool r, [])) :=
  xOf_eq impl_isSide_i z0
/-! impl_isByte: function 139 -/
noncomputable def impl_isByte (a0 : Int) : Option ((Bool)) :=
  bnd (impl_inRange a0 0 255) fun v1 =>
  some v1
noncomputable def impl_isByte_e (q : (Int)) : List AV × List Ob := ([AV.int .i64 q], [])
noncomputable def impl_isByte_v (q : (Int)) (r : (Bool)) : AV × List Ob := (AV.bool r, [])
noncomputable def impl_isByte_x : List AV → List Ob → Option (AV × List Ob) := xOf impl_isByte_e (fun q => impl_isByte q) impl_isByte_v
theorem impl_isByte_i : ∀ a b, impl_isByte_e a = impl_isByte_e b → a = b := by rintro x0 y0 h; simp [impl_isByte_e] at h; simp [h]
@[simp] theorem impl_isByte_k (z0 : Int) : impl_isByte_x [AV.int .i64 z0] [] = mapR (impl_isByte z0) (fun r => (AV.bool r, [])) :=
  xOf_eq impl_isByte_i z0
/-! impl_ColorOk: function 153 -/
noncomputable def impl_ColorOk (a0 : TColor) : Option ((Bool)) :=
  bnd (impl_isByte a0.r) fun v1 =>
  cnd v1 (
   bnd (impl_isByte a0.g) fun v2 =>
   cnd v2 (
    bnd (impl_isByte a0.b) fun v3 =>
    cnd v3 (
     bnd (impl_isByte a0.a) fun v4 =>
     some v4) (
     some false)) (
    some false)) (
   some false)
noncomputable def impl_ColorOk_e (q : (TColor)) : List AV × List Ob := ([AV.agg [AV.int .i64 q.r, AV.int .i64 q.g, AV.int .i64 q.b, AV.int .i64 q.a]], [])
noncomputable def impl_ColorOk_v (q : (TColor)) (r : (Bool)) : AV × List Ob := (AV.bool r, [])
noncomputable def impl_ColorOk_x : List AV → List Ob → Option (AV × List Ob) := xOf impl_ColorOk_e (fun q => impl_ColorOk q) impl_ColorOk_v
theorem impl_ColorOk_i : ∀ a b, impl_ColorOk_e a = impl_ColorOk_e b → a = b := by rintro ⟨x0, x1, x2, x3⟩ ⟨y0, y1, y2, y3⟩ h; simp [impl_ColorOk_e] at h; simp [h]
@[simp] theorem impl_ColorOk_k (z0 : Int) (z1 : Int) (z2 : Int) (z3 : Int) : impl_ColorOk_x [AV.agg [AV.int .i64 z0, AV.int .i64 z1, AV.int .i64 z2, AV.int .i64 z3]] [] = mapR (impl_ColorOk ⟨z0, z1, z2, z3⟩) (fun r => (AV.bool r, [])) :=
  xOf_eq impl_ColorOk_i ⟨z0, z1, z2, z3⟩
/-! impl_LaidOk: function 113 -/
noncomputable def impl_LaidOk (a0 : TColor) : Option ((Bool)) :=
  bnd (impl_ColorOk a0) fun v1 =>
  cnd v1 (
   cnd (ile a0.r a0.a) (
    cnd (ile a0.g a0.a) (
     some (ile a0.b a0.a)) (
     some false)) (
    some false)) (
   some false)
noncomputable def impl_LaidOk_e (q : (TColor)) : List AV × List Ob := ([AV.agg [AV.int .i64 q.r, AV.int .i64 q.g, AV.int .i64 q.b, AV.int .i64 q.a]], [])
noncomputable def impl_LaidOk_v (q : (TColor)) (r : (Bool)) : AV × List Ob := (AV.bool r, [])
noncomputable def impl_LaidOk_x : List AV → List Ob → Option (AV × List Ob) := xOf impl_LaidOk_e (fun q => impl_LaidOk q) impl_LaidOk_v
theorem impl_LaidOk_i : ∀ a b, impl_LaidOk_e a = impl_LaidOk_e b → a = b := by rintro ⟨x0, x1, x2, x3⟩ ⟨y0, y1, y2, y3⟩ h; simp [impl_LaidOk_e] at h; simp [h]
@[simp] theorem impl_LaidOk_k (z0 : Int) (z1 : Int) (z2 : Int) (z3 : Int) : impl_LaidOk_x [AV.agg [AV.int .i64 z0, AV.int .i64 z1, AV.int .i64 z2, AV.int .i64 z3]] [] = mapR (impl_LaidOk ⟨z0, z1, z2, z3⟩) (fun r => (AV.bool r, [])) :=
  xOf_eq impl_LaidOk_i ⟨z0, z1, z2, z3⟩
/-! impl_SurfaceOk: function 53 -/
noncomputable def impl_SurfaceOk_l0 (a0 : TSurface) : ((Int)) → Option (((Int)) ⊕ ((Unit) ⊕ (Unit))) := fun x5 =>
  cnd (ile (List.length a0.pix : Int) x5) (
   some (.inr (.inl ()))) (
   bnd (idx a0.pix x5) fun v6 =>
   bnd (impl_LaidOk v6) fun v7 =>
   cnd v7 (
    some (.inl (IntKind.i64.wrap (x5 + 1)))) (
    some (.inr (.inr ()))))
noncomputable def impl_SurfaceOk_l0_S (a0 : TSurface) : ((Int)) → St := fun x5 => ⟨[(27, AV.fsl (List.map eColor a0.pix)), (28, AV.int .i64 (List.length a0.pix : Int)), (29, AV.int .i64 x5)], [], 0⟩
noncomputable def impl_SurfaceOk_l0_X (a0 : TSurface) : ((Unit) ⊕ (Unit)) → Ex × St := fun q => match q with
  | .inl _ => ((.exit 0), ⟨[], [], 0⟩)
  | .inr _ => (.ret, ⟨[(2, AV.bool false)], [], 0⟩)
noncomputable def impl_SurfaceOk (a0 : TSurface) : Option ((Bool)) :=
  bnd (impl_isSide a0.w) fun v1 =>
  cnd v1 (
   bnd (impl_isSide a0.h) fun v2 =>
   cnd v2 (
    cnd (ieq (List.length a0.pix : Int) (IntKind.i64.wrap (a0.w * a0.h))) (
     bnd (loopI (impl_SurfaceOk_l0 a0) 0) fun q => match q with
     | .inl () =>
      some true
     | .inr () =>
      some false) (
     some false)) (
    some false)) (
   some false)
noncomputable def impl_SurfaceOk_e (q : (TSurface)) : List AV × List Ob := ([AV.agg [AV.int .i64 q.w, AV.int .i64 q.h, AV.fsl (List.map eColor q.pix)]], [])
noncomputable def impl_SurfaceOk_v (q : (TSurface)) (r : (Bool)) : AV × List Ob := (AV.bool r, [])
noncomputable def impl_SurfaceOk_x : List AV → List Ob → Option (AV × List Ob) := xOf impl_SurfaceOk_e (fun q => impl_SurfaceOk q) impl_SurfaceOk_v
theorem impl_SurfaceOk_i : ∀ a b, impl_SurfaceOk_e a = impl_SurfaceOk_e b → a = b := by rintro ⟨x0, x1, x2⟩ ⟨y0, y1, y2⟩ h; simp [impl_SurfaceOk_e] at h; simp [h]
@[simp] theorem impl_SurfaceOk_k (z0 : Int) (z1 : Int) (z2 : List TColor) : impl_SurfaceOk_x [AV.agg [AV.int .i64 z0, AV.int .i64 z1, AV.fsl (List.map eColor z2)]] [] = mapR (impl_SurfaceOk ⟨z0, z1, z2⟩) (fun r => (AV.bool r, [])) :=
  xOf_eq impl_SurfaceOk_i ⟨z0, z1, z2⟩
/-! impl_Hex: function 54 -/
noncomputable def impl_Hex_l0 (a0 : List UInt8) : ((Int) × (List Int)) → Option (((Int) × (List Int)) ⊕ ((List Int))) := fun (x4, x5) =>
  cnd (ile (List.length a0 : Int) x4) (
   some (.inr x5)) (
   bnd (idx a0 x4) fun b6 =>
   bnd (idx ([48, 49, 50, 51, 52, 53, 54, 55, 56, 57, 97, 98, 99, 100, 101, 102] : List UInt8) (shrI .u8 (b6.toNat : Int) 4)) fun b7 =>
   bnd (idx ([48, 49, 50, 51, 52, 53, 54, 55, 56, 57, 97, 98, 99, 100, 101, 102] : List UInt8) (andI .u8 (b6.toNat : Int) 15)) fun b8 =>
   chkP ((List.length x5 + 2) * 1 ≤ 17592186044416) (
   nam ((x5 ++ [(b7.toNat : Int), (b8.toNat : Int)]) : List Int) fun l9 =>
   some (.inl ((IntKind.i64.wrap (x4 + 1)), l9))))
noncomputable def impl_Hex_l0_S (a0 : List UInt8) : ((Int) × (List Int)) → St := fun (x4, x5) => ⟨[(0, AV.str (bs a0)), (4, AV.str (bs [48, 49, 50, 51, 52, 53, 54, 55, 56, 57, 97, 98, 99, 100, 101, 102])), (5, AV.osl 0 0 (List.length x5) (List.length x5)), (6, AV.int .i64 x4)], [(0, Ob.arr 1 (List.map (AV.int .u8) x5) false)], 1⟩
noncomputable def impl_Hex_l0_X (a0 : List UInt8) : ((List Int)) → Ex × St := fun y10 => ((.exit 0), ⟨[(5, AV.osl 0 0 (List.length y10) (List.length y10))], [(0, Ob.arr 1 (List.map (AV.int .u8) y10) false)], 1⟩)
noncomputable def impl_Hex (a0 : List UInt8) : Option ((List UInt8) × (Bool)) :=
  cnd (ile (List.length a0 : Int) 20000) (
   chkP (0 ≤ (IntKind.i64.wrap (2 * (List.length a0 : Int))) ∧ (IntKind.i64.wrap (2 * (List.length a0 : Int))) ≤ 17592186044416 ∧ (IntKind.i64.wrap (2 * (List.length a0 : Int))) * 1 ≤ 17592186044416) (
   bnd (loopI (impl_Hex_l0 a0) (0, [])) fun y10 =>
   some ((toBs y10), true))) (
   some ([], false))
noncomputable def impl_Hex_e (q : (List UInt8)) : List AV × List Ob := ([AV.str (bs q)], [])
noncomputable def impl_Hex_v (q : (List UInt8)) (r : (List UInt8) × (Bool)) : AV × List Ob := (AV.tup [AV.str (bs r.1), AV.bool r.2], [])
noncomputable def impl_Hex_x : List AV → List Ob → Option (AV × List Ob) := xOf impl_Hex_e (fun q => impl_Hex q) impl_Hex_v
theorem impl_Hex_i : ∀ a b, impl_Hex_e a = impl_Hex_e b → a = b := by rintro x0 y0 h; simp [impl_Hex_e] at h; simp [h]
@[simp] theorem impl_Hex_k (z0 : List UInt8) : impl_Hex_x [AV.str (bs z0)] [] = mapR (impl_Hex z0) (fun r => (AV.tup [AV.str (bs r.1), AV.bool r.2], [])) :=
  xOf_eq impl_Hex_i z0
/-! impl_ShowFrame: function 12 -/
noncomputable def impl_ShowFrame (a0 : TSurface) : Option ((List UInt8)) :=
  bnd (impl_SurfaceOk a0) fun v2 =>
  cnd v2 (
   chkP (List.length a0.pix ≤ 1099511627776) (
   bnd (showL impl_Hex a0.w 0 (List.map (fun x => x.a) a0.pix) []) fun v3 =>
   some v3)) (
   some [])
noncomputable def impl_ShowFrame_e (q : (TSurface)) : List AV × List Ob := ([AV.agg [AV.int .i64 q.w, AV.int .i64 q.h, AV.fsl (List.map eColor q.pix)]], [])
noncomputable def impl_ShowFrame_v (q : (TSurface)) (r : (List UInt8)) : AV × List Ob := (AV.str (bs r), [])
noncomputable def impl_ShowFrame_x : List AV → List Ob → Option (AV × List Ob) := xOf impl_ShowFrame_e (fun q => impl_ShowFrame q) impl_ShowFrame_v
theorem impl_ShowFrame_i : ∀ a b, impl_ShowFrame_e a = impl_ShowFrame_e b → a = b := by rintro ⟨x0, x1, x2⟩ ⟨y0, y1, y2⟩ h; simp [impl_ShowFrame_e] at h; simp [h]
@[simp] theorem impl_ShowFrame_k (z0 : Int) (z1 : Int) (z2 : List TColor) : impl_ShowFrame_x [AV.agg [AV.int .i64 z0, AV.int .i64 z1, AV.fsl (List.map eColor z2)]] [] = mapR (impl_ShowFrame ⟨z0, z1, z2⟩) (fun r => (AV.str (bs r), [])) :=
  xOf_eq impl_ShowFrame_i ⟨z0, z1, z2⟩
/-! laws_eqColor: function 115 -/
noncomputable def laws_eqColor (a0 : TColor) (a1 : TColor) : Option ((Bool)) :=
  cnd (ieq a0.r a1.r) (
   cnd (ieq a0.g a1.g) (
    cnd (ieq a0.b a1.b) (
     cnd (ieq a0.a a1.a) (
      some true) (
      some false)) (
     some false)) (
    some false)) (
   some false)
noncomputable def laws_eqColor_e (q : (TColor) × (TColor)) : List AV × List Ob := ([AV.agg [AV.int .i64 q.1.r, AV.int .i64 q.1.g, AV.int .i64 q.1.b, AV.int .i64 q.1.a], AV.agg [AV.int .i64 q.2.r, AV.int .i64 q.2.g, AV.int .i64 q.2.b, AV.int .i64 q.2.a]], [])
noncomputable def laws_eqColor_v (q : (TColor) × (TColor)) (r : (Bool)) : AV × List Ob := (AV.bool r, [])
noncomputable def laws_eqColor_x : List AV → List Ob → Option (AV × List Ob) := xOf laws_eqColor_e (fun q => laws_eqColor q.1 q.2) laws_eqColor_v
theorem laws_eqColor_i : ∀ a b, laws_eqColor_e a = laws_eqColor_e b → a = b := by rintro ⟨⟨x0, x1, x2, x3⟩, ⟨x4, x5, x6, x7⟩⟩ ⟨⟨y0, y1, y2, y3⟩, ⟨y4, y5, y6, y7⟩⟩ h; simp [laws_eqColor_e] at h; simp [h]
@[simp] theorem laws_eqColor_k (z0 : Int) (z1 : Int) (z2 : Int) (z3 : Int) (z4 : Int) (z5 : Int) (z6 : Int) (z7 : Int) : laws_eqColor_x [AV.agg [AV.int .i64 z0, AV.int .i64 z1, AV.int .i64 z2, AV.int .i64 z3], AV.agg [AV.int .i64 z4, AV.int .i64 z5, AV.int .i64 z6, AV.int .i64 z7]] [] = mapR (laws_eqColor ⟨z0, z1, z2, z3⟩ ⟨z4, z5, z6, z7⟩) (fun r => (AV.bool r, [])) :=
  xOf_eq laws_eqColor_i (⟨z0, z1, z2, z3⟩, ⟨z4, z5, z6, z7⟩)
/-! laws_eqColorS: function 58 -/
noncomputable def laws_eqColorS_l0 (a0 : List TColor) (a1 : List TColor) : ((Int)) → Option (((Int)) ⊕ ((Unit) ⊕ (Unit))) := fun x4 =>
  cnd (ile (List.length a0 : Int) x4) (
   some (.inr (.inl ()))) (
   bnd (idx a0 x4) fun v5 =>
   bnd (idx a1 x4) fun v6 =>
   bnd (laws_eqColor v5 v6) fun v7 =>
   cnd v7 (
    some (.inl (IntKind.i64.wrap (x4 + 1)))) (
    some (.inr (.inr ()))))
noncomputable def laws_eqColorS_l0_S (a0 : List TColor) (a1 : List TColor) : ((Int)) → St := fun x4 => ⟨[(0, AV.fsl (List.map eColor a0)), (1, AV.fsl (List.map eColor a1)), (5, AV.int .i64 x4)], [], 0⟩
noncomputable def laws_eqColorS_l0_X (a0 : List TColor) (a1 : List TColor) : ((Unit) ⊕ (Unit)) → Ex × St := fun q => match q with
  | .inl _ => ((.exit 0), ⟨[], [], 0⟩)
  | .inr _ => (.ret, ⟨[(4, AV.bool false)], [], 0⟩)
noncomputable def laws_eqColorS (a0 : List TColor) (a1 : List TColor) : Option ((Bool)) :=
  cnd (ieq (List.length a0 : Int) (List.length a1 : Int)) (
   bnd (loopI (laws_eqColorS_l0 a0 a1) 0) fun q => match q with
   | .inl () =>
    some true
   | .inr () =>
    some false) (
   some false)
noncomputable def laws_eqColorS_e (q : (List TColor) × (List TColor)) : List AV × List Ob := ([AV.fsl (List.map eColor q.1), AV.fsl (List.map eColor q.2)], [])
noncomputable def laws_eqColorS_v (q : (List TColor) × (List TColor)) (r : (Bool)) : AV × List Ob := (AV.bool r, [])
noncomputable def laws_eqColorS_x : List AV → List Ob → Option (AV × List Ob) := xOf laws_eqColorS_e (fun q => laws_eqColorS q.1 q.2) laws_eqColorS_v
theorem laws_eqColorS_i : ∀ a b, laws_eqColorS_e a = laws_eqColorS_e b → a = b := by rintro ⟨x0, x1⟩ ⟨y0, y1⟩ h; simp [laws_eqColorS_e] at h; simp [h]
@[simp] theorem laws_eqColorS_k (z0 : List TColor) (z1 : List TColor) : laws_eqColorS_x [AV.fsl (List.map eColor z0), AV.fsl (List.map eColor z1)] [] = mapR (laws_eqColorS z0 z1) (fun r => (AV.bool r, [])) :=
  xOf_eq laws_eqColorS_i (z0, z1)
/-! laws_eqSurface: function 13 -/
noncomputable def laws_eqSurface (a0 : TSurface) (a1 : TSurface) : Option ((Bool)) :=
  cnd (ieq a0.w a1.w) (
   cnd (ieq a0.h a1.h) (
    bnd (laws_eqColorS a0.pix a1.pix) fun v1 =>
    cnd v1 (
     some true) (
     some false)) (
    some false)) (
   some false)
noncomputable def laws_eqSurface_e (q : (TSurface) × (TSurface)) : List AV × List Ob := ([AV.agg [AV.int .i64 q.1.w, AV.int .i64 q.1.h, AV.fsl (List.map eColor q.1.pix)], AV.agg [AV.int .i64 q.2.w, AV.int .i64 q.2.h, AV.fsl (List.map eColor q.2.pix)]], [])
noncomputable def laws_eqSurface_v (q : (TSurface) × (TSurface)) (r : (Bool)) : AV × List Ob := (AV.bool r, [])
noncomputable def laws_eqSurface_x : List AV → List Ob → Option (AV × List Ob) := xOf laws_eqSurface_e (fun q => laws_eqSurface q.1 q.2) laws_eqSurface_v
theorem laws_eqSurface_i : ∀ a b, laws_eqSurface_e a = laws_eqSurface_e b → a = b := by rintro ⟨⟨x0, x1, x2⟩, ⟨x3, x4, x5⟩⟩ ⟨⟨y0, y1, y2⟩, ⟨y3, y4, y5⟩⟩ h; simp [laws_eqSurface_e] at h; simp [h]
@[simp] theorem laws_eqSurface_k (z0 : Int) (z1 : Int) (z2 : List TColor) (z3 : Int) (z4 : Int) (z5 : List TColor) : laws_eqSurface_x [AV.agg [AV.int .i64 z0, AV.int .i64 z1, AV.fsl (List.map eColor z2)], AV.agg [AV.int .i64 z3, AV.int .i64 z4, AV.fsl (List.map eColor z5)]] [] = mapR (laws_eqSurface ⟨z0, z1, z2⟩ ⟨z3, z4, z5⟩) (fun r => (AV.bool r, [])) :=
  xOf_eq laws_eqSurface_i (⟨z0, z1, z2⟩, ⟨z3, z4, z5⟩)
/-! laws_FnExactShowFrame: function 3 -/
noncomputable def laws_FnExactShowFrame (a0 : TSurface) : Option ((Bool)) :=
  bnd (laws_szSurface a0 1048576) fun v1 =>
  cnd (ile 0 v1) (
   bnd (laws_toSurface a0) fun v2 =>
   bnd (spec_ShowFrame v2) fun v3 =>
   bnd (impl_ShowFrame v2) fun v4 =>
   cnd (sq' v4 v3) (
    bnd (laws_eqSurface v2 v2) fun v5 =>
    cnd v5 (
     some true) (
     some false)) (
    some false)) (
   some true)
noncomputable def laws_FnExactShowFrame_e (q : (TSurface)) : List AV × List Ob := ([AV.agg [AV.int .i64 q.w, AV.int .i64 q.h, AV.fsl (List.map eColor q.pix)]], [])
noncomputable def laws_FnExactShowFrame_v (q : (TSurface)) (r : (Bool)) : AV × List Ob := (AV.bool r, [])
noncomputable def laws_FnExactShowFrame_x : List AV → List Ob → Option (AV × List Ob) := xOf laws_FnExactShowFrame_e (fun q => laws_FnExactShowFrame q) laws_FnExactShowFrame_v
theorem laws_FnExactShowFrame_i : ∀ a b, laws_FnExactShowFrame_e a = laws_FnExactShowFrame_e b → a = b := by rintro ⟨x0, x1, x2⟩ ⟨y0, y1, y2⟩ h; simp [laws_FnExactShowFrame_e] at h; simp [h]
@[simp] theorem laws_FnExactShowFrame_k (z0 : Int) (z1 : Int) (z2 : List TColor) : laws_FnExactShowFrame_x [AV.agg [AV.int .i64 z0, AV.int .i64 z1, AV.fsl (List.map eColor z2)]] [] = mapR (laws_FnExactShowFrame ⟨z0, z1, z2⟩) (fun r => (AV.bool r, [])) :=
  xOf_eq laws_FnExactShowFrame_i ⟨z0, z1, z2⟩
end Go.Proofs.Ytapchldnmkfkoaa.Am
