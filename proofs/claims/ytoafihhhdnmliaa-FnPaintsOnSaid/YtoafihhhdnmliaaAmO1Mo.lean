import Derived.Test.YtoafihhhdnmliaaAmO1Ty
set_option linter.unusedVariables false
set_option linter.unusedSimpArgs false
set_option linter.unusedSectionVars false
namespace Go.Proofs.Ytoafihhhdnmliaa.Am
open Go Go.Proofs
set_option maxRecDepth 100000
set_option linter.unusedSimpArgs false
set_option linter.unusedVariables false
set_option maxHeartbeats 4000000
/-! laws_big: function 28 -/
noncomputable def laws_big (a0 : List Int) : Option ((Bool)) :=
  some (!(ile (List.length a0 : Int) 1048576))
noncomputable def laws_big_e (q : (List Int)) : List AV × List Ob := ([AV.fsl (List.map (AV.int .u8) q)], [])
noncomputable def laws_big_v (q : (List Int)) (r : (Bool)) : AV × List Ob := (AV.bool r, [])
noncomputable def laws_big_x : List AV → List Ob → Option (AV × List Ob) := xOf laws_big_e (fun q => laws_big q) laws_big_v
theorem laws_big_i : ∀ a b, laws_big_e a = laws_big_e b → a = b := by rintro x0 y0 h; simp [laws_big_e] at h; simp [h]
@[simp] theorem laws_big_k (z0 : List Int) : laws_big_x [AV.fsl (List.map (AV.int .u8) z0)] [] = mapR (laws_big z0) (fun r => (AV.bool r, [])) :=
  xOf_eq laws_big_i z0
/-! spec_l01New: function 101 -/
noncomputable def spec_l01New_l0 (a0 : List Int) : ((Int) × (Int)) → Option (((Int) × (Int)) ⊕ ((Int))) := fun (x2, x3) =>
  cnd (ile (List.length a0 : Int) x3) (
   some (.inr x2)) (
   cnd (ile 4000 x3) (
    some (.inr x2)) (
    bnd (idx a0 x3) fun v4 =>
    some (.inl ((andI .i64 (IntKind.i64.wrap ((IntKind.i64.wrap ((IntKind.i64.wrap (x2 * 131)) + (IntKind.i64.wrap v4))) + 7)) 1073741823), (IntKind.i64.wrap (x3 + 1))))))
noncomputable def spec_l01New_l0_S (a0 : List Int) : ((Int) × (Int)) → St := fun (x2, x3) => ⟨[(0, AV.fsl (List.map (AV.int .u8) a0)), (3, AV.int .i64 x2), (4, AV.int .i64 x3)], [], 0⟩
noncomputable def spec_l01New_l0_X (a0 : List Int) : ((Int)) → Ex × St := fun y5 => ((.exit 0), ⟨[(0, AV.fsl (List.map (AV.int .u8) a0)), (3, AV.int .i64 y5)], [], 0⟩)
noncomputable def spec_l01New (a0 : List Int) : Option ((TL01Cur)) :=
  bnd (loopI (spec_l01New_l0 a0) ((IntKind.i64.wrap (28001 + (List.length a0 : Int))), 0)) fun y5 =>
  some (TL01Cur.mk a0 0 y5)
noncomputable def spec_l01New_e (q : (List Int)) : List AV × List Ob := ([AV.fsl (List.map (AV.int .u8) q)], [])
noncomputable def spec_l01New_v (q : (List Int)) (r : (TL01Cur)) : AV × List Ob := (AV.optr 0 0 3, [Ob.box [AV.fsl (List.map (AV.int .u8) r.b), AV.int .i64 r.i, AV.int .i64 r.h]])
noncomputable def spec_l01New_x : List AV → List Ob → Option (AV × List Ob) := xOf spec_l01New_e (fun q => spec_l01New q) spec_l01New_v
theorem spec_l01New_i : ∀ a b, spec_l01New_e a = spec_l01New_e b → a = b := by rintro x0 y0 h; simp [spec_l01New_e] at h; simp [h]
@[simp] theorem spec_l01New_k (z0 : List Int) : spec_l01New_x [AV.fsl (List.map (AV.int .u8) z0)] [] = mapR (spec_l01New z0) (fun r => (AV.optr 0 0 3, [Ob.box [AV.fsl (List.map (AV.int .u8) r.b), AV.int .i64 r.i, AV.int .i64 r.h]])) :=
  xOf_eq spec_l01New_i z0
/-! spec_l01Byte: function 109 -/
noncomputable def spec_l01Byte (a0 : TL01Cur) : Option ((Int) × (TL01Cur)) :=
  cnd (ile (List.length a0.b : Int) a0.i) (
   some ((andI .i64 (xorI .i64 (shrI .i64 (IntKind.i64.wrap ((IntKind.i64.wrap (a0.h * 6364136223846793005)) + 1442695040888963407)) 33) (shrI .i64 (IntKind.i64.wrap ((IntKind.i64.wrap (a0.h * 6364136223846793005)) + 1442695040888963407)) 45)) 255), (TL01Cur.mk a0.b a0.i (IntKind.i64.wrap ((IntKind.i64.wrap (a0.h * 6364136223846793005)) + 1442695040888963407))))) (
   bnd (idx a0.b a0.i) fun v1 =>
   some ((andI .i64 (IntKind.i64.wrap ((andI .i64 (xorI .i64 (shrI .i64 (IntKind.i64.wrap ((IntKind.i64.wrap (a0.h * 6364136223846793005)) + 1442695040888963407)) 33) (shrI .i64 (IntKind.i64.wrap ((IntKind.i64.wrap (a0.h * 6364136223846793005)) + 1442695040888963407)) 45)) 255) + (IntKind.i64.wrap v1))) 255), (TL01Cur.mk a0.b (IntKind.i64.wrap (a0.i + 1)) (IntKind.i64.wrap ((IntKind.i64.wrap (a0.h * 6364136223846793005)) + 1442695040888963407)))))
noncomputable def spec_l01Byte_e (q : (TL01Cur)) : List AV × List Ob := ([AV.optr 0 0 3], [Ob.box [AV.fsl (List.map (AV.int .u8) q.b), AV.int .i64 q.i, AV.int .i64 q.h]])
noncomputable def spec_l01Byte_v (q : (TL01Cur)) (r : (Int) × (TL01Cur)) : AV × List Ob := (AV.int .i64 r.1, [Ob.box [AV.fsl (List.map (AV.int .u8) r.2.b), AV.int .i64 r.2.i, AV.int .i64 r.2.h]])
noncomputable def spec_l01Byte_x : List AV → List Ob → Option (AV × List Ob) := xOf spec_l01Byte_e (fun q => spec_l01Byte q) spec_l01Byte_v
theorem spec_l01Byte_i : ∀ a b, spec_l01Byte_e a = spec_l01Byte_e b → a = b := by rintro ⟨x0, x1, x2⟩ ⟨y0, y1, y2⟩ h; simp [spec_l01Byte_e] at h; simp [h]
@[simp] theorem spec_l01Byte_k (z0 : List Int) (z1 : Int) (z2 : Int) : spec_l01Byte_x [AV.optr 0 0 3] [Ob.box [AV.fsl (List.map (AV.int .u8) z0), AV.int .i64 z1, AV.int .i64 z2]] = mapR (spec_l01Byte ⟨z0, z1, z2⟩) (fun r => (AV.int .i64 r.1, [Ob.box [AV.fsl (List.map (AV.int .u8) r.2.b), AV.int .i64 r.2.i, AV.int .i64 r.2.h]])) :=
  xOf_eq spec_l01Byte_i ⟨z0, z1, z2⟩
/-! spec_l01Below: function 110 -/
noncomputable def spec_l01Below (a0 : Int) (a1 : TL01Cur) : Option ((Int) × (TL01Cur)) :=
  cnd (ile a0 0) (
   some (0, a1)) (
   cnd (ile a0 256) (
    bnd (spec_l01Byte a1) fun (w2, w3) =>
    chkP (¬ a0 = 0) (
    some ((Int.tmod w2 a0), w3))) (
    bnd (spec_l01Byte a1) fun (w5, w6) =>
    bnd (spec_l01Byte w6) fun (w8, w9) =>
    bnd (spec_l01Byte w9) fun (w11, w12) =>
    bnd (spec_l01Byte w12) fun (w14, w15) =>
    chkP (¬ a0 = 0) (
    some ((Int.tmod (IntKind.i64.wrap ((IntKind.i64.wrap ((IntKind.i64.wrap ((IntKind.i64.wrap (w5 * 16777216)) + (IntKind.i64.wrap (w8 * 65536)))) + (IntKind.i64.wrap (w11 * 256)))) + w14)) a0), w15))))
noncomputable def spec_l01Below_e (q : (Int) × (TL01Cur)) : List AV × List Ob := ([AV.optr 0 0 3, AV.int .i64 q.1], [Ob.box [AV.fsl (List.map (AV.int .u8) q.2.b), AV.int .i64 q.2.i, AV.int .i64 q.2.h]])
noncomputable def spec_l01Below_v (q : (Int) × (TL01Cur)) (r : (Int) × (TL01Cur)) : AV × List Ob := (AV.int .i64 r.1, [Ob.box [AV.fsl (List.map (AV.int .u8) r.2.b), AV.int .i64 r.2.i, AV.int .i64 r.2.h]])
noncomputable def spec_l01Below_x : List AV → List Ob → Option (AV × List Ob) := xOf spec_l01Below_e (fun q => spec_l01Below q.1 q.2) spec_l01Below_v
theorem spec_l01Below_i : ∀ a b, spec_l01Below_e a = spec_l01Below_e b → a = b := by rintro ⟨x0, ⟨x1, x2, x3⟩⟩ ⟨y0, ⟨y1, y2, y3⟩⟩ h; simp [spec_l01Below_e] at h; simp [h]
@[simp] theorem spec_l01Below_k (z0 : Int) (z1 : List Int) (z2 : Int) (z3 : Int) : spec_l01Below_x [AV.optr 0 0 3, AV.int .i64 z0] [Ob.box [AV.fsl (List.map (AV.int .u8) z1), AV.int .i64 z2, AV.int .i64 z3]] = mapR (spec_l01Below z0 ⟨z1, z2, z3⟩) (fun r => (AV.int .i64 r.1, [Ob.box [AV.fsl (List.map (AV.int .u8) r.2.b), AV.int .i64 r.2.i, AV.int .i64 r.2.h]])) :=
  xOf_eq spec_l01Below_i (z0, ⟨z1, z2, z3⟩)
/-! spec_l01In: function 73 -/
noncomputable def spec_l01In (a0 : Int) (a1 : Int) (a2 : Int) : Option ((Bool)) :=
  cnd (ile a1 a0) (
   some (ile a0 a2)) (
   some false)
noncomputable def spec_l01In_e (q : (Int) × (Int) × (Int)) : List AV × List Ob := ([AV.int .i64 q.1, AV.int .i64 q.2.1, AV.int .i64 q.2.2], [])
noncomputable def spec_l01In_v (q : (Int) × (Int) × (Int)) (r : (Bool)) : AV × List Ob := (AV.bool r, [])
noncomputable def spec_l01In_x : List AV → List Ob → Option (AV × List Ob) := xOf spec_l01In_e (fun q => spec_l01In q.1 q.2.1 q.2.2) spec_l01In_v
theorem spec_l01In_i : ∀ a b, spec_l01In_e a = spec_l01In_e b → a = b := by rintro ⟨x0, x1, x2⟩ ⟨y0, y1, y2⟩ h; simp [spec_l01In_e] at h; simp [h]
@[simp] theorem spec_l01In_k (z0 : Int) (z1 : Int) (z2 : Int) : spec_l01In_x [AV.int .i64 z0, AV.int .i64 z1, AV.int .i64 z2] [] = mapR (spec_l01In z0 z1 z2) (fun r => (AV.bool r, [])) :=
  xOf_eq spec_l01In_i (z0, z1, z2)
/-! spec_SurfaceNew: function 170 -/
noncomputable def spec_SurfaceNew (a0 : Int) (a1 : Int) : Option ((TSurface) × (Bool)) :=
  bnd (spec_l01In a0 1 12) fun v1 =>
  cnd v1 (
   bnd (spec_l01In a1 1 12) fun v2 =>
   cnd v2 (
    chkP (0 ≤ (IntKind.i64.wrap (a0 * a1)) ∧ (IntKind.i64.wrap (a0 * a1)) ≤ (IntKind.i64.wrap (a0 * a1)) ∧ (IntKind.i64.wrap (a0 * a1)) ≤ 17592186044416 ∧ (IntKind.i64.wrap (a0 * a1)) * 32 ≤ 17592186044416) (
    nam ((List.replicate (Int.toNat (IntKind.i64.wrap (a0 * a1))) (TColor.mk 0 0 0 0)) : List TColor) fun l3 =>
    some ((TSurface.mk a0 a1 l3), true))) (
    some ((TSurface.mk 0 0 []), false))) (
   some ((TSurface.mk 0 0 []), false))
noncomputable def spec_SurfaceNew_e (q : (Int) × (Int)) : List AV × List Ob := ([AV.int .i64 q.1, AV.int .i64 q.2], [])
noncomputable def spec_SurfaceNew_v (q : (Int) × (Int)) (r : (TSurface) × (Bool)) : AV × List Ob := (AV.tup [AV.agg [AV.int .i64 r.1.w, AV.int .i64 r.1.h, AV.fsl (List.map eColor r.1.pix)], AV.bool r.2], [])
noncomputable def spec_SurfaceNew_x : List AV → List Ob → Option (AV × List Ob) := xOf spec_SurfaceNew_e (fun q => spec_SurfaceNew q.1 q.2) spec_SurfaceNew_v
theorem spec_SurfaceNew_i : ∀ a b, spec_SurfaceNew_e a = spec_SurfaceNew_e b → a = b := by rintro ⟨x0, x1⟩ ⟨y0, y1⟩ h; simp [spec_SurfaceNew_e] at h; simp [h]
@[simp] theorem spec_SurfaceNew_k (z0 : Int) (z1 : Int) : spec_SurfaceNew_x [AV.int .i64 z0, AV.int .i64 z1] [] = mapR (spec_SurfaceNew z0 z1) (fun r => (AV.tup [AV.agg [AV.int .i64 r.1.w, AV.int .i64 r.1.h, AV.fsl (List.map eColor r.1.pix)], AV.bool r.2], [])) :=
  xOf_eq spec_SurfaceNew_i (z0, z1)
/-! spec_l01Once: function 184 -/
noncomputable def spec_l01Once (a0 : Int) (a1 : TL01Cur) : Option ((Bool) × (TL01Cur)) :=
  bnd (spec_l01Below a0 a1) fun (w2, w3) =>
  some ((ieq w2 0), w3)
noncomputable def spec_l01Once_e (q : (Int) × (TL01Cur)) : List AV × List Ob := ([AV.optr 0 0 3, AV.int .i64 q.1], [Ob.box [AV.fsl (List.map (AV.int .u8) q.2.b), AV.int .i64 q.2.i, AV.int .i64 q.2.h]])
noncomputable def spec_l01Once_v (q : (Int) × (TL01Cur)) (r : (Bool) × (TL01Cur)) : AV × List Ob := (AV.bool r.1, [Ob.box [AV.fsl (List.map (AV.int .u8) r.2.b), AV.int .i64 r.2.i, AV.int .i64 r.2.h]])
noncomputable def spec_l01Once_x : List AV → List Ob → Option (AV × List Ob) := xOf spec_l01Once_e (fun q => spec_l01Once q.1 q.2) spec_l01Once_v
theorem spec_l01Once_i : ∀ a b, spec_l01Once_e a = spec_l01Once_e b → a = b := by rintro ⟨x0, ⟨x1, x2, x3⟩⟩ ⟨y0, ⟨y1, y2, y3⟩⟩ h; simp [spec_l01Once_e] at h; simp [h]
@[simp] theorem spec_l01Once_k (z0 : Int) (z1 : List Int) (z2 : Int) (z3 : Int) : spec_l01Once_x [AV.optr 0 0 3, AV.int .i64 z0] [Ob.box [AV.fsl (List.map (AV.int .u8) z1), AV.int .i64 z2, AV.int .i64 z3]] = mapR (spec_l01Once z0 ⟨z1, z2, z3⟩) (fun r => (AV.bool r.1, [Ob.box [AV.fsl (List.map (AV.int .u8) r.2.b), AV.int .i64 r.2.i, AV.int .i64 r.2.h]])) :=
  xOf_eq spec_l01Once_i (z0, ⟨z1, z2, z3⟩)
/-! spec_Empty: function 84 -/
noncomputable def spec_Empty (a0 : TBox) : Option ((Bool)) :=
  cnd (ile a0.x1 a0.x0) (
   some true) (
   some (ile a0.y1 a0.y0))
noncomputable def spec_Empty_e (q : (TBox)) : List AV × List Ob := ([AV.agg [AV.int .i64 q.x0, AV.int .i64 q.y0, AV.int .i64 q.x1, AV.int .i64 q.y1]], [])
noncomputable def spec_Empty_v (q : (TBox)) (r : (Bool)) : AV × List Ob := (AV.bool r, [])
noncomputable def spec_Empty_x : List AV → List Ob → Option (AV × List Ob) := xOf spec_Empty_e (fun q => spec_Empty q) spec_Empty_v
theorem spec_Empty_i : ∀ a b, spec_Empty_e a = spec_Empty_e b → a = b := by rintro ⟨x0, x1, x2, x3⟩ ⟨y0, y1, y2, y3⟩ h; simp [spec_Empty_e] at h; simp [h]
@[simp] theorem spec_Empty_k (z0 : Int) (z1 : Int) (z2 : Int) (z3 : Int) : spec_Empty_x [AV.agg [AV.int .i64 z0, AV.int .i64 z1, AV.int .i64 z2, AV.int .i64 z3]] [] = mapR (spec_Empty ⟨z0, z1, z2, z3⟩) (fun r => (AV.bool r, [])) :=
  xOf_eq spec_Empty_i ⟨z0, z1, z2, z3⟩
/-! spec_PointOk: function 196 -/
noncomputable def spec_PointOk (a0 : TPoint) : Option ((Bool)) :=
  bnd (spec_l01In a0.x (-8388608) 8388608) fun v1 =>
  cnd v1 (
   bnd (spec_l01In a0.y (-8388608) 8388608) fun v2 =>
   some v2) (
   some false)
noncomputable def spec_PointOk_e (q : (TPoint)) : List AV × List Ob := ([AV.agg [AV.int .i64 q.x, AV.int .i64 q.y]], [])
noncomputable def spec_PointOk_v (q : (TPoint)) (r : (Bool)) : AV × List Ob := (AV.bool r, [])
noncomputable def spec_PointOk_x : List AV → List Ob → Option (AV × List Ob) := xOf spec_PointOk_e (fun q => spec_PointOk q) spec_PointOk_v
theorem spec_PointOk_i : ∀ a b, spec_PointOk_e a = spec_PointOk_e b → a = b := by rintro ⟨x0, x1⟩ ⟨y0, y1⟩ h; simp [spec_PointOk_e] at h; simp [h]
@[simp] theorem spec_PointOk_k (z0 : Int) (z1 : Int) : spec_PointOk_x [AV.agg [AV.int .i64 z0, AV.int .i64 z1]] [] = mapR (spec_PointOk ⟨z0, z1⟩) (fun r => (AV.bool r, [])) :=
  xOf_eq spec_PointOk_i ⟨z0, z1⟩
/-! spec_RectPath: function 225 -/
noncomputable def spec_RectPath (a0 : TBox) : Option ((TPath)) :=
  bnd (spec_Empty a0) fun v1 =>
  cnd v1 (
   some (TPath.mk [] [])) (
   bnd (spec_PointOk (TPoint.mk ((TPoint.mk a0.x0 a0.y0).x) ((TPoint.mk a0.x0 a0.y0).y))) fun v2 =>
   cnd v2 (
    bnd (spec_PointOk (TPoint.mk ((TPoint.mk a0.x1 a0.y1).x) ((TPoint.mk a0.x1 a0.y1).y))) fun v3 =>
    cnd v3 (
     some (TPath.mk [1, 2, 2, 2, 5] [(TPoint.mk a0.x0 a0.y0), (TPoint.mk a0.x1 a0.y0), (TPoint.mk a0.x1 a0.y1), (TPoint.mk a0.x0 a0.y1)])) (
     some (TPath.mk [] []))) (
    some (TPath.mk [] [])))
noncomputable def spec_RectPath_e (q : (TBox)) : List AV × List Ob := ([AV.agg [AV.int .i64 q.x0, AV.int .i64 q.y0, AV.int .i64 q.x1, AV.int .i64 q.y1]], [])
noncomputable def spec_RectPath_v (q : (TBox)) (r : (TPath)) : AV × List Ob := (AV.agg [AV.fsl (List.map (AV.int .i64) r.verbs), AV.fsl (List.map ePoint r.points)], [])
noncomputable def spec_RectPath_x : List AV → List Ob → Option (AV × List Ob) := xOf spec_RectPath_e (fun q => spec_RectPath q) spec_RectPath_v
theorem spec_RectPath_i : ∀ a b, spec_RectPath_e a = spec_RectPath_e b → a = b := by rintro ⟨x0, x1, x2, x3⟩ ⟨y0, y1, y2, y3⟩ h; simp [spec_RectPath_e] at h; simp [h]
@[simp] theorem spec_RectPath_k (z0 : Int) (z1 : Int) (z2 : Int) (z3 : Int) : spec_RectPath_x [AV.agg [AV.int .i64 z0, AV.int .i64 z1, AV.int .i64 z2, AV.int .i64 z3]] [] = mapR (spec_RectPath ⟨z0, z1, z2, z3⟩) (fun r => (AV.agg [AV.fsl (List.map (AV.int .i64) r.verbs), AV.fsl (List.map ePoint r.points)], [])) :=
  xOf_eq spec_RectPath_i ⟨z0, z1, z2, z3⟩
/-! spec_l01PickInt: function 171 -/
noncomputable def spec_l01PickInt (a0 : TL01Cur) (a1 : List Int) : Option ((Int) × (TL01Cur)) :=
  bnd (spec_l01Below (List.length a1 : Int) a0) fun (w2, w3) =>
  bnd (idx a1 w2) fun v4 =>
  some (v4, w3)
noncomputable def spec_l01PickInt_e (q : (TL01Cur) × (List Int)) : List AV × List Ob := ([AV.optr 0 0 3, AV.osl 1 0 (List.length q.2) (List.length q.2)], [Ob.box [AV.fsl (List.map (AV.int .u8) q.1.b), AV.int .i64 q.1.i, AV.int .i64 q.1.h], Ob.arr 1 (List.map (AV.int .i64) q.2) false])
noncomputable def spec_l01PickInt_v (q : (TL01Cur) × (List Int)) (r : (Int) × (TL01Cur)) : AV × List Ob := (AV.int .i64 r.1, [Ob.box [AV.fsl (List.map (AV.int .u8) r.2.b), AV.int .i64 r.2.i, AV.int .i64 r.2.h], Ob.arr 1 (List.map (AV.int .i64) q.2) false])
noncomputable def spec_l01PickInt_x : List AV → List Ob → Option (AV × List Ob) := xOf spec_l01PickInt_e (fun q => spec_l01PickInt q.1 q.2) spec_l01PickInt_v
theorem spec_l01PickInt_i : ∀ a b, spec_l01PickInt_e a = spec_l01PickInt_e b → a = b := by rintro ⟨⟨x0, x1, x2⟩, x3⟩ ⟨⟨y0, y1, y2⟩, y3⟩ h; simp [spec_l01PickInt_e] at h; simp [h]
@[simp] theorem spec_l01PickInt_k (z0 : List Int) (z1 : Int) (z2 : Int) (z3 : List Int) : spec_l01PickInt_x [AV.optr 0 0 3, AV.osl 1 0 (List.length z3) (List.length z3)] [Ob.box [AV.fsl (List.map (AV.int .u8) z0), AV.int .i64 z1, AV.int .i64 z2], Ob.arr 1 (List.map (AV.int .i64) z3) false] = mapR (spec_l01PickInt ⟨z0, z1, z2⟩ z3) (fun r => (AV.int .i64 r.1, [Ob.box [AV.fsl (List.map (AV.int .u8) r.2.b), AV.int .i64 r.2.i, AV.int .i64 r.2.h], Ob.arr 1 (List.map (AV.int .i64) z3) false])) :=
  xOf_eq spec_l01PickInt_i (⟨z0, z1, z2⟩, z3)
/-! spec_NeedOf: function 224 -/
noncomputable def spec_NeedOf (a0 : Int) : Option ((Int)) :=
  bnd (spec_l01In a0 1 5) fun v1 =>
  cnd v1 (
   bnd (idx [1, 1, 2, 3, 0] (IntKind.i64.wrap (a0 - 1))) fun v2 =>
   some v2) (
   some (-1))
noncomputable def spec_NeedOf_e (q : (Int)) : List AV × List Ob := ([AV.int .i64 q], [])
noncomputable def spec_NeedOf_v (q : (Int)) (r : (Int)) : AV × List Ob := (AV.int .i64 r, [])
noncomputable def spec_NeedOf_x : List AV → List Ob → Option (AV × List Ob) := xOf spec_NeedOf_e (fun q => spec_NeedOf q) spec_NeedOf_v
theorem spec_NeedOf_i : ∀ a b, spec_NeedOf_e a = spec_NeedOf_e b → a = b := by rintro x0 y0 h; simp [spec_NeedOf_e] at h; simp [h]
@[simp] theorem spec_NeedOf_k (z0 : Int) : spec_NeedOf_x [AV.int .i64 z0] [] = mapR (spec_NeedOf z0) (fun r => (AV.int .i64 r, [])) :=
  xOf_eq spec_NeedOf_i z0
/-! spec_l04Point: function 186 -/
noncomputable def spec_l04Point (a0 : TL01Cur) : Option ((TPoint) × (TL01Cur)) :=
  bnd (spec_l01Below 3600 a0) fun (w2, w3) =>
  bnd (spec_l01Below 3600 w3) fun (w5, w6) =>
  some ((TPoint.mk (IntKind.i64.wrap (w2 - 300)) (IntKind.i64.wrap (w5 - 300))), w6)
noncomputable def spec_l04Point_e (q : (TL01Cur)) : List AV × List Ob := ([AV.optr 0 0 3], [Ob.box [AV.fsl (List.map (AV.int .u8) q.b), AV.int .i64 q.i, AV.int .i64 q.h]])
noncomputable def spec_l04Point_v (q : (TL01Cur)) (r : (TPoint) × (TL01Cur)) : AV × List Ob := (AV.agg [AV.int .i64 r.1.x, AV.int .i64 r.1.y], [Ob.box [AV.fsl (List.map (AV.int .u8) r.2.b), AV.int .i64 r.2.i, AV.int .i64 r.2.h]])
noncomputable def spec_l04Point_x : List AV → List Ob → Option (AV × List Ob) := xOf spec_l04Point_e (fun q => spec_l04Point q) spec_l04Point_v
theorem spec_l04Point_i : ∀ a b, spec_l04Point_e a = spec_l04Point_e b → a = b := by rintro ⟨x0, x1, x2⟩ ⟨y0, y1, y2⟩ h; simp [spec_l04Point_e] at h; simp [h]
@[simp] theorem spec_l04Point_k (z0 : List Int) (z1 : Int) (z2 : Int) : spec_l04Point_x [AV.optr 0 0 3] [Ob.box [AV.fsl (List.map (AV.int .u8) z0), AV.int .i64 z1, AV.int .i64 z2]] = mapR (spec_l04Point ⟨z0, z1, z2⟩) (fun r => (AV.agg [AV.int .i64 r.1.x, AV.int .i64 r.1.y], [Ob.box [AV.fsl (List.map (AV.int .u8) r.2.b), AV.int .i64 r.2.i, AV.int .i64 r.2.h]])) :=
  xOf_eq spec_l04Point_i ⟨z0, z1, z2⟩
/-! spec_l06Path: function 183 -/
noncomputable def spec_l06Path_l0 (l55 : List Int) (x42 : Int) : ((Int) × (List Int) × (Int) × (Int) × (List TPoint)) → Option (((Int) × (List Int) × (Int) × (Int) × (List TPoint)) ⊕ ((List Int) × (Int) × (Int) × (List TPoint))) := fun (x61, x62, x63, x64, x65) =>
  bnd (spec_NeedOf 1) fun v66 =>
  cnd (ile v66 x61) (
   some (.inr (x62, x63, x64, x65))) (
   bnd (spec_l04Point (TL01Cur.mk x62 x63 x64)) fun (w68, w69) =>
   chkP ((List.length x65 + 1) * 16 ≤ 17592186044416) (
   nam ((x65 ++ [w68]) : List TPoint) fun l70 =>
   some (.inl ((IntKind.i64.wrap (x61 + 1)), w69.b, w69.i, w69.h, l70))))
noncomputable def spec_l06Path_l0_S (l55 : List Int) (x42 : Int) : ((Int) × (List Int) × (Int) × (Int) × (List TPoint)) → St := fun (x61, x62, x63, x64, x65) => ⟨[(0, AV.optr 0 0 3), (2, AV.optr 1 0 2), (5, AV.optr 2 0 2), (6, AV.int .i64 x42), (7, AV.int .i64 1), (8, AV.int .i64 x61)], [(0, Ob.box [AV.fsl (List.map (AV.int .u8) x62), AV.int .i64 x63, AV.int .i64 x64]), (1, Ob.box [AV.nilsl, AV.nilsl]), (2, Ob.box [AV.osl 3 0 (List.length l55) (List.length l55), AV.osl 4 0 (List.length x65) (List.length x65)]), (3, Ob.arr 1 (List.map (AV.int .i64) l55) false), (4, Ob.arr 2 (List.map ePoint x65) false)], 5⟩
noncomputable def spec_l06Path_l0_X (l55 : List Int) (x42 : Int) : ((List Int) × (Int) × (Int) × (List TPoint)) → Ex × St := fun (y71, y72, y73, y74) => ((.exit 2), ⟨[(0, AV.optr 0 0 3), (2, AV.optr 1 0 2), (5, AV.optr 2 0 2), (6, AV.int .i64 x42)], [(0, Ob.box [AV.fsl (List.map (AV.int .u8) y71), AV.int .i64 y72, AV.int .i64 y73]), (1, Ob.box [AV.nilsl, AV.nilsl]), (2, Ob.box [AV.osl 3 0 (List.length l55) (List.length l55), AV.osl 4 0 (List.length y74) (List.length y74)]), (3, Ob.arr 1 (List.map (AV.int .i64) l55) false), (4, Ob.arr 2 (List.map ePoint y74) false)], 5⟩)
noncomputable def spec_l06Path_l1 (l77 : List Int) (x42 : Int) : ((Int) × (List Int) × (Int) × (Int) × (List TPoint)) → Option (((Int) × (List Int) × (Int) × (Int) × (List TPoint)) ⊕ ((List Int) × (Int) × (Int) × (List TPoint))) := fun (x83, x84, x85, x86, x87) =>
  bnd (spec_NeedOf 1) fun v88 =>
  cnd (ile v88 x83) (
   some (.inr (x84, x85, x86, x87))) (
   bnd (spec_l04Point (TL01Cur.mk x84 x85 x86)) fun (w90, w91) =>
   chkP ((List.length x87 + 1) * 16 ≤ 17592186044416) (
   nam ((x87 ++ [w90]) : List TPoint) fun l92 =>
   some (.inl ((IntKind.i64.wrap (x83 + 1)), w91.b, w91.i, w91.h, l92))))
noncomputable def spec_l06Path_l1_S (l77 : List Int) (x42 : Int) : ((Int) × (List Int) × (Int) × (Int) × (List TPoint)) → St := fun (x83, x84, x85, x86, x87) => ⟨[(0, AV.optr 0 0 3), (2, AV.optr 1 0 2), (5, AV.optr 2 0 2), (6, AV.int .i64 x42), (7, AV.int .i64 1), (8, AV.int .i64 x83)], [(0, Ob.box [AV.fsl (List.map (AV.int .u8) x84), AV.int .i64 x85, AV.int .i64 x86]), (1, Ob.box [AV.nilsl, AV.nilsl]), (2, Ob.box [AV.osl 3 0 (List.length l77) (List.length l77), AV.osl 4 0 (List.length x87) (List.length x87)]), (3, Ob.arr 1 (List.map (AV.int .i64) l77) false), (4, Ob.arr 2 (List.map ePoint x87) false)], 5⟩
noncomputable def spec_l06Path_l1_X (l77 : List Int) (x42 : Int) : ((List Int) × (Int) × (Int) × (List TPoint)) → Ex × St := fun (y93, y94, y95, y96) => ((.exit 2), ⟨[(0, AV.optr 0 0 3), (2, AV.optr 1 0 2), (5, AV.optr 2 0 2), (6, AV.int .i64 x42)], [(0, Ob.box [AV.fsl (List.map (AV.int .u8) y93), AV.int .i64 y94, AV.int .i64 y95]), (1, Ob.box [AV.nilsl, AV.nilsl]), (2, Ob.box [AV.osl 3 0 (List.length l77) (List.length l77), AV.osl 4 0 (List.length y96) (List.length y96)]), (3, Ob.arr 1 (List.map (AV.int .i64) l77) false), (4, Ob.arr 2 (List.map ePoint y96) false)], 5⟩)
noncomputable def spec_l06Path_l2 (l98 : List Int) (w52 : Int) (x42 : Int) : ((Int) × (List Int) × (Int) × (Int) × (List TPoint)) → Option (((Int) × (List Int) × (Int) × (Int) × (List TPoint)) ⊕ ((List Int) × (Int) × (Int) × (List TPoint))) := fun (x104, x105, x106, x107, x108) =>
  bnd (spec_NeedOf w52) fun v109 =>
  cnd (ile v109 x104) (
   some (.inr (x105, x106, x107, x108))) (
   bnd (spec_l04Point (TL01Cur.mk x105 x106 x107)) fun (w111, w112) =>
   chkP ((List.length x108 + 1) * 16 ≤ 17592186044416) (
   nam ((x108 ++ [w111]) : List TPoint) fun l113 =>
   some (.inl ((IntKind.i64.wrap (x104 + 1)), w112.b, w112.i, w112.h, l113))))
noncomputable def spec_l06Path_l2_S (l98 : List Int) (w52 : Int) (x42 : Int) : ((Int) × (List Int) × (Int) × (Int) × (List TPoint)) → St := fun (x104, x105, x106, x107, x108) => ⟨[(0, AV.optr 0 0 3), (2, AV.optr 1 0 2), (5, AV.optr 2 0 2), (6, AV.int .i64 x42), (7, AV.int .i64 w52), (8, AV.int .i64 x104)], [(0, Ob.box [AV.fsl (List.map (AV.int .u8) x105), AV.int .i64 x106, AV.int .i64 x107]), (1, Ob.box [AV.nilsl, AV.nilsl]), (2, Ob.box [AV.osl 3 0 (List.length l98) (List.length l98), AV.osl 4 0 (List.length x108) (List.length x108)]), (3, Ob.arr 1 (List.map (AV.int .i64) l98) false), (4, Ob.arr 2 (List.map ePoint x108) false)], 5⟩
noncomputable def spec_l06Path_l2_X (l98 : List Int) (w52 : Int) (x42 : Int) : ((List Int) × (Int) × (Int) × (List TPoint)) → Ex × St := fun (y114, y115, y116, y117) => ((.exit 2), ⟨[(0, AV.optr 0 0 3), (2, AV.optr 1 0 2), (5, AV.optr 2 0 2), (6, AV.int .i64 x42)], [(0, Ob.box [AV.fsl (List.map (AV.int .u8) y114), AV.int .i64 y115, AV.int .i64 y116]), (1, Ob.box [AV.nilsl, AV.nilsl]), (2, Ob.box [AV.osl 3 0 (List.length l98) (List.length l98), AV.osl 4 0 (List.length y117) (List.length y117)]), (3, Ob.arr 1 (List.map (AV.int .i64) l98) false), (4, Ob.arr 2 (List.map ePoint y117) false)], 5⟩)
noncomputable def spec_l06Path_l3  : ((Int) × (List Int) × (Int) × (Int) × (List Int) × (List TPoint)) → Option (((Int) × (List Int) × (Int) × (Int) × (List Int) × (List TPoint)) ⊕ (((List Int) × (Int) × (Int) × (List Int) × (List TPoint)) ⊕ ((List Int) × (Int) × (Int) × (List Int) × (List TPoint)))) := fun (x42, x43, x44, x45, x46, x47) =>
  bnd (spec_l01Below 6 (TL01Cur.mk x43 x44 x45)) fun (w49, w50) =>
  cnd (ile (IntKind.i64.wrap (1 + w49)) x42) (
   some (.inr (.inl (w50.b, w50.i, w50.h, x46, x47)))) (
   bnd (spec_l01PickInt w50 [2, 2, 2, 3, 4, 5, 1]) fun (w52, w53) =>
   cnd (ieq x42 0) (
    bnd (spec_NeedOf 1) fun v54 =>
    cnd (ile (IntKind.i64.wrap ((List.length x47 : Int) + v54)) 24) (
     chkP ((List.length x46 + 1) * 8 ≤ 17592186044416) (
     nam ((x46 ++ [1]) : List Int) fun l55 =>
     bnd (loopI (spec_l06Path_l0 l55 x42) (0, w53.b, w53.i, w53.h, x47)) fun (y71, y72, y73, y74) =>
     some (.inl ((IntKind.i64.wrap (x42 + 1)), y71, y72, y73, l55, y74)))) (
     some (.inr (.inr (w53.b, w53.i, w53.h, x46, x47))))) (
    bnd (idx x46 (IntKind.i64.wrap (x42 - 1))) fun v75 =>
    cnd (ieq v75 5) (
     bnd (spec_NeedOf 1) fun v76 =>
     cnd (ile (IntKind.i64.wrap ((List.length x47 : Int) + v76)) 24) (
      chkP ((List.length x46 + 1) * 8 ≤ 17592186044416) (
      nam ((x46 ++ [1]) : List Int) fun l77 =>
      bnd (loopI (spec_l06Path_l1 l77 x42) (0, w53.b, w53.i, w53.h, x47)) fun (y93, y94, y95, y96) =>
      some (.inl ((IntKind.i64.wrap (x42 + 1)), y93, y94, y95, l77, y96)))) (
      some (.inr (.inr (w53.b, w53.i, w53.h, x46, x47))))) (
     bnd (spec_NeedOf w52) fun v97 =>
     cnd (ile (IntKind.i64.wrap ((List.length x47 : Int) + v97)) 24) (
      chkP ((List.length x46 + 1) * 8 ≤ 17592186044416) (
      nam ((x46 ++ [w52]) : List Int) fun l98 =>
      bnd (loopI (spec_l06Path_l2 l98 w52 x42) (0, w53.b, w53.i, w53.h, x47)) fun (y114, y115, y116, y117) =>
      some (.inl ((IntKind.i64.wrap (x42 + 1)), y114, y115, y116, l98, y117)))) (
      some (.inr (.inr (w53.b, w53.i, w53.h, x46, x47)))))))
noncomputable def spec_l06Path_l3_S  : ((Int) × (List Int) × (Int) × (Int) × (List Int) × (List TPoint)) → St := fun (x42, x43, x44, x45, x46, x47) => ⟨[(0, AV.optr 0 0 3), (2, AV.optr 1 0 2), (5, AV.optr 2 0 2), (6, AV.int .i64 x42)], [(0, Ob.box [AV.fsl (List.map (AV.int .u8) x43), AV.int .i64 x44, AV.int .i64 x45]), (1, Ob.box [AV.nilsl, AV.nilsl]), (2, Ob.box [AV.osl 3 0 (List.length x46) (List.length x46), AV.osl 4 0 (List.length x47) (List.length x47)]), (3, Ob.arr 1 (List.map (AV.int .i64) x46) false), (4, Ob.arr 2 (List.map ePoint x47) false)], 5⟩
noncomputable def spec_l06Path_l3_X  : (((List Int) × (Int) × (Int) × (List Int) × (List TPoint)) ⊕ ((List Int) × (Int) × (Int) × (List Int) × (List TPoint))) → Ex × St := fun q => match q with
  | .inl (y118, y119, y120, y121, y122) => ((.exit 0), ⟨[(2, AV.optr 1 0 2), (5, AV.optr 2 0 2)], [(0, Ob.box [AV.fsl (List.map (AV.int .u8) y118), AV.int .i64 y119, AV.int .i64 y120]), (1, Ob.box [AV.nilsl, AV.nilsl]), (2, Ob.box [AV.osl 3 0 (List.length y121) (List.length y121), AV.osl 4 0 (List.length y122) (List.length y122)]), (3, Ob.arr 1 (List.map (AV.int .i64) y121) false), (4, Ob.arr 2 (List.map ePoint y122) false)], 5⟩)
  | .inr (y123, y124, y125, y126, y127) => (.ret, ⟨[(2, AV.optr 1 0 2)], [(0, Ob.box [AV.fsl (List.map (AV.int .u8) y123), AV.int .i64 y124, AV.int .i64 y125]), (1, Ob.box [AV.osl 2 0 (List.length y126) (List.length y126), AV.osl 3 0 (List.length y127) (List.length y127)]), (2, Ob.arr 1 (List.map (AV.int .i64) y126) false), (3, Ob.arr 2 (List.map ePoint y127) false)], 4⟩)
noncomputable def spec_l06Path (a0 : TL01Cur) : Option ((TPath) × (TL01Cur)) :=
  bnd (spec_l01Once 2 a0) fun (w2, w3) =>
  cnd w2 (
   bnd (spec_l01Below 2400 w3) fun (w5, w6) =>
   bnd (spec_l01Below 2400 w6) fun (w8, w9) =>
   bnd (spec_l01Below 1500 w9) fun (w11, w12) =>
   bnd (spec_l01Below 1500 w12) fun (w14, w15) =>
   bnd (spec_RectPath (TBox.mk w5 w8 (IntKind.i64.wrap ((IntKind.i64.wrap (w5 + 1)) + w11)) (IntKind.i64.wrap ((IntKind.i64.wrap (w8 + 1)) + w14)))) fun v16 =>
   some (v16, w15)) (
   bnd (loopI spec_l06Path_l3 (0, w3.b, w3.i, w3.h, [], [])) fun q => match q with
   | .inl (y118, y119, y120, y121, y122) =>
    some ((TPath.mk y121 y122), (TL01Cur.mk y118 y119 y120))
   | .inr (y123, y124, y125, y126, y127) =>
    some ((TPath.mk y126 y127), (TL01Cur.mk y123 y124 y125)))
noncomputable def spec_l06Path_e (q : (TL01Cur)) : List AV × List Ob := ([AV.optr 0 0 3], [Ob.box [AV.fsl (List.map (AV.int .u8) q.b), AV.int .i64 q.i, AV.int .i64 q.h]])
noncomputable def spec_l06Path_v (q : (TL01Cur)) (r : (TPath) × (TL01Cur)) : AV × List Ob := (AV.agg [AV.fsl (List.map (AV.int .i64) r.1.verbs), AV.fsl (List.map ePoint r.1.points)], [Ob.box [AV.fsl (List.map (AV.int .u8) r.2.b), AV.int .i64 r.2.i, AV.int .i64 r.2.h]])
noncomputable def spec_l06Path_x : List AV → List Ob → Option (AV × List Ob) := xOf spec_l06Path_e (fun q => spec_l06Path q) spec_l06Path_v
theorem spec_l06Path_i : ∀ a b, spec_l06Path_e a = spec_l06Path_e b → a = b := by rintro ⟨x0, x1, x2⟩ ⟨y0, y1, y2⟩ h; simp [spec_l06Path_e] at h; simp [h]
@[simp] theorem spec_l06Path_k (z0 : List Int) (z1 : Int) (z2 : Int) : spec_l06Path_x [AV.optr 0 0 3] [Ob.box [AV.fsl (List.map (AV.int .u8) z0), AV.int .i64 z1, AV.int .i64 z2]] = mapR (spec_l06Path ⟨z0, z1, z2⟩) (fun r => (AV.agg [AV.fsl (List.map (AV.int .i64) r.1.verbs), AV.fsl (List.map ePoint r.1.points)], [Ob.box [AV.fsl (List.map (AV.int .u8) r.2.b), AV.int .i64 r.2.i, AV.int .i64 r.2.h]])) :=
  xOf_eq spec_l06Path_i ⟨z0, z1, z2⟩
/-! spec_PathOk: function 204 -/
noncomputable def spec_PathOk_l0 (a0 : TPath) : ((Int) × (Int)) → Option (((Int) × (Int)) ⊕ (((Int)) ⊕ (Unit))) := fun (x3, x4) =>
  cnd (ile (List.length a0.verbs : Int) x4) (
   some (.inr (.inl x3))) (
   bnd (idx a0.verbs x4) fun v5 =>
   bnd (spec_NeedOf v5) fun v6 =>
   cnd (ile 0 v6) (
    cnd (ieq x4 0) (
     cnd (ieq v5 1) (
      some (.inl ((IntKind.i64.wrap (x3 + v6)), (IntKind.i64.wrap (x4 + 1))))) (
      some (.inr (.inr ())))) (
     bnd (idx a0.verbs (IntKind.i64.wrap (x4 - 1))) fun v7 =>
     cnd (ieq v7 5) (
      cnd (ieq v5 1) (
       some (.inl ((IntKind.i64.wrap (x3 + v6)), (IntKind.i64.wrap (x4 + 1))))) (
       some (.inr (.inr ())))) (
      some (.inl ((IntKind.i64.wrap (x3 + v6)), (IntKind.i64.wrap (x4 + 1))))))) (
    some (.inr (.inr ()))))
noncomputable def spec_PathOk_l0_S (a0 : TPath) : ((Int) × (Int)) → St := fun (x3, x4) => ⟨[(1, AV.optr 0 0 2), (3, AV.int .i64 x3), (4, AV.int .i64 x4)], [(0, Ob.box [AV.fsl (List.map (AV.int .i64) a0.verbs), AV.fsl (List.map ePoint a0.points)])], 1⟩
noncomputable def spec_PathOk_l0_X (a0 : TPath) : (((Int)) ⊕ (Unit)) → Ex × St := fun q => match q with
  | .inl y8 => ((.exit 0), ⟨[(1, AV.optr 0 0 2), (3, AV.int .i64 y8)], [(0, Ob.box [AV.fsl (List.map (AV.int .i64) a0.verbs), AV.fsl (List.map ePoint a0.points)])], 1⟩)
  | .inr _ => (.ret, ⟨[(2, AV.bool false)], [], 0⟩)
noncomputable def spec_PathOk_l1 (a0 : TPath) (y8 : Int) : ((Int)) → Option (((Int)) ⊕ ((Unit) ⊕ (Unit))) := fun x11 =>
  cnd (ile (List.length a0.points : Int) x11) (
   some (.inr (.inl ()))) (
   bnd (idx a0.points x11) fun v12 =>
   bnd (spec_PointOk v12) fun v13 =>
   cnd v13 (
    some (.inl (IntKind.i64.wrap (x11 + 1)))) (
    some (.inr (.inr ()))))
noncomputable def spec_PathOk_l1_S (a0 : TPath) (y8 : Int) : ((Int)) → St := fun x11 => ⟨[(1, AV.optr 0 0 2), (3, AV.int .i64 y8), (6, AV.int .i64 x11)], [(0, Ob.box [AV.fsl (List.map (AV.int .i64) a0.verbs), AV.fsl (List.map ePoint a0.points)])], 1⟩
noncomputable def spec_PathOk_l1_X (a0 : TPath) (y8 : Int) : ((Unit) ⊕ (Unit)) → Ex × St := fun q => match q with
  | .inl _ => ((.exit 2), ⟨[(1, AV.optr 0 0 2), (3, AV.int .i64 y8)], [(0, Ob.box [AV.fsl (List.map (AV.int .i64) a0.verbs), AV.fsl (List.map ePoint a0.points)])], 1⟩)
  | .inr _ => (.ret, ⟨[(2, AV.bool false)], [], 0⟩)
noncomputable def spec_PathOk (a0 : TPath) : Option ((Bool)) :=
  cnd (ile (List.length a0.points : Int) 24) (
   cnd (ile (List.length a0.verbs : Int) 24) (
    bnd (loopI (spec_PathOk_l0 a0) (0, 0)) fun q => match q with
    | .inl y8 =>
     bnd (loopI (spec_PathOk_l1 a0 y8) 0) fun q => match q with
     | .inl () =>
      some (ieq y8 (List.length a0.points : Int))
     | .inr () =>
      some false
    | .inr () =>
     some false) (
    some false)) (
   some false)
noncomputable def spec_PathOk_e (q : (TPath)) : List AV × List Ob := ([AV.agg [AV.fsl (List.map (AV.int .i64) q.verbs), AV.fsl (List.map ePoint q.points)]], [])
noncomputable def spec_PathOk_v (q : (TPath)) (r : (Bool)) : AV × List Ob := (AV.bool r, [])
noncomputable def spec_PathOk_x : List AV → List Ob → Option (AV × List Ob) := xOf spec_PathOk_e (fun q => spec_PathOk q) spec_PathOk_v
theorem spec_PathOk_i : ∀ a b, spec_PathOk_e a = spec_PathOk_e b → a = b := by rintro ⟨x0, x1⟩ ⟨y0, y1⟩ h; simp [spec_PathOk_e] at h; simp [h]
@[simp] theorem spec_PathOk_k (z0 : List Int) (z1 : List TPoint) : spec_PathOk_x [AV.agg [AV.fsl (List.map (AV.int .i64) z0), AV.fsl (List.map ePoint z1)]] [] = mapR (spec_PathOk ⟨z0, z1⟩) (fun r => (AV.bool r, [])) :=
  xOf_eq spec_PathOk_i ⟨z0, z1⟩
/-! spec_Clamp: function 194 -/
noncomputable def spec_Clamp (a0 : Int) (a1 : Int) (a2 : Int) : Option ((Int)) :=
  cnd (ile a1 a0) (
   cnd (ile a0 a2) (
    some a0) (
    some a2)) (
   some a1)
noncomputable def spec_Clamp_e (q : (Int) × (Int) × (Int)) : List AV × List Ob := ([AV.int .i64 q.1, AV.int .i64 q.2.1, AV.int .i64 q.2.2], [])
noncomputable def spec_Clamp_v (q : (Int) × (Int) × (Int)) (r : (Int)) : AV × List Ob := (AV.int .i64 r, [])
noncomputable def spec_Clamp_x : List AV → List Ob → Option (AV × List Ob) := xOf spec_Clamp_e (fun q => spec_Clamp q.1 q.2.1 q.2.2) spec_Clamp_v
theorem spec_Clamp_i : ∀ a b, spec_Clamp_e a = spec_Clamp_e b → a = b := by rintro ⟨x0, x1, x2⟩ ⟨y0, y1, y2⟩ h; simp [spec_Clamp_e] at h; simp [h]
@[simp] theorem spec_Clamp_k (z0 : Int) (z1 : Int) (z2 : Int) : spec_Clamp_x [AV.int .i64 z0, AV.int .i64 z1, AV.int .i64 z2] [] = mapR (spec_Clamp z0 z1 z2) (fun r => (AV.int .i64 r, [])) :=
  xOf_eq spec_Clamp_i (z0, z1, z2)
/-! spec_FloorDiv: function 195 -/
noncomputable def spec_FloorDiv (a0 : Int) (a1 : Int) : Option ((Int)) :=
  cnd (ile 1 a1) (
   chkP (¬ a1 = 0) (
   cnd (ile 0 (Int.tmod a0 a1)) (
    some (IntKind.i64.wrap (Int.tdiv a0 a1))) (
    some (IntKind.i64.wrap ((IntKind.i64.wrap (Int.tdiv a0 a1)) - 1))))) (
   some 0)
noncomputable def spec_FloorDiv_e (q : (Int) × (Int)) : List AV × List Ob := ([AV.int .i64 q.1, AV.int .i64 q.2], [])
noncomputable def spec_FloorDiv_v (q : (Int) × (Int)) (r : (Int)) : AV × List Ob := (AV.int .i64 r, [])
noncomputable def spec_FloorDiv_x : List AV → List Ob → Option (AV × List Ob) := xOf spec_FloorDiv_e (fun q => spec_FloorDiv q.1 q.2) spec_FloorDiv_v
theorem spec_FloorDiv_i : ∀ a b, spec_FloorDiv_e a = spec_FloorDiv_e b → a = b := by rintro ⟨x0, x1⟩ ⟨y0, y1⟩ h; simp [spec_FloorDiv_e] at h; simp [h]
@[simp] theorem spec_FloorDiv_k (z0 : Int) (z1 : Int) : spec_FloorDiv_x [AV.int .i64 z0, AV.int .i64 z1] [] = mapR (spec_FloorDiv z0 z1) (fun r => (AV.int .i64 r, [])) :=
  xOf_eq spec_FloorDiv_i (z0, z1)
/-! spec_RoundDiv: function 124 -/
noncomputable def spec_RoundDiv (a0 : Int) (a1 : Int) : Option ((Int)) :=
  cnd (ile 1 a1) (
   bnd (spec_FloorDiv a0 a1) fun v1 =>
   cnd (ile (IntKind.i64.wrap (a1 - (IntKind.i64.wrap (a0 - (IntKind.i64.wrap (v1 * a1)))))) (IntKind.i64.wrap (a0 - (IntKind.i64.wrap (v1 * a1))))) (
    some (IntKind.i64.wrap (v1 + 1))) (
    some v1)) (
   some 0)
noncomputable def spec_RoundDiv_e (q : (Int) × (Int)) : List AV × List Ob := ([AV.int .i64 q.1, AV.int .i64 q.2], [])
noncomputable def spec_RoundDiv_v (q : (Int) × (Int)) (r : (Int)) : AV × List Ob := (AV.int .i64 r, [])
noncomputable def spec_RoundDiv_x : List AV → List Ob → Option (AV × List Ob) := xOf spec_RoundDiv_e (fun q => spec_RoundDiv q.1 q.2) spec_RoundDiv_v
theorem spec_RoundDiv_i : ∀ a b, spec_RoundDiv_e a = spec_RoundDiv_e b → a = b := by rintro ⟨x0, x1⟩ ⟨y0, y1⟩ h; simp [spec_RoundDiv_e] at h; simp [h]
@[simp] theorem spec_RoundDiv_k (z0 : Int) (z1 : Int) : spec_RoundDiv_x [AV.int .i64 z0, AV.int .i64 z1] [] = mapR (spec_RoundDiv z0 z1) (fun r => (AV.int .i64 r, [])) :=
  xOf_eq spec_RoundDiv_i (z0, z1)
/-! spec_QuadAt: function 222 -/
noncomputable def spec_QuadAt (a0 : TPoint) (a1 : TPoint) (a2 : TPoint) (a3 : Int) : Option ((TPoint)) :=
  bnd (spec_PointOk a0) fun v1 =>
  cnd v1 (
   bnd (spec_PointOk a1) fun v2 =>
   cnd v2 (
    bnd (spec_PointOk a2) fun v3 =>
    cnd v3 (
     bnd (spec_Clamp a3 0 4) fun v4 =>
     bnd (spec_RoundDiv (IntKind.i64.wrap ((IntKind.i64.wrap ((IntKind.i64.wrap ((IntKind.i64.wrap ((IntKind.i64.wrap (4 - v4)) * (IntKind.i64.wrap (4 - v4)))) * a0.x)) + (IntKind.i64.wrap ((IntKind.i64.wrap ((IntKind.i64.wrap (2 * v4)) * (IntKind.i64.wrap (4 - v4)))) * a1.x)))) + (IntKind.i64.wrap ((IntKind.i64.wrap (v4 * v4)) * a2.x)))) 16) fun v5 =>
     bnd (spec_RoundDiv (IntKind.i64.wrap ((IntKind.i64.wrap ((IntKind.i64.wrap ((IntKind.i64.wrap ((IntKind.i64.wrap (4 - v4)) * (IntKind.i64.wrap (4 - v4)))) * a0.y)) + (IntKind.i64.wrap ((IntKind.i64.wrap ((IntKind.i64.wrap (2 * v4)) * (IntKind.i64.wrap (4 - v4)))) * a1.y)))) + (IntKind.i64.wrap ((IntKind.i64.wrap (v4 * v4)) * a2.y)))) 16) fun v6 =>
     some (TPoint.mk v5 v6)) (
     some (TPoint.mk 0 0))) (
    some (TPoint.mk 0 0))) (
   some (TPoint.mk 0 0))
noncomputable def spec_QuadAt_e (q : (TPoint) × (TPoint) × (TPoint) × (Int)) : List AV × List Ob := ([AV.agg [AV.int .i64 q.1.x, AV.int .i64 q.1.y], AV.agg [AV.int .i64 q.2.1.x, AV.int .i64 q.2.1.y], AV.agg [AV.int .i64 q.2.2.1.x, AV.int .i64 q.2.2.1.y], AV.int .i64 q.2.2.2], [])
noncomputable def spec_QuadAt_v (q : (TPoint) × (TPoint) × (TPoint) × (Int)) (r : (TPoint)) : AV × List Ob := (AV.agg [AV.int .i64 r.x, AV.int .i64 r.y], [])
noncomputable def spec_QuadAt_x : List AV → List Ob → Option (AV × List Ob) := xOf spec_QuadAt_e (fun q => spec_QuadAt q.1 q.2.1 q.2.2.1 q.2.2.2) spec_QuadAt_v
theorem spec_QuadAt_i : ∀ a b, spec_QuadAt_e a = spec_QuadAt_e b → a = b := by rintro ⟨⟨x0, x1⟩, ⟨x2, x3⟩, ⟨x4, x5⟩, x6⟩ ⟨⟨y0, y1⟩, ⟨y2, y3⟩, ⟨y4, y5⟩, y6⟩ h; simp [spec_QuadAt_e] at h; simp [h]
@[simp] theorem spec_QuadAt_k (z0 : Int) (z1 : Int) (z2 : Int) (z3 : Int) (z4 : Int) (z5 : Int) (z6 : Int) : spec_QuadAt_x [AV.agg [AV.int .i64 z0, AV.int .i64 z1], AV.agg [AV.int .i64 z2, AV.int .i64 z3], AV.agg [AV.int .i64 z4, AV.int .i64 z5], AV.int .i64 z6] [] = mapR (spec_QuadAt ⟨z0, z1⟩ ⟨z2, z3⟩ ⟨z4, z5⟩ z6) (fun r => (AV.agg [AV.int .i64 r.x, AV.int .i64 r.y], [])) :=
  xOf_eq spec_QuadAt_i (⟨z0, z1⟩, ⟨z2, z3⟩, ⟨z4, z5⟩, z6)
/-! spec_CubicAt: function 223 -/
noncomputable def spec_CubicAt (a0 : TPoint) (a1 : TPoint) (a2 : TPoint) (a3 : TPoint) (a4 : Int) : Option ((TPoint)) :=
  bnd (spec_PointOk a0) fun v1 =>
  cnd v1 (
   bnd (spec_PointOk a1) fun v2 =>
   cnd v2 (
    bnd (spec_PointOk a2) fun v3 =>
    cnd v3 (
     bnd (spec_PointOk a3) fun v4 =>
     cnd v4 (
      bnd (spec_Clamp a4 0 8) fun v5 =>
      bnd (spec_RoundDiv (IntKind.i64.wrap ((IntKind.i64.wrap ((IntKind.i64.wrap ((IntKind.i64.wrap ((IntKind.i64.wrap ((IntKind.i64.wrap ((IntKind.i64.wrap (8 - v5)) * (IntKind.i64.wrap (8 - v5)))) * (IntKind.i64.wrap (8 - v5)))) * a0.x)) + (IntKind.i64.wrap ((IntKind.i64.wrap ((IntKind.i64.wrap ((IntKind.i64.wrap (3 * v5)) * (IntKind.i64.wrap (8 - v5)))) * (IntKind.i64.wrap (8 - v5)))) * a1.x)))) + (IntKind.i64.wrap ((IntKind.i64.wrap ((IntKind.i64.wrap ((IntKind.i64.wrap (3 * v5)) * v5)) * (IntKind.i64.wrap (8 - v5)))) * a2.x)))) + (IntKind.i64.wrap ((IntKind.i64.wrap ((IntKind.i64.wrap (v5 * v5)) * v5)) * a3.x)))) 512) fun v6 =>
      bnd (spec_RoundDiv (IntKind.i64.wrap ((IntKind.i64.wrap ((IntKind.i64.wrap ((IntKind.i64.wrap ((IntKind.i64.wrap ((IntKind.i64.wrap ((IntKind.i64.wrap (8 - v5)) * (IntKind.i64.wrap (8 - v5)))) * (IntKind.i64.wrap (8 - v5)))) * a0.y)) + (IntKind.i64.wrap ((IntKind.i64.wrap ((IntKind.i64.wrap ((IntKind.i64.wrap (3 * v5)) * (IntKind.i64.wrap (8 - v5)))) * (IntKind.i64.wrap (8 - v5)))) * a1.y)))) + (IntKind.i64.wrap ((IntKind.i64.wrap ((IntKind.i64.wrap ((IntKind.i64.wrap (3 * v5)) * v5)) * (IntKind.i64.wrap (8 - v5)))) * a2.y)))) + (IntKind.i64.wrap ((IntKind.i64.wrap ((IntKind.i64.wrap (v5 * v5)) * v5)) * a3.y)))) 512) fun v7 =>
      some (TPoint.mk v6 v7)) (
      some (TPoint.mk 0 0))) (
     some (TPoint.mk 0 0))) (
    some (TPoint.mk 0 0))) (
   some (TPoint.mk 0 0))
noncomputable def spec_CubicAt_e (q : (TPoint) × (TPoint) × (TPoint) × (TPoint) × (Int)) : List AV × List Ob := ([AV.agg [AV.int .i64 q.1.x, AV.int .i64 q.1.y], AV.agg [AV.int .i64 q.2.1.x, AV.int .i64 q.2.1.y], AV.agg [AV.int .i64 q.2.2.1.x, AV.int .i64 q.2.2.1.y], AV.agg [AV.int .i64 q.2.2.2.1.x, AV.int .i64 q.2.2.2.1.y], AV.int .i64 q.2.2.2.2], [])
noncomputable def spec_CubicAt_v (q : (TPoint) × (TPoint) × (TPoint) × (TPoint) × (Int)) (r : (TPoint)) : AV × List Ob := (AV.agg [AV.int .i64 r.x, AV.int .i64 r.y], [])
noncomputable def spec_CubicAt_x : List AV → List Ob → Option (AV × List Ob) := xOf spec_CubicAt_e (fun q => spec_CubicAt q.1 q.2.1 q.2.2.1 q.2.2.2.1 q.2.2.2.2) spec_CubicAt_v
theorem spec_CubicAt_i : ∀ a b, spec_CubicAt_e a = spec_CubicAt_e b → a = b := by rintro ⟨⟨x0, x1⟩, ⟨x2, x3⟩, ⟨x4, x5⟩, ⟨x6, x7⟩, x8⟩ ⟨⟨y0, y1⟩, ⟨y2, y3⟩, ⟨y4, y5⟩, ⟨y6, y7⟩, y8⟩ h; simp [spec_CubicAt_e] at h; simp [h]
@[simp] theorem spec_CubicAt_k (z0 : Int) (z1 : Int) (z2 : Int) (z3 : Int) (z4 : Int) (z5 : Int) (z6 : Int) (z7 : Int) (z8 : Int) : spec_CubicAt_x [AV.agg [AV.int .i64 z0, AV.int .i64 z1], AV.agg [AV.int .i64 z2, AV.int .i64 z3], AV.agg [AV.int .i64 z4, AV.int .i64 z5], AV.agg [AV.int .i64 z6, AV.int .i64 z7], AV.int .i64 z8] [] = mapR (spec_CubicAt ⟨z0, z1⟩ ⟨z2, z3⟩ ⟨z4, z5⟩ ⟨z6, z7⟩ z8) (fun r => (AV.agg [AV.int .i64 r.x, AV.int .i64 r.y], [])) :=
  xOf_eq spec_CubicAt_i (⟨z0, z1⟩, ⟨z2, z3⟩, ⟨z4, z5⟩, ⟨z6, z7⟩, z8)
/-! spec_FlatOf: function 182 -/
noncomputable def spec_FlatOf_l0 (a0 : TPath) (v89 : TPoint) (x34 : Int) (x35 : Int) (x79 : List (List TPoint)) : ((Int) × (List TPoint)) → Option (((Int) × (List TPoint)) ⊕ ((List TPoint))) := fun (x94, x95) =>
  cnd (ile x94 4) (
   bnd (idx a0.points x34) fun v96 =>
   bnd (idx a0.points (IntKind.i64.wrap (x34 + 1))) fun v97 =>
   bnd (spec_QuadAt v89 v96 v97 x94) fun v98 =>
   chkP ((List.length x95 + 1) * 16 ≤ 17592186044416) (
   nam ((x95 ++ [v98]) : List TPoint) fun l99 =>
   some (.inl ((IntKind.i64.wrap (x94 + 1)), l99)))) (
   some (.inr x95))
noncomputable def spec_FlatOf_l0_S (a0 : TPath) (v89 : TPoint) (x34 : Int) (x35 : Int) (x79 : List (List TPoint)) : ((Int) × (List TPoint)) → St := fun (x94, x95) => ⟨[(1, AV.optr 0 0 2), (3, AV.osl 1 0 (List.length x79) (List.length x79)), (4, AV.osl 2 0 (List.length x95) (List.length x95)), (5, AV.int .i64 x34), (6, AV.int .i64 x35), (7, AV.optr 3 0 2), (8, AV.int .i64 x94)], [(0, Ob.box [AV.fsl (List.map (AV.int .i64) a0.verbs), AV.fsl (List.map ePoint a0.points)]), (1, Ob.arr 1 (List.map (eSl ePoint) x79) false), (2, Ob.arr 2 (List.map ePoint x95) false), (3, Ob.box [AV.int .i64 v89.x, AV.int .i64 v89.y])], 4⟩
noncomputable def spec_FlatOf_l0_X (a0 : TPath) (v89 : TPoint) (x34 : Int) (x35 : Int) (x79 : List (List TPoint)) : ((List TPoint)) → Ex × St := fun y100 => ((.exit 3), ⟨[(1, AV.optr 0 0 2), (3, AV.osl 1 0 (List.length x79) (List.length x79)), (4, AV.osl 2 0 (List.length y100) (List.length y100)), (5, AV.int .i64 x34), (6, AV.int .i64 x35)], [(0, Ob.box [AV.fsl (List.map (AV.int .i64) a0.verbs), AV.fsl (List.map ePoint a0.points)]), (1, Ob.arr 1 (List.map (eSl ePoint) x79) false), (2, Ob.arr 2 (List.map ePoint y100) false)], 3⟩)
noncomputable def spec_FlatOf_l1 (a0 : TPath) (v102 : TPoint) (x34 : Int) (x35 : Int) (x79 : List (List TPoint)) : ((Int) × (List TPoint)) → Option (((Int) × (List TPoint)) ⊕ ((List TPoint))) := fun (x108, x109) =>
  cnd (ile x108 8) (
   bnd (idx a0.points x34) fun v110 =>
   bnd (idx a0.points (IntKind.i64.wrap (x34 + 1))) fun v111 =>
   bnd (idx a0.points (IntKind.i64.wrap (x34 + 2))) fun v112 =>
   bnd (spec_CubicAt v102 v110 v111 v112 x108) fun v113 =>
   chkP ((List.length x109 + 1) * 16 ≤ 17592186044416) (
   nam ((x109 ++ [v113]) : List TPoint) fun l114 =>
   some (.inl ((IntKind.i64.wrap (x108 + 1)), l114)))) (
   some (.inr x109))
noncomputable def spec_FlatOf_l1_S (a0 : TPath) (v102 : TPoint) (x34 : Int) (x35 : Int) (x79 : List (List TPoint)) : ((Int) × (List TPoint)) → St := fun (x108, x109) => ⟨[(1, AV.optr 0 0 2), (3, AV.osl 1 0 (List.length x79) (List.length x79)), (4, AV.osl 2 0 (List.length x109) (List.length x109)), (5, AV.int .i64 x34), (6, AV.int .i64 x35), (9, AV.optr 3 0 2), (10, AV.int .i64 x108)], [(0, Ob.box [AV.fsl (List.map (AV.int .i64) a0.verbs), AV.fsl (List.map ePoint a0.points)]), (1, Ob.arr 1 (List.map (eSl ePoint) x79) false), (2, Ob.arr 2 (List.map ePoint x109) false), (3, Ob.box [AV.int .i64 v102.x, AV.int .i64 v102.y])], 4⟩
noncomputable def spec_FlatOf_l1_X (a0 : TPath) (v102 : TPoint) (x34 : Int) (x35 : Int) (x79 : List (List TPoint)) : ((List TPoint)) → Ex × St := fun y115 => ((.exit 5), ⟨[(1, AV.optr 0 0 2), (3, AV.osl 1 0 (List.length x79) (List.length x79)), (4, AV.osl 2 0 (List.length y115) (List.length y115)), (5, AV.int .i64 x34), (6, AV.int .i64 x35)], [(0, Ob.box [AV.fsl (List.map (AV.int .i64) a0.verbs), AV.fsl (List.map ePoint a0.points)]), (1, Ob.arr 1 (List.map (eSl ePoint) x79) false), (2, Ob.arr 2 (List.map ePoint y115) false)], 3⟩)
noncomputable def spec_FlatOf_l2 (a0 : TPath) : ((Int) × (Int) × (List TPoint) × (List (List TPoint))) → Option (((Int) × (Int) × (List TPoint) × (List (List TPoint))) ⊕ ((List (List TPoint)) × (List TPoint))) := fun (x34, x35, x36, x79) =>
  cnd (ile (List.length a0.verbs : Int) x35) (
   some (.inr (x79, x36))) (
   bnd (idx a0.verbs x35) fun v80 =>
   cnd (ieq v80 1) (
    cnd (ile x35 0) (
     bnd (idx a0.points x34) fun v81 =>
     bnd (spec_NeedOf v80) fun v82 =>
     some (.inl ((IntKind.i64.wrap (x34 + v82)), (IntKind.i64.wrap (x35 + 1)), [v81], x79))) (
     chkP ((List.length x79 + 1) * 24 ≤ 17592186044416) (
     nam ((x79 ++ [x36]) : List (List TPoint)) fun l83 =>
     bnd (idx a0.points x34) fun v84 =>
     bnd (spec_NeedOf v80) fun v85 =>
     some (.inl ((IntKind.i64.wrap (x34 + v85)), (IntKind.i64.wrap (x35 + 1)), [v84], l83))))) (
    cnd (ieq v80 2) (
     bnd (idx a0.points x34) fun v86 =>
     chkP ((List.length x36 + 1) * 16 ≤ 17592186044416) (
     nam ((x36 ++ [v86]) : List TPoint) fun l87 =>
     bnd (spec_NeedOf v80) fun v88 =>
     some (.inl ((IntKind.i64.wrap (x34 + v88)), (IntKind.i64.wrap (x35 + 1)), l87, x79)))) (
     cnd (ieq v80 3) (
      bnd (idx x36 (IntKind.i64.wrap ((List.length x36 : Int) - 1))) fun v89 =>
      bnd (loopI (spec_FlatOf_l0 a0 v89 x34 x35 x79) (1, x36)) fun y100 =>
      bnd (spec_NeedOf v80) fun v101 =>
      some (.inl ((IntKind.i64.wrap (x34 + v101)), (IntKind.i64.wrap (x35 + 1)), y100, x79))) (
      cnd (ieq v80 4) (
       bnd (idx x36 (IntKind.i64.wrap ((List.length x36 : Int) - 1))) fun v102 =>
       bnd (loopI (spec_FlatOf_l1 a0 v102 x34 x35 x79) (1, x36)) fun y115 =>
       bnd (spec_NeedOf v80) fun v116 =>
       some (.inl ((IntKind.i64.wrap (x34 + v116)), (IntKind.i64.wrap (x35 + 1)), y115, x79))) (
       cnd (ieq v80 5) (
        bnd (idx x36 0) fun v117 =>
        bnd (idx x36 (IntKind.i64.wrap ((List.length x36 : Int) - 1))) fun v118 =>
        cnd (andB (decide (v117.x = v118.x)) (andB (decide (v117.y = v118.y)) true)) (
         bnd (spec_NeedOf v80) fun v119 =>
         some (.inl ((IntKind.i64.wrap (x34 + v119)), (IntKind.i64.wrap (x35 + 1)), x36, x79))) (
         chkP ((List.length x36 + 1) * 16 ≤ 17592186044416) (
         nam ((x36 ++ [v117]) : List TPoint) fun l120 =>
         bnd (spec_NeedOf v80) fun v121 =>
         some (.inl ((IntKind.i64.wrap (x34 + v121)), (IntKind.i64.wrap (x35 + 1)), l120, x79))))) (
        bnd (spec_NeedOf v80) fun v122 =>
        some (.inl ((IntKind.i64.wrap (x34 + v122)), (IntKind.i64.wrap (x35 + 1)), x36, x79))))))))
noncomputable def spec_FlatOf_l2_S (a0 : TPath) : ((Int) × (Int) × (List TPoint) × (List (List TPoint))) → St := fun (x34, x35, x36, x79) => ⟨[(1, AV.optr 0 0 2), (3, AV.osl 1 0 (List.length x79) (List.length x79)), (4, AV.osl 2 0 (List.length x36) (List.length x36)), (5, AV.int .i64 x34), (6, AV.int .i64 x35)], [(0, Ob.box [AV.fsl (List.map (AV.int .i64) a0.verbs), AV.fsl (List.map ePoint a0.points)]), (1, Ob.arr 1 (List.map (eSl ePoint) x79) false), (2, Ob.arr 2 (List.map ePoint x36) false)], 3⟩
noncomputable def spec_FlatOf_l2_X (a0 : TPath) : ((List (List TPoint)) × (List TPoint)) → Ex × St := fun (y123, y124) => ((.exit 0), ⟨[(3, AV.osl 0 0 (List.length y123) (List.length y123)), (4, AV.osl 1 0 (List.length y124) (List.length y124))], [(0, Ob.arr 1 (List.map (eSl ePoint) y123) false), (1, Ob.arr 2 (List.map ePoint y124) false)], 2⟩)
noncomputable def spec_FlatOf (a0 : TPath) : Option ((List (List TPoint))) :=
  bnd (spec_PathOk a0) fun v1 =>
  cnd v1 (
   bnd (loopI (spec_FlatOf_l2 a0) (0, 0, [], [])) fun (y123, y124) =>
   cnd (ile (List.length y124 : Int) 0) (
    some y123) (
    chkP ((List.length y123 + 1) * 24 ≤ 17592186044416) (
    nam ((y123 ++ [y124]) : List (List TPoint)) fun l125 =>
    some l125))) (
   some [])
noncomputable def spec_FlatOf_e (q : (TPath)) : List AV × List Ob := ([AV.agg [AV.fsl (List.map (AV.int .i64) q.verbs), AV.fsl (List.map ePoint q.points)]], [])
noncomputable def spec_FlatOf_v (q : (TPath)) (r : (List (List TPoint))) : AV × List Ob := (AV.fsl (List.map (eSl ePoint) r), [])
noncomputable def spec_FlatOf_x : List AV → List Ob → Option (AV × List Ob) := xOf spec_FlatOf_e (fun q => spec_FlatOf q) spec_FlatOf_v
theorem spec_FlatOf_i : ∀ a b, spec_FlatOf_e a = spec_FlatOf_e b → a = b := by rintro ⟨x0, x1⟩ ⟨y0, y1⟩ h; simp [spec_FlatOf_e] at h; simp [h]
@[simp] theorem spec_FlatOf_k (z0 : List Int) (z1 : List TPoint) : spec_FlatOf_x [AV.agg [AV.fsl (List.map (AV.int .i64) z0), AV.fsl (List.map ePoint z1)]] [] = mapR (spec_FlatOf ⟨z0, z1⟩) (fun r => (AV.fsl (List.map (eSl ePoint) r), [])) :=
  xOf_eq spec_FlatOf_i ⟨z0, z1⟩
/-! spec_l11Box: function 148 -/
noncomputable def spec_l11Box (a0 : TBox) : Option ((Bool)) :=
  bnd (spec_Empty a0) fun v1 =>
  cnd v1 (
   some false) (
   bnd (spec_l01In a0.x0 (-2000) 2000) fun v2 =>
   cnd v2 (
    bnd (spec_l01In a0.y0 (-2000) 2000) fun v3 =>
    cnd v3 (
     bnd (spec_l01In a0.x1 (-2000) 2000) fun v4 =>
     cnd v4 (
      bnd (spec_l01In a0.y1 (-2000) 2000) fun v5 =>
      cnd v5 (
       cnd (ile (IntKind.i64.wrap (a0.x1 - a0.x0)) 60) (
        some (ile (IntKind.i64.wrap (a0.y1 - a0.y0)) 60)) (
        some false)) (
       some false)) (
      some false)) (
     some false)) (
    some false))
noncomputable def spec_l11Box_e (q : (TBox)) : List AV × List Ob := ([AV.agg [AV.int .i64 q.x0, AV.int .i64 q.y0, AV.int .i64 q.x1, AV.int .i64 q.y1]], [])
noncomputable def spec_l11Box_v (q : (TBox)) (r : (Bool)) : AV × List Ob := (AV.bool r, [])
noncomputable def spec_l11Box_x : List AV → List Ob → Option (AV × List Ob) := xOf spec_l11Box_e (fun q => spec_l11Box q) spec_l11Box_v
theorem spec_l11Box_i : ∀ a b, spec_l11Box_e a = spec_l11Box_e b → a = b := by rintro ⟨x0, x1, x2, x3⟩ ⟨y0, y1, y2, y3⟩ h; simp [spec_l11Box_e] at h; simp [h]
@[simp] theorem spec_l11Box_k (z0 : Int) (z1 : Int) (z2 : Int) (z3 : Int) : spec_l11Box_x [AV.agg [AV.int .i64 z0, AV.int .i64 z1, AV.int .i64 z2, AV.int .i64 z3]] [] = mapR (spec_l11Box ⟨z0, z1, z2, z3⟩) (fun r => (AV.bool r, [])) :=
  xOf_eq spec_l11Box_i ⟨z0, z1, z2, z3⟩
/-! spec_l10Near: function 247 -/
noncomputable def spec_l10Near (a0 : TPoint) : Option ((Bool)) :=
  bnd (spec_l01In a0.x (-33554432) 33554432) fun v1 =>
  cnd v1 (
   bnd (spec_l01In a0.y (-33554432) 33554432) fun v2 =>
   some v2) (
   some false)
noncomputable def spec_l10Near_e (q : (TPoint)) : List AV × List Ob := ([AV.agg [AV.int .i64 q.x, AV.int .i64 q.y]], [])
noncomputable def spec_l10Near_v (q : (TPoint)) (r : (Bool)) : AV × List Ob := (AV.bool r, [])
noncomputable def spec_l10Near_x : List AV → List Ob → Option (AV × List Ob) := xOf spec_l10Near_e (fun q => spec_l10Near q) spec_l10Near_v
theorem spec_l10Near_i : ∀ a b, spec_l10Near_e a = spec_l10Near_e b → a = b := by rintro ⟨x0, x1⟩ ⟨y0, y1⟩ h; simp [spec_l10Near_e] at h; simp [h]
@[simp] theorem spec_l10Near_k (z0 : Int) (z1 : Int) : spec_l10Near_x [AV.agg [AV.int .i64 z0, AV.int .i64 z1]] [] = mapR (spec_l10Near ⟨z0, z1⟩) (fun r => (AV.bool r, [])) :=
  xOf_eq spec_l10Near_i ⟨z0, z1⟩
/-! spec_WindOf: function 245 -/
noncomputable def spec_WindOf_l0 (a0 : List TPoint) (a1 : TPoint) : ((Int) × (Int)) → Option (((Int) × (Int)) ⊕ (((Int)) ⊕ (Unit))) := fun (x6, x7) =>
  cnd (ile (List.length a0 : Int) x6) (
   some (.inr (.inl x7))) (
   bnd (idx a0 x6) fun v8 =>
   chkP (¬ (List.length a0 : Int) = 0) (
   bnd (idx a0 (Int.tmod (IntKind.i64.wrap (x6 + 1)) (List.length a0 : Int))) fun v9 =>
   bnd (spec_l10Near v8) fun v10 =>
   cnd v10 (
    bnd (spec_l10Near v9) fun v11 =>
    cnd v11 (
     cnd (ile v8.y a1.y) (
      cnd (ile v9.y a1.y) (
       some (.inl ((IntKind.i64.wrap (x6 + 1)), x7))) (
       cnd (ile (IntKind.i64.wrap ((IntKind.i64.wrap ((IntKind.i64.wrap (v9.x - v8.x)) * (IntKind.i64.wrap (a1.y - v8.y)))) - (IntKind.i64.wrap ((IntKind.i64.wrap (a1.x - v8.x)) * (IntKind.i64.wrap (v9.y - v8.y)))))) 0) (
        some (.inl ((IntKind.i64.wrap (x6 + 1)), x7))) (
        some (.inl ((IntKind.i64.wrap (x6 + 1)), (IntKind.i64.wrap (x7 + 1))))))) (
      cnd (ile v9.y a1.y) (
       cnd (ile 0 (IntKind.i64.wrap ((IntKind.i64.wrap ((IntKind.i64.wrap (v9.x - v8.x)) * (IntKind.i64.wrap (a1.y - v8.y)))) - (IntKind.i64.wrap ((IntKind.i64.wrap (a1.x - v8.x)) * (IntKind.i64.wrap (v9.y - v8.y))))))) (
        some (.inl ((IntKind.i64.wrap (x6 + 1)), x7))) (
        some (.inl ((IntKind.i64.wrap (x6 + 1)), (IntKind.i64.wrap (x7 - 1)))))) (
       some (.inl ((IntKind.i64.wrap (x6 + 1)), x7))))) (
     some (.inr (.inr ())))) (
    some (.inr (.inr ())))))
noncomputable def spec_WindOf_l0_S (a0 : List TPoint) (a1 : TPoint) : ((Int) × (Int)) → St := fun (x6, x7) => ⟨[(0, AV.fsl (List.map ePoint a0)), (3, AV.optr 0 0 2), (5, AV.int .i64 x7), (6, AV.int .i64 x6)], [(0, Ob.box [AV.int .i64 a1.x, AV.int .i64 a1.y])], 1⟩
noncomputable def spec_WindOf_l0_X (a0 : List TPoint) (a1 : TPoint) : (((Int)) ⊕ (Unit)) → Ex × St := fun q => match q with
  | .inl y12 => ((.exit 0), ⟨[(5, AV.int .i64 y12)], [], 0⟩)
  | .inr _ => (.ret, ⟨[(4, AV.int .i64 0)], [], 0⟩)
noncomputable def spec_WindOf (a0 : List TPoint) (a1 : TPoint) : Option ((Int)) :=
  bnd (spec_l10Near a1) fun v1 =>
  cnd v1 (
   bnd (loopI (spec_WindOf_l0 a0 a1) (0, 0)) fun q => match q with
   | .inl y12 =>
    some y12
   | .inr () =>
    some 0) (
   some 0)
noncomputable def spec_WindOf_e (q : (List TPoint) × (TPoint)) : List AV × List Ob := ([AV.fsl (List.map ePoint q.1), AV.agg [AV.int .i64 q.2.x, AV.int .i64 q.2.y]], [])
noncomputable def spec_WindOf_v (q : (List TPoint) × (TPoint)) (r : (Int)) : AV × List Ob := (AV.int .i64 r, [])
noncomputable def spec_WindOf_x : List AV → List Ob → Option (AV × List Ob) := xOf spec_WindOf_e (fun q => spec_WindOf q.1 q.2) spec_WindOf_v
theorem spec_WindOf_i : ∀ a b, spec_WindOf_e a = spec_WindOf_e b → a = b := by rintro ⟨x0, ⟨x1, x2⟩⟩ ⟨y0, ⟨y1, y2⟩⟩ h; simp [spec_WindOf_e] at h; simp [h]
@[simp] theorem spec_WindOf_k (z0 : List TPoint) (z1 : Int) (z2 : Int) : spec_WindOf_x [AV.fsl (List.map ePoint z0), AV.agg [AV.int .i64 z1, AV.int .i64 z2]] [] = mapR (spec_WindOf z0 ⟨z1, z2⟩) (fun r => (AV.int .i64 r, [])) :=
  xOf_eq spec_WindOf_i (z0, ⟨z1, z2⟩)
/-! spec_Covers: function 241 -/
noncomputable def spec_Covers_l0 (a0 : List (List TPoint)) (a1 : Bool) (a2 : TPoint) : ((Int) × (Int)) → Option (((Int) × (Int)) ⊕ ((Int))) := fun (x3, x4) =>
  cnd (ile (List.length a0 : Int) x4) (
   some (.inr x3)) (
   bnd (idx a0 x4) fun v5 =>
   bnd (spec_WindOf v5 a2) fun v6 =>
   some (.inl ((IntKind.i64.wrap (x3 + v6)), (IntKind.i64.wrap (x4 + 1)))))
noncomputable def spec_Covers_l0_S (a0 : List (List TPoint)) (a1 : Bool) (a2 : TPoint) : ((Int) × (Int)) → St := fun (x3, x4) => ⟨[(0, AV.fsl (List.map (eSl ePoint) a0)), (1, AV.bool a1), (5, AV.optr 0 0 2), (7, AV.int .i64 x3), (8, AV.int .i64 x4)], [(0, Ob.box [AV.int .i64 a2.x, AV.int .i64 a2.y])], 1⟩
noncomputable def spec_Covers_l0_X (a0 : List (List TPoint)) (a1 : Bool) (a2 : TPoint) : ((Int)) → Ex × St := fun y7 => ((.exit 0), ⟨[(1, AV.bool a1), (7, AV.int .i64 y7)], [], 0⟩)
noncomputable def spec_Covers (a0 : List (List TPoint)) (a1 : Bool) (a2 : TPoint) : Option ((Bool)) :=
  bnd (loopI (spec_Covers_l0 a0 a1 a2) (0, 0)) fun y7 =>
  cnd a1 (
   some (!(ieq (Int.tmod y7 2) 0))) (
   some (!(ieq y7 0)))
noncomputable def spec_Covers_e (q : (List (List TPoint)) × (Bool) × (TPoint)) : List AV × List Ob := ([AV.fsl (List.map (eSl ePoint) q.1), AV.bool q.2.1, AV.agg [AV.int .i64 q.2.2.x, AV.int .i64 q.2.2.y]], [])
noncomputable def spec_Covers_v (q : (List (List TPoint)) × (Bool) × (TPoint)) (r : (Bool)) : AV × List Ob := (AV.bool r, [])
noncomputable def spec_Covers_x : List AV → List Ob → Option (AV × List Ob) := xOf spec_Covers_e (fun q => spec_Covers q.1 q.2.1 q.2.2) spec_Covers_v
theorem spec_Covers_i : ∀ a b, spec_Covers_e a = spec_Covers_e b → a = b := by rintro ⟨x0, x1, ⟨x2, x3⟩⟩ ⟨y0, y1, ⟨y2, y3⟩⟩ h; simp [spec_Covers_e] at h; simp [h]
@[simp] theorem spec_Covers_k (z0 : List (List TPoint)) (z1 : Bool) (z2 : Int) (z3 : Int) : spec_Covers_x [AV.fsl (List.map (eSl ePoint) z0), AV.bool z1, AV.agg [AV.int .i64 z2, AV.int .i64 z3]] [] = mapR (spec_Covers z0 z1 ⟨z2, z3⟩) (fun r => (AV.bool r, [])) :=
  xOf_eq spec_Covers_i (z0, z1, ⟨z2, z3⟩)
/-! spec_MaskAt: function 221 -/
noncomputable def spec_MaskAt_l0 (a0 : List (List TPoint)) (a1 : Bool) (a2 : Int) (a3 : Int) : ((Int) × (Int)) → Option (((Int) × (Int)) ⊕ ((Int))) := fun (x4, x5) =>
  cnd (ile 4 x5) (
   some (.inr x4)) (
   bnd (spec_Covers a0 a1 (TPoint.mk (IntKind.i64.wrap ((IntKind.i64.wrap ((IntKind.i64.wrap (256 * a2)) + 64)) + (IntKind.i64.wrap (128 * (Int.tmod x5 2))))) (IntKind.i64.wrap ((IntKind.i64.wrap ((IntKind.i64.wrap (256 * a3)) + 64)) + (IntKind.i64.wrap (128 * (IntKind.i64.wrap (Int.tdiv x5 2)))))))) fun v6 =>
   cnd v6 (
    bnd (idx [1, 2, 4, 8] x5) fun v7 =>
    some (.inl ((IntKind.i64.wrap (x4 + v7)), (IntKind.i64.wrap (x5 + 1))))) (
    some (.inl (x4, (IntKind.i64.wrap (x5 + 1))))))
noncomputable def spec_MaskAt_l0_S (a0 : List (List TPoint)) (a1 : Bool) (a2 : Int) (a3 : Int) : ((Int) × (Int)) → St := fun (x4, x5) => ⟨[(0, AV.fsl (List.map (eSl ePoint) a0)), (1, AV.bool a1), (2, AV.int .i64 a2), (3, AV.int .i64 a3), (9, AV.int .i64 x4), (10, AV.int .i64 x5)], [], 0⟩
noncomputable def spec_MaskAt_l0_X (a0 : List (List TPoint)) (a1 : Bool) (a2 : Int) (a3 : Int) : ((Int)) → Ex × St := fun y8 => ((.exit 0), ⟨[(9, AV.int .i64 y8)], [], 0⟩)
noncomputable def spec_MaskAt (a0 : List (List TPoint)) (a1 : Bool) (a2 : Int) (a3 : Int) : Option ((Int)) :=
  bnd (spec_l01In a2 (-2000) 2000) fun v1 =>
  cnd v1 (
   bnd (spec_l01In a3 (-2000) 2000) fun v2 =>
   cnd v2 (
    bnd (loopI (spec_MaskAt_l0 a0 a1 a2 a3) (0, 0)) fun y8 =>
    some y8) (
    some 0)) (
   some 0)
noncomputable def spec_MaskAt_e (q : (List (List TPoint)) × (Bool) × (Int) × (Int)) : List AV × List Ob := ([AV.fsl (List.map (eSl ePoint) q.1), AV.bool q.2.1, AV.int .i64 q.2.2.1, AV.int .i64 q.2.2.2], [])
noncomputable def spec_MaskAt_v (q : (List (List TPoint)) × (Bool) × (Int) × (Int)) (r : (Int)) : AV × List Ob := (AV.int .i64 r, [])
noncomputable def spec_MaskAt_x : List AV → List Ob → Option (AV × List Ob) := xOf spec_MaskAt_e (fun q => spec_MaskAt q.1 q.2.1 q.2.2.1 q.2.2.2) spec_MaskAt_v
theorem spec_MaskAt_i : ∀ a b, spec_MaskAt_e a = spec_MaskAt_e b → a = b := by rintro ⟨x0, x1, x2, x3⟩ ⟨y0, y1, y2, y3⟩ h; simp [spec_MaskAt_e] at h; simp [h]
@[simp] theorem spec_MaskAt_k (z0 : List (List TPoint)) (z1 : Bool) (z2 : Int) (z3 : Int) : spec_MaskAt_x [AV.fsl (List.map (eSl ePoint) z0), AV.bool z1, AV.int .i64 z2, AV.int .i64 z3] [] = mapR (spec_MaskAt z0 z1 z2 z3) (fun r => (AV.int .i64 r, [])) :=
  xOf_eq spec_MaskAt_i (z0, z1, z2, z3)
/-! spec_MaskOf: function 181 -/
noncomputable def spec_MaskOf_l0 (a0 : List (List TPoint)) (a1 : Bool) (a2 : TBox) (x8 : Int) : ((Int) × (List Int)) → Option (((Int) × (List Int)) ⊕ ((List Int))) := fun (x12, x13) =>
  cnd (ile a2.x1 x12) (
   some (.inr x13)) (
   bnd (spec_MaskAt a0 a1 x12 x8) fun v14 =>
   chkP ((List.length x13 + 1) * 8 ≤ 17592186044416) (
   nam ((x13 ++ [v14]) : List Int) fun l15 =>
   some (.inl ((IntKind.i64.wrap (x12 + 1)), l15))))
noncomputable def spec_MaskOf_l0_S (a0 : List (List TPoint)) (a1 : Bool) (a2 : TBox) (x8 : Int) : ((Int) × (List Int)) → St := fun (x12, x13) => ⟨[(0, AV.fsl (List.map (eSl ePoint) a0)), (1, AV.bool a1), (5, AV.optr 0 0 4), (6, AV.optr 1 0 5), (7, AV.optr 2 0 5), (8, AV.int .i64 x8), (9, AV.int .i64 x12)], [(0, Ob.box [AV.int .i64 a2.x0, AV.int .i64 a2.y0, AV.int .i64 a2.x1, AV.int .i64 a2.y1]), (1, Ob.box [AV.int .i64 0, AV.int .i64 0, AV.int .i64 0, AV.int .i64 0, AV.nilsl]), (2, Ob.box [AV.int .i64 a2.x0, AV.int .i64 a2.y0, AV.int .i64 a2.x1, AV.int .i64 a2.y1, AV.osl 3 0 (List.length x13) (List.length x13)]), (3, Ob.arr 1 (List.map (AV.int .i64) x13) false)], 4⟩
noncomputable def spec_MaskOf_l0_X (a0 : List (List TPoint)) (a1 : Bool) (a2 : TBox) (x8 : Int) : ((List Int)) → Ex × St := fun y16 => ((.exit 2), ⟨[(0, AV.fsl (List.map (eSl ePoint) a0)), (1, AV.bool a1), (5, AV.optr 0 0 4), (6, AV.optr 1 0 5), (7, AV.optr 2 0 5), (8, AV.int .i64 x8)], [(0, Ob.box [AV.int .i64 a2.x0, AV.int .i64 a2.y0, AV.int .i64 a2.x1, AV.int .i64 a2.y1]), (1, Ob.box [AV.int .i64 0, AV.int .i64 0, AV.int .i64 0, AV.int .i64 0, AV.nilsl]), (2, Ob.box [AV.int .i64 a2.x0, AV.int .i64 a2.y0, AV.int .i64 a2.x1, AV.int .i64 a2.y1, AV.osl 3 0 (List.length y16) (List.length y16)]), (3, Ob.arr 1 (List.map (AV.int .i64) y16) false)], 4⟩)
noncomputable def spec_MaskOf_l1 (a0 : List (List TPoint)) (a1 : Bool) (a2 : TBox) : ((Int) × (List Int)) → Option (((Int) × (List Int)) ⊕ ((List Int))) := fun (x8, x9) =>
  cnd (ile a2.y1 x8) (
   some (.inr x9)) (
   bnd (loopI (spec_MaskOf_l0 a0 a1 a2 x8) (a2.x0, x9)) fun y16 =>
   some (.inl ((IntKind.i64.wrap (x8 + 1)), y16)))
noncomputable def spec_MaskOf_l1_S (a0 : List (List TPoint)) (a1 : Bool) (a2 : TBox) : ((Int) × (List Int)) → St := fun (x8, x9) => ⟨[(0, AV.fsl (List.map (eSl ePoint) a0)), (1, AV.bool a1), (5, AV.optr 0 0 4), (6, AV.optr 1 0 5), (7, AV.optr 2 0 5), (8, AV.int .i64 x8)], [(0, Ob.box [AV.int .i64 a2.x0, AV.int .i64 a2.y0, AV.int .i64 a2.x1, AV.int .i64 a2.y1]), (1, Ob.box [AV.int .i64 0, AV.int .i64 0, AV.int .i64 0, AV.int .i64 0, AV.nilsl]), (2, Ob.box [AV.int .i64 a2.x0, AV.int .i64 a2.y0, AV.int .i64 a2.x1, AV.int .i64 a2.y1, AV.osl 3 0 (List.length x9) (List.length x9)]), (3, Ob.arr 1 (List.map (AV.int .i64) x9) false)], 4⟩
noncomputable def spec_MaskOf_l1_X (a0 : List (List TPoint)) (a1 : Bool) (a2 : TBox) : ((List Int)) → Ex × St := fun y17 => ((.exit 0), ⟨[(6, AV.optr 0 0 5), (7, AV.optr 1 0 5)], [(0, Ob.box [AV.int .i64 0, AV.int .i64 0, AV.int .i64 0, AV.int .i64 0, AV.nilsl]), (1, Ob.box [AV.int .i64 a2.x0, AV.int .i64 a2.y0, AV.int .i64 a2.x1, AV.int .i64 a2.y1, AV.osl 2 0 (List.length y17) (List.length y17)]), (2, Ob.arr 1 (List.map (AV.int .i64) y17) false)], 3⟩)
noncomputable def spec_MaskOf (a0 : List (List TPoint)) (a1 : Bool) (a2 : TBox) : Option ((TBox) × (List Int)) :=
  bnd (spec_l11Box a2) fun v1 =>
  cnd v1 (
   bnd (loopI (spec_MaskOf_l1 a0 a1 a2) (a2.y0, [])) fun y17 =>
   some (a2, y17)) (
   some ((TBox.mk 0 0 0 0), []))
noncomputable def spec_MaskOf_e (q : (List (List TPoint)) × (Bool) × (TBox)) : List AV × List Ob := ([AV.fsl (List.map (eSl ePoint) q.1), AV.bool q.2.1, AV.agg [AV.int .i64 q.2.2.x0, AV.int .i64 q.2.2.y0, AV.int .i64 q.2.2.x1, AV.int .i64 q.2.2.y1]], [])
noncomputable def spec_MaskOf_v (q : (List (List TPoint)) × (Bool) × (TBox)) (r : (TBox) × (List Int)) : AV × List Ob := (AV.agg [AV.int .i64 r.1.x0, AV.int .i64 r.1.y0, AV.int .i64 r.1.x1, AV.int .i64 r.1.y1, AV.osl 0 0 (List.length r.2) (List.length r.2)], [Ob.arr 1 (List.map (AV.int .i64) r.2) false])
noncomputable def spec_MaskOf_x : List AV → List Ob → Option (AV × List Ob) := xOf spec_MaskOf_e (fun q => spec_MaskOf q.1 q.2.1 q.2.2) spec_MaskOf_v
theorem spec_MaskOf_i : ∀ a b, spec_MaskOf_e a = spec_MaskOf_e b → a = b := by rintro ⟨x0, x1, ⟨x2, x3, x4, x5⟩⟩ ⟨y0, y1, ⟨y2, y3, y4, y5⟩⟩ h; simp [spec_MaskOf_e] at h; simp [h]
@[simp] theorem spec_MaskOf_k (z0 : List (List TPoint)) (z1 : Bool) (z2 : Int) (z3 : Int) (z4 : Int) (z5 : Int) : spec_MaskOf_x [AV.fsl (List.map (eSl ePoint) z0), AV.bool z1, AV.agg [AV.int .i64 z2, AV.int .i64 z3, AV.int .i64 z4, AV.int .i64 z5]] [] = mapR (spec_MaskOf z0 z1 ⟨z2, z3, z4, z5⟩) (fun r => (AV.agg [AV.int .i64 r.1.x0, AV.int .i64 r.1.y0, AV.int .i64 r.1.x1, AV.int .i64 r.1.y1, AV.osl 0 0 (List.length r.2) (List.length r.2)], [Ob.arr 1 (List.map (AV.int .i64) r.2) false])) :=
  xOf_eq spec_MaskOf_i (z0, z1, ⟨z2, z3, z4, z5⟩)
/-! spec_l11Mask: function 114 -/
noncomputable def spec_l11Mask_l0 (w18 : TBox) : ((Int) × (List Int) × (Int) × (Int) × (List Int)) → Option (((Int) × (List Int) × (Int) × (Int) × (List Int)) ⊕ ((List Int) × (Int) × (Int) × (List Int))) := fun (x28, x29, x30, x31, x32) =>
  cnd (ile (List.length x32 : Int) x28) (
   some (.inr (x29, x30, x31, x32))) (
   bnd (spec_l01PickInt (TL01Cur.mk x29 x30 x31) [0, 0, 15, 15, 3, 8]) fun (w34, w35) =>
   bnd (idx x32 x28) fun v36 =>
   nam ((List.set x32 (Int.toNat x28) w34) : List Int) fun l37 =>
   some (.inl ((IntKind.i64.wrap (x28 + 1)), w35.b, w35.i, w35.h, l37)))
noncomputable def spec_l11Mask_l0_S (w18 : TBox) : ((Int) × (List Int) × (Int) × (Int) × (List Int)) → St := fun (x28, x29, x30, x31, x32) => ⟨[(0, AV.optr 0 0 3), (2, AV.optr 1 0 5), (4, AV.optr 2 0 5), (5, AV.int .i64 x28)], [(0, Ob.box [AV.fsl (List.map (AV.int .u8) x29), AV.int .i64 x30, AV.int .i64 x31]), (1, Ob.box [AV.int .i64 0, AV.int .i64 0, AV.int .i64 0, AV.int .i64 0, AV.nilsl]), (2, Ob.box [AV.int .i64 w18.x0, AV.int .i64 w18.y0, AV.int .i64 w18.x1, AV.int .i64 w18.y1, AV.osl 3 0 (List.length x32) (List.length x32)]), (3, Ob.arr 1 (List.map (AV.int .i64) x32) false)], 4⟩
noncomputable def spec_l11Mask_l0_X (w18 : TBox) : ((List Int) × (Int) × (Int) × (List Int)) → Ex × St := fun (y38, y39, y40, y41) => ((.exit 0), ⟨[(2, AV.optr 1 0 5), (4, AV.optr 2 0 5)], [(0, Ob.box [AV.fsl (List.map (AV.int .u8) y38), AV.int .i64 y39, AV.int .i64 y40]), (1, Ob.box [AV.int .i64 0, AV.int .i64 0, AV.int .i64 0, AV.int .i64 0, AV.nilsl]), (2, Ob.box [AV.int .i64 w18.x0, AV.int .i64 w18.y0, AV.int .i64 w18.x1, AV.int .i64 w18.y1, AV.osl 3 0 (List.length y41) (List.length y41)]), (3, Ob.arr 1 (List.map (AV.int .i64) y41) false)], 4⟩)
noncomputable def spec_l11Mask (a0 : TL01Cur) : Option ((TMask) × (TL01Cur)) :=
  bnd (spec_l01Below 8 a0) fun (w2, w3) =>
  bnd (spec_l01Below 8 w3) fun (w5, w6) =>
  bnd (spec_l01Below 6 w6) fun (w8, w9) =>
  bnd (spec_l01Below 6 w9) fun (w11, w12) =>
  bnd (spec_l06Path w12) fun (w14, w15) =>
  bnd (spec_FlatOf w14) fun v16 =>
  bnd (spec_MaskOf v16 false (TBox.mk (IntKind.i64.wrap (w2 - 2)) (IntKind.i64.wrap (w5 - 2)) (IntKind.i64.wrap ((IntKind.i64.wrap ((IntKind.i64.wrap (w2 - 2)) + 1)) + w8)) (IntKind.i64.wrap ((IntKind.i64.wrap ((IntKind.i64.wrap (w5 - 2)) + 1)) + w11)))) fun (w18, w19) =>
  bnd (spec_l01Once 3 w15) fun (w21, w22) =>
  cnd w21 (
   bnd (loopI (spec_l11Mask_l0 w18) (0, w22.b, w22.i, w22.h, w19)) fun (y38, y39, y40, y41) =>
   some ((TMask.mk w18 y41), (TL01Cur.mk y38 y39 y40))) (
   some ((TMask.mk w18 w19), w22))
noncomputable def spec_l11Mask_e (q : (TL01Cur)) : List AV × List Ob := ([AV.optr 0 0 3], [Ob.box [AV.fsl (List.map (AV.int .u8) q.b), AV.int .i64 q.i, AV.int .i64 q.h]])
noncomputable def spec_l11Mask_v (q : (TL01Cur)) (r : (TMask) × (TL01Cur)) : AV × List Ob := (AV.agg [AV.int .i64 r.1.box.x0, AV.int .i64 r.1.box.y0, AV.int .i64 r.1.box.x1, AV.int .i64 r.1.box.y1, AV.fsl (List.map (AV.int .i64) r.1.bits)], [Ob.box [AV.fsl (List.map (AV.int .u8) r.2.b), AV.int .i64 r.2.i, AV.int .i64 r.2.h]])
noncomputable def spec_l11Mask_x : List AV → List Ob → Option (AV × List Ob) := xOf spec_l11Mask_e (fun q => spec_l11Mask q) spec_l11Mask_v
theorem spec_l11Mask_i : ∀ a b, spec_l11Mask_e a = spec_l11Mask_e b → a = b := by rintro ⟨x0, x1, x2⟩ ⟨y0, y1, y2⟩ h; simp [spec_l11Mask_e] at h; simp [h]
@[simp] theorem spec_l11Mask_k (z0 : List Int) (z1 : Int) (z2 : Int) : spec_l11Mask_x [AV.optr 0 0 3] [Ob.box [AV.fsl (List.map (AV.int .u8) z0), AV.int .i64 z1, AV.int .i64 z2]] = mapR (spec_l11Mask ⟨z0, z1, z2⟩) (fun r => (AV.agg [AV.int .i64 r.1.box.x0, AV.int .i64 r.1.box.y0, AV.int .i64 r.1.box.x1, AV.int .i64 r.1.box.y1, AV.fsl (List.map (AV.int .i64) r.1.bits)], [Ob.box [AV.fsl (List.map (AV.int .u8) r.2.b), AV.int .i64 r.2.i, AV.int .i64 r.2.h]])) :=
  xOf_eq spec_l11Mask_i ⟨z0, z1, z2⟩
/-! spec_l12Color: function 185 -/
noncomputable def spec_l12Color (a0 : TL01Cur) : Option ((TColor) × (TL01Cur)) :=
  bnd (spec_l01Below 256 a0) fun (w2, w3) =>
  bnd (spec_l01Below 256 w3) fun (w5, w6) =>
  bnd (spec_l01Below 256 w6) fun (w8, w9) =>
  bnd (spec_l01PickInt w9 [255, 255, 128, 0, 1, 200]) fun (w11, w12) =>
  some ((TColor.mk w2 w5 w8 w11), w12)
noncomputable def spec_l12Color_e (q : (TL01Cur)) : List AV × List Ob := ([AV.optr 0 0 3], [Ob.box [AV.fsl (List.map (AV.int .u8) q.b), AV.int .i64 q.i, AV.int .i64 q.h]])
noncomputable def spec_l12Color_v (q : (TL01Cur)) (r : (TColor) × (TL01Cur)) : AV × List Ob := (AV.agg [AV.int .i64 r.1.r, AV.int .i64 r.1.g, AV.int .i64 r.1.b, AV.int .i64 r.1.a], [Ob.box [AV.fsl (List.map (AV.int .u8) r.2.b), AV.int .i64 r.2.i, AV.int .i64 r.2.h]])
noncomputable def spec_l12Color_x : List AV → List Ob → Option (AV × List Ob) := xOf spec_l12Color_e (fun q => spec_l12Color q) spec_l12Color_v
theorem spec_l12Color_i : ∀ a b, spec_l12Color_e a = spec_l12Color_e b → a = b := by rintro ⟨x0, x1, x2⟩ ⟨y0, y1, y2⟩ h; simp [spec_l12Color_e] at h; simp [h]
@[simp] theorem spec_l12Color_k (z0 : List Int) (z1 : Int) (z2 : Int) : spec_l12Color_x [AV.optr 0 0 3] [Ob.box [AV.fsl (List.map (AV.int .u8) z0), AV.int .i64 z1, AV.int .i64 z2]] = mapR (spec_l12Color ⟨z0, z1, z2⟩) (fun r => (AV.agg [AV.int .i64 r.1.r, AV.int .i64 r.1.g, AV.int .i64 r.1.b, AV.int .i64 r.1.a], [Ob.box [AV.fsl (List.map (AV.int .u8) r.2.b), AV.int .i64 r.2.i, AV.int .i64 r.2.h]])) :=
  xOf_eq spec_l12Color_i ⟨z0, z1, z2⟩
/-! spec_l12Paint: function 115 -/
noncomputable def spec_l12Paint (a0 : TL01Cur) : Option ((TPaint) × (TL01Cur)) :=
  bnd (spec_l12Color a0) fun (w2, w3) =>
  bnd (spec_l01Once 3 w3) fun (w5, w6) =>
  cnd w5 (
   bnd (spec_l12Color w6) fun (w8, w9) =>
   bnd (spec_l04Point w9) fun (w11, w12) =>
   bnd (spec_l04Point w12) fun (w14, w15) =>
   cnd (andB (decide (w11.x = w14.x)) (andB (decide (w11.y = w14.y)) true)) (
    some ((TPaint.mk 2 w2 w8 w11 (TPoint.mk (IntKind.i64.wrap (w14.x + 1)) w14.y)), w15)) (
    some ((TPaint.mk 2 w2 w8 w11 w14), w15))) (
   some ((TPaint.mk 1 w2 (TColor.mk 0 0 0 0) (TPoint.mk 0 0) (TPoint.mk 0 0)), w6))
noncomputable def spec_l12Paint_e (q : (TL01Cur)) : List AV × List Ob := ([AV.optr 0 0 3], [Ob.box [AV.fsl (List.map (AV.int .u8) q.b), AV.int .i64 q.i, AV.int .i64 q.h]])
noncomputable def spec_l12Paint_v (q : (TL01Cur)) (r : (TPaint) × (TL01Cur)) : AV × List Ob := (AV.agg [AV.int .i64 r.1.kind, AV.int .i64 r.1.first.r, AV.int .i64 r.1.first.g, AV.int .i64 r.1.first.b, AV.int .i64 r.1.first.a, AV.int .i64 r.1.last.r, AV.int .i64 r.1.last.g, AV.int .i64 r.1.last.b, AV.int .i64 r.1.last.a, AV.int .i64 r.1.from_.x, AV.int .i64 r.1.from_.y, AV.int .i64 r.1.to.x, AV.int .i64 r.1.to.y], [Ob.box [AV.fsl (List.map (AV.int .u8) r.2.b), AV.int .i64 r.2.i, AV.int .i64 r.2.h]])
noncomputable def spec_l12Paint_x : List AV → List Ob → Option (AV × List Ob) := xOf spec_l12Paint_e (fun q => spec_l12Paint q) spec_l12Paint_v
theorem spec_l12Paint_i : ∀ a b, spec_l12Paint_e a = spec_l12Paint_e b → a = b := by rintro ⟨x0, x1, x2⟩ ⟨y0, y1, y2⟩ h; simp [spec_l12Paint_e] at h; simp [h]
@[simp] theorem spec_l12Paint_k (z0 : List Int) (z1 : Int) (z2 : Int) : spec_l12Paint_x [AV.optr 0 0 3] [Ob.box [AV.fsl (List.map (AV.int .u8) z0), AV.int .i64 z1, AV.int .i64 z2]] = mapR (spec_l12Paint ⟨z0, z1, z2⟩) (fun r => (AV.agg [AV.int .i64 r.1.kind, AV.int .i64 r.1.first.r, AV.int .i64 r.1.first.g, AV.int .i64 r.1.first.b, AV.int .i64 r.1.first.a, AV.int .i64 r.1.last.r, AV.int .i64 r.1.last.g, AV.int .i64 r.1.last.b, AV.int .i64 r.1.last.a, AV.int .i64 r.1.from_.x, AV.int .i64 r.1.from_.y, AV.int .i64 r.1.to.x, AV.int .i64 r.1.to.y], [Ob.box [AV.fsl (List.map (AV.int .u8) r.2.b), AV.int .i64 r.2.i, AV.int .i64 r.2.h]])) :=
  xOf_eq spec_l12Paint_i ⟨z0, z1, z2⟩
/-! spec_l14Copy: function 113 -/
noncomputable def spec_l14Copy (a0 : TSurface) : Option ((Int) × (Int) × (List TColor)) :=
  chkP ((0 + List.length a0.pix) * 32 ≤ 17592186044416) (
  nam (([] ++ a0.pix) : List TColor) fun l1 =>
  some (a0.w, a0.h, l1))
noncomputable def spec_l14Copy_e (q : (TSurface)) : List AV × List Ob := ([AV.agg [AV.int .i64 q.w, AV.int .i64 q.h, AV.fsl (List.map eColor q.pix)]], [])
noncomputable def spec_l14Copy_v (q : (TSurface)) (r : (Int) × (Int) × (List TColor)) : AV × List Ob := (AV.agg [AV.int .i64 r.1, AV.int .i64 r.2.1, AV.osl 0 0 (List.length r.2.2) (List.length r.2.2)], [Ob.arr 4 (List.map eColor r.2.2) false])
noncomputable def spec_l14Copy_x : List AV → List Ob → Option (AV × List Ob) := xOf spec_l14Copy_e (fun q => spec_l14Copy q) spec_l14Copy_v
theorem spec_l14Copy_i : ∀ a b, spec_l14Copy_e a = spec_l14Copy_e b → a = b := by rintro ⟨x0, x1, x2⟩ ⟨y0, y1, y2⟩ h; simp [spec_l14Copy_e] at h; simp [h]
@[simp] theorem spec_l14Copy_k (z0 : Int) (z1 : Int) (z2 : List TColor) : spec_l14Copy_x [AV.agg [AV.int .i64 z0, AV.int .i64 z1, AV.fsl (List.map eColor z2)]] [] = mapR (spec_l14Copy ⟨z0, z1, z2⟩) (fun r => (AV.agg [AV.int .i64 r.1, AV.int .i64 r.2.1, AV.osl 0 0 (List.length r.2.2) (List.length r.2.2)], [Ob.arr 4 (List.map eColor r.2.2) false])) :=
  xOf_eq spec_l14Copy_i ⟨z0, z1, z2⟩
/-! spec_ColorOk: function 193 -/
noncomputable def spec_ColorOk (a0 : TColor) : Option ((Bool)) :=
  bnd (spec_l01In a0.r 0 255) fun v1 =>
  cnd v1 (
   bnd (spec_l01In a0.g 0 255) fun v2 =>
   cnd v2 (
    bnd (spec_l01In a0.b 0 255) fun v3 =>
    cnd v3 (
     bnd (spec_l01In a0.a 0 255) fun v4 =>
     some v4) (
     some false)) (
    some false)) (
   some false)
noncomputable def spec_ColorOk_e (q : (TColor)) : List AV × List Ob := ([AV.agg [AV.int .i64 q.r, AV.int .i64 q.g, AV.int .i64 q.b, AV.int .i64 q.a]], [])
noncomputable def spec_ColorOk_v (q : (TColor)) (r : (Bool)) : AV × List Ob := (AV.bool r, [])
noncomputable def spec_ColorOk_x : List AV → List Ob → Option (AV × List Ob) := xOf spec_ColorOk_e (fun q => spec_ColorOk q) spec_ColorOk_v
theorem spec_ColorOk_i : ∀ a b, spec_ColorOk_e a = spec_ColorOk_e b → a = b := by rintro ⟨x0, x1, x2, x3⟩ ⟨y0, y1, y2, y3⟩ h; simp [spec_ColorOk_e] at h; simp [h]
@[simp] theorem spec_ColorOk_k (z0 : Int) (z1 : Int) (z2 : Int) (z3 : Int) : spec_ColorOk_x [AV.agg [AV.int .i64 z0, AV.int .i64 z1, AV.int .i64 z2, AV.int .i64 z3]] [] = mapR (spec_ColorOk ⟨z0, z1, z2, z3⟩) (fun r => (AV.bool r, [])) :=
  xOf_eq spec_ColorOk_i ⟨z0, z1, z2, z3⟩
/-! spec_LaidOk: function 121 -/
noncomputable def spec_LaidOk (a0 : TColor) : Option ((Bool)) :=
  bnd (spec_ColorOk a0) fun v1 =>
  cnd v1 (
   cnd (ile a0.r a0.a) (
    cnd (ile a0.g a0.a) (
     some (ile a0.b a0.a)) (
     some false)) (
    some false)) (
   some false)
noncomputable def spec_LaidOk_e (q : (TColor)) : List AV × List Ob := ([AV.agg [AV.int .i64 q.r, AV.int .i64 q.g, AV.int .i64 q.b, AV.int .i64 q.a]], [])
noncomputable def spec_LaidOk_v (q : (TColor)) (r : (Bool)) : AV × List Ob := (AV.bool r, [])
noncomputable def spec_LaidOk_x : List AV → List Ob → Option (AV × List Ob) := xOf spec_LaidOk_e (fun q => spec_LaidOk q) spec_LaidOk_v
theorem spec_LaidOk_i : ∀ a b, spec_LaidOk_e a = spec_LaidOk_e b → a = b := by rintro ⟨x0, x1, x2, x3⟩ ⟨y0, y1, y2, y3⟩ h; simp [spec_LaidOk_e] at h; simp [h]
@[simp] theorem spec_LaidOk_k (z0 : Int) (z1 : Int) (z2 : Int) (z3 : Int) : spec_LaidOk_x [AV.agg [AV.int .i64 z0, AV.int .i64 z1, AV.int .i64 z2, AV.int .i64 z3]] [] = mapR (spec_LaidOk ⟨z0, z1, z2, z3⟩) (fun r => (AV.bool r, [])) :=
  xOf_eq spec_LaidOk_i ⟨z0, z1, z2, z3⟩
/-! spec_SurfaceOk: function 82 -/
noncomputable def spec_SurfaceOk_l0 (a0 : TSurface) : ((Int)) → Option (((Int)) ⊕ ((Unit) ⊕ (Unit))) := fun x5 =>
  cnd (ile (List.length a0.pix : Int) x5) (
   some (.inr (.inl ()))) (
   bnd (idx a0.pix x5) fun v6 =>
   bnd (spec_LaidOk v6) fun v7 =>
   cnd v7 (
    some (.inl (IntKind.i64.wrap (x5 + 1)))) (
    some (.inr (.inr ()))))
noncomputable def spec_SurfaceOk_l0_S (a0 : TSurface) : ((Int)) → St := fun x5 => ⟨[(1, AV.optr 0 0 3), (3, AV.int .i64 x5)], [(0, Ob.box [AV.int .i64 a0.w, AV.int .i64 a0.h, AV.fsl (List.map eColor a0.pix)])], 1⟩
noncomputable def spec_SurfaceOk_l0_X (a0 : TSurface) : ((Unit) ⊕ (Unit)) → Ex × St := fun q => match q with
  | .inl _ => ((.exit 0), ⟨[], [], 0⟩)
  | .inr _ => (.ret, ⟨[(2, AV.bool false)], [], 0⟩)
noncomputable def spec_SurfaceOk (a0 : TSurface) : Option ((Bool)) :=
  bnd (spec_l01In a0.w 1 12) fun v1 =>
  cnd v1 (
   bnd (spec_l01In a0.h 1 12) fun v2 =>
   cnd v2 (
    cnd (ieq (List.length a0.pix : Int) (IntKind.i64.wrap (a0.w * a0.h))) (
     bnd (loopI (spec_SurfaceOk_l0 a0) 0) fun q => match q with
     | .inl () =>
      some true
     | .inr () =>
      some false) (
     some false)) (
    some false)) (
   some false)
noncomputable def spec_SurfaceOk_e (q : (TSurface)) : List AV × List Ob := ([AV.agg [AV.int .i64 q.w, AV.int .i64 q.h, AV.fsl (List.map eColor q.pix)]], [])
noncomputable def spec_SurfaceOk_v (q : (TSurface)) (r : (Bool)) : AV × List Ob := (AV.bool r, [])
noncomputable def spec_SurfaceOk_x : List AV → List Ob → Option (AV × List Ob) := xOf spec_SurfaceOk_e (fun q => spec_SurfaceOk q) spec_SurfaceOk_v
theorem spec_SurfaceOk_i : ∀ a b, spec_SurfaceOk_e a = spec_SurfaceOk_e b → a = b := by rintro ⟨x0, x1, x2⟩ ⟨y0, y1, y2⟩ h; simp [spec_SurfaceOk_e] at h; simp [h]
@[simp] theorem spec_SurfaceOk_k (z0 : Int) (z1 : Int) (z2 : List TColor) : spec_SurfaceOk_x [AV.agg [AV.int .i64 z0, AV.int .i64 z1, AV.fsl (List.map eColor z2)]] [] = mapR (spec_SurfaceOk ⟨z0, z1, z2⟩) (fun r => (AV.bool r, [])) :=
  xOf_eq spec_SurfaceOk_i ⟨z0, z1, z2⟩
/-! spec_MaskOk: function 74 -/
noncomputable def spec_MaskOk_l0 (a0 : TMask) : ((Int)) → Option (((Int)) ⊕ ((Unit) ⊕ (Unit))) := fun x4 =>
  cnd (ile (List.length a0.bits : Int) x4) (
   some (.inr (.inl ()))) (
   bnd (idx a0.bits x4) fun v5 =>
   bnd (spec_l01In v5 0 15) fun v6 =>
   cnd v6 (
    some (.inl (IntKind.i64.wrap (x4 + 1)))) (
    some (.inr (.inr ()))))
noncomputable def spec_MaskOk_l0_S (a0 : TMask) : ((Int)) → St := fun x4 => ⟨[(1, AV.optr 0 0 5), (3, AV.int .i64 x4)], [(0, Ob.box [AV.int .i64 a0.box.x0, AV.int .i64 a0.box.y0, AV.int .i64 a0.box.x1, AV.int .i64 a0.box.y1, AV.fsl (List.map (AV.int .i64) a0.bits)])], 1⟩
noncomputable def spec_MaskOk_l0_X (a0 : TMask) : ((Unit) ⊕ (Unit)) → Ex × St := fun q => match q with
  | .inl _ => ((.exit 0), ⟨[], [], 0⟩)
  | .inr _ => (.ret, ⟨[(2, AV.bool false)], [], 0⟩)
noncomputable def spec_MaskOk (a0 : TMask) : Option ((Bool)) :=
  cnd (ieq (List.length a0.bits : Int) 0) (
   some (andB (decide (a0.box.x0 = 0)) (andB (decide (a0.box.y0 = 0)) (andB (decide (a0.box.x1 = 0)) (andB (decide (a0.box.y1 = 0)) true))))) (
   bnd (spec_l11Box a0.box) fun v1 =>
   cnd v1 (
    cnd (ieq (List.length a0.bits : Int) (IntKind.i64.wrap ((IntKind.i64.wrap (a0.box.x1 - a0.box.x0)) * (IntKind.i64.wrap (a0.box.y1 - a0.box.y0))))) (
     bnd (loopI (spec_MaskOk_l0 a0) 0) fun q => match q with
     | .inl () =>
      some true
     | .inr () =>
      some false) (
     some false)) (
    some false))
noncomputable def spec_MaskOk_e (q : (TMask)) : List AV × List Ob := ([AV.agg [AV.int .i64 q.box.x0, AV.int .i64 q.box.y0, AV.int .i64 q.box.x1, AV.int .i64 q.box.y1, AV.fsl (List.map (AV.int .i64) q.bits)]], [])
noncomputable def spec_MaskOk_v (q : (TMask)) (r : (Bool)) : AV × List Ob := (AV.bool r, [])
noncomputable def spec_MaskOk_x : List AV → List Ob → Option (AV × List Ob) := xOf spec_MaskOk_e (fun q => spec_MaskOk q) spec_MaskOk_v
theorem spec_MaskOk_i : ∀ a b, spec_MaskOk_e a = spec_MaskOk_e b → a = b := by rintro ⟨⟨x0, x1, x2, x3⟩, x4⟩ ⟨⟨y0, y1, y2, y3⟩, y4⟩ h; simp [spec_MaskOk_e] at h; simp [h]
@[simp] theorem spec_MaskOk_k (z0 : Int) (z1 : Int) (z2 : Int) (z3 : Int) (z4 : List Int) : spec_MaskOk_x [AV.agg [AV.int .i64 z0, AV.int .i64 z1, AV.int .i64 z2, AV.int .i64 z3, AV.fsl (List.map (AV.int .i64) z4)]] [] = mapR (spec_MaskOk ⟨⟨z0, z1, z2, z3⟩, z4⟩) (fun r => (AV.bool r, [])) :=
  xOf_eq spec_MaskOk_i ⟨⟨z0, z1, z2, z3⟩, z4⟩
/-! spec_PaintOk: function 125 -/
noncomputable def spec_PaintOk (a0 : TPaint) : Option ((Bool)) :=
  bnd (spec_ColorOk a0.first) fun v1 =>
  cnd v1 (
   cnd (ieq a0.kind 1) (
    cnd (andB (decide (a0.last.r = 0)) (andB (decide (a0.last.g = 0)) (andB (decide (a0.last.b = 0)) (andB (decide (a0.last.a = 0)) true)))) (
     cnd (andB (decide (a0.from_.x = 0)) (andB (decide (a0.from_.y = 0)) true)) (
      some (andB (decide (a0.to.x = 0)) (andB (decide (a0.to.y = 0)) true))) (
      some false)) (
     some false)) (
    cnd (ieq a0.kind 2) (
     bnd (spec_ColorOk a0.last) fun v2 =>
     cnd v2 (
      bnd (spec_PointOk a0.from_) fun v3 =>
      cnd v3 (
       bnd (spec_PointOk a0.to) fun v4 =>
       cnd v4 (
        some (!(andB (decide (a0.from_.x = a0.to.x)) (andB (decide (a0.from_.y = a0.to.y)) true)))) (
        some false)) (
       some false)) (
      some false)) (
     some false))) (
   some false)
noncomputable def spec_PaintOk_e (q : (TPaint)) : List AV × List Ob := ([AV.agg [AV.int .i64 q.kind, AV.int .i64 q.first.r, AV.int .i64 q.first.g, AV.int .i64 q.first.b, AV.int .i64 q.first.a, AV.int .i64 q.last.r, AV.int .i64 q.last.g, AV.int .i64 q.last.b, AV.int .i64 q.last.a, AV.int .i64 q.from_.x, AV.int .i64 q.from_.y, AV.int .i64 q.to.x, AV.int .i64 q.to.y]], [])
noncomputable def spec_PaintOk_v (q : (TPaint)) (r : (Bool)) : AV × List Ob := (AV.bool r, [])
noncomputable def spec_PaintOk_x : List AV → List Ob → Option (AV × List Ob) := xOf spec_PaintOk_e (fun q => spec_PaintOk q) spec_PaintOk_v
theorem spec_PaintOk_i : ∀ a b, spec_PaintOk_e a = spec_PaintOk_e b → a = b := by rintro ⟨x0, ⟨x1, x2, x3, x4⟩, ⟨x5, x6, x7, x8⟩, ⟨x9, x10⟩, ⟨x11, x12⟩⟩ ⟨y0, ⟨y1, y2, y3, y4⟩, ⟨y5, y6, y7, y8⟩, ⟨y9, y10⟩, ⟨y11, y12⟩⟩ h; simp [spec_PaintOk_e] at h; simp [h]
@[simp] theorem spec_PaintOk_k (z0 : Int) (z1 : Int) (z2 : Int) (z3 : Int) (z4 : Int) (z5 : Int) (z6 : Int) (z7 : Int) (z8 : Int) (z9 : Int) (z10 : Int) (z11 : Int) (z12 : Int) : spec_PaintOk_x [AV.agg [AV.int .i64 z0, AV.int .i64 z1, AV.int .i64 z2, AV.int .i64 z3, AV.int .i64 z4, AV.int .i64 z5, AV.int .i64 z6, AV.int .i64 z7, AV.int .i64 z8, AV.int .i64 z9, AV.int .i64 z10, AV.int .i64 z11, AV.int .i64 z12]] [] = mapR (spec_PaintOk ⟨z0, ⟨z1, z2, z3, z4⟩, ⟨z5, z6, z7, z8⟩, ⟨z9, z10⟩, ⟨z11, z12⟩⟩) (fun r => (AV.bool r, [])) :=
  xOf_eq spec_PaintOk_i ⟨z0, ⟨z1, z2, z3, z4⟩, ⟨z5, z6, z7, z8⟩, ⟨z9, z10⟩, ⟨z11, z12⟩⟩
/-! spec_InBox: function 192 -/
noncomputable def spec_InBox (a0 : TBox) (a1 : TPoint) : Option ((Bool)) :=
  cnd (ile a0.x0 a1.x) (
   cnd (ile a0.x1 a1.x) (
    some false) (
    cnd (ile a0.y0 a1.y) (
     some (!(ile a0.y1 a1.y))) (
     some false))) (
   some false)
noncomputable def spec_InBox_e (q : (TBox) × (TPoint)) : List AV × List Ob := ([AV.agg [AV.int .i64 q.1.x0, AV.int .i64 q.1.y0, AV.int .i64 q.1.x1, AV.int .i64 q.1.y1], AV.agg [AV.int .i64 q.2.x, AV.int .i64 q.2.y]], [])
noncomputable def spec_InBox_v (q : (TBox) × (TPoint)) (r : (Bool)) : AV × List Ob := (AV.bool r, [])
noncomputable def spec_InBox_x : List AV → List Ob → Option (AV × List Ob) := xOf spec_InBox_e (fun q => spec_InBox q.1 q.2) spec_InBox_v
theorem spec_InBox_i : ∀ a b, spec_InBox_e a = spec_InBox_e b → a = b := by rintro ⟨⟨x0, x1, x2, x3⟩, ⟨x4, x5⟩⟩ ⟨⟨y0, y1, y2, y3⟩, ⟨y4, y5⟩⟩ h; simp [spec_InBox_e] at h; simp [h]
@[simp] theorem spec_InBox_k (z0 : Int) (z1 : Int) (z2 : Int) (z3 : Int) (z4 : Int) (z5 : Int) : spec_InBox_x [AV.agg [AV.int .i64 z0, AV.int .i64 z1, AV.int .i64 z2, AV.int .i64 z3], AV.agg [AV.int .i64 z4, AV.int .i64 z5]] [] = mapR (spec_InBox ⟨z0, z1, z2, z3⟩ ⟨z4, z5⟩) (fun r => (AV.bool r, [])) :=
  xOf_eq spec_InBox_i (⟨z0, z1, z2, z3⟩, ⟨z4, z5⟩)
/-! spec_l11Bits: function 120 -/
noncomputable def spec_l11Bits (a0 : TMask) (a1 : Int) (a2 : Int) : Option ((Int)) :=
  bnd (spec_InBox a0.box (TPoint.mk a1 a2)) fun v1 =>
  cnd v1 (
   bnd (idx a0.bits (IntKind.i64.wrap ((IntKind.i64.wrap ((IntKind.i64.wrap ((IntKind.i64.wrap (a2 - a0.box.y0)) * (IntKind.i64.wrap (a0.box.x1 - a0.box.x0)))) + a1)) - a0.box.x0))) fun v2 =>
   some v2) (
   some 0)
noncomputable def spec_l11Bits_e (q : (TMask) × (Int) × (Int)) : List AV × List Ob := ([AV.agg [AV.int .i64 q.1.box.x0, AV.int .i64 q.1.box.y0, AV.int .i64 q.1.box.x1, AV.int .i64 q.1.box.y1, AV.fsl (List.map (AV.int .i64) q.1.bits)], AV.int .i64 q.2.1, AV.int .i64 q.2.2], [])
noncomputable def spec_l11Bits_v (q : (TMask) × (Int) × (Int)) (r : (Int)) : AV × List Ob := (AV.int .i64 r, [])
noncomputable def spec_l11Bits_x : List AV → List Ob → Option (AV × List Ob) := xOf spec_l11Bits_e (fun q => spec_l11Bits q.1 q.2.1 q.2.2) spec_l11Bits_v
theorem spec_l11Bits_i : ∀ a b, spec_l11Bits_e a = spec_l11Bits_e b → a = b := by rintro ⟨⟨⟨x0, x1, x2, x3⟩, x4⟩, x5, x6⟩ ⟨⟨⟨y0, y1, y2, y3⟩, y4⟩, y5, y6⟩ h; simp [spec_l11Bits_e] at h; simp [h]
@[simp] theorem spec_l11Bits_k (z0 : Int) (z1 : Int) (z2 : Int) (z3 : Int) (z4 : List Int) (z5 : Int) (z6 : Int) : spec_l11Bits_x [AV.agg [AV.int .i64 z0, AV.int .i64 z1, AV.int .i64 z2, AV.int .i64 z3, AV.fsl (List.map (AV.int .i64) z4)], AV.int .i64 z5, AV.int .i64 z6] [] = mapR (spec_l11Bits ⟨⟨z0, z1, z2, z3⟩, z4⟩ z5 z6) (fun r => (AV.int .i64 r, [])) :=
  xOf_eq spec_l11Bits_i (⟨⟨z0, z1, z2, z3⟩, z4⟩, z5, z6)
/-! spec_Times255: function 123 -/
noncomputable def spec_Times255 (a0 : Int) (a1 : Int) : Option ((Int)) :=
  bnd (spec_Clamp a0 0 255) fun v1 =>
  bnd (spec_Clamp a1 0 255) fun v2 =>
  bnd (spec_RoundDiv (IntKind.i64.wrap (v1 * v2)) 255) fun v3 =>
  some v3
noncomputable def spec_Times255_e (q : (Int) × (Int)) : List AV × List Ob := ([AV.int .i64 q.1, AV.int .i64 q.2], [])
noncomputable def spec_Times255_v (q : (Int) × (Int)) (r : (Int)) : AV × List Ob := (AV.int .i64 r, [])
noncomputable def spec_Times255_x : List AV → List Ob → Option (AV × List Ob) := xOf spec_Times255_e (fun q => spec_Times255 q.1 q.2) spec_Times255_v
theorem spec_Times255_i : ∀ a b, spec_Times255_e a = spec_Times255_e b → a = b := by rintro ⟨x0, x1⟩ ⟨y0, y1⟩ h; simp [spec_Times255_e] at h; simp [h]
@[simp] theorem spec_Times255_k (z0 : Int) (z1 : Int) : spec_Times255_x [AV.int .i64 z0, AV.int .i64 z1] [] = mapR (spec_Times255 z0 z1) (fun r => (AV.int .i64 r, [])) :=
  xOf_eq spec_Times255_i (z0, z1)
/-! spec_Laid: function 126 -/
noncomputable def spec_Laid (a0 : TColor) : Option ((TColor)) :=
  bnd (spec_ColorOk a0) fun v1 =>
  cnd v1 (
   bnd (spec_Times255 a0.r a0.a) fun v2 =>
   bnd (spec_Times255 a0.g a0.a) fun v3 =>
   bnd (spec_Times255 a0.b a0.a) fun v4 =>
   some (TColor.mk v2 v3 v4 a0.a)) (
   some (TColor.mk 0 0 0 0))
noncomputable def spec_Laid_e (q : (TColor)) : List AV × List Ob := ([AV.agg [AV.int .i64 q.r, AV.int .i64 q.g, AV.int .i64 q.b, AV.int .i64 q.a]], [])
noncomputable def spec_Laid_v (q : (TColor)) (r : (TColor)) : AV × List Ob := (AV.agg [AV.int .i64 r.r, AV.int .i64 r.g, AV.int .i64 r.b, AV.int .i64 r.a], [])
noncomputable def spec_Laid_x : List AV → List Ob → Option (AV × List Ob) := xOf spec_Laid_e (fun q => spec_Laid q) spec_Laid_v
theorem spec_Laid_i : ∀ a b, spec_Laid_e a = spec_Laid_e b → a = b := by rintro ⟨x0, x1, x2, x3⟩ ⟨y0, y1, y2, y3⟩ h; simp [spec_Laid_e] at h; simp [h]
@[simp] theorem spec_Laid_k (z0 : Int) (z1 : Int) (z2 : Int) (z3 : Int) : spec_Laid_x [AV.agg [AV.int .i64 z0, AV.int .i64 z1, AV.int .i64 z2, AV.int .i64 z3]] [] = mapR (spec_Laid ⟨z0, z1, z2, z3⟩) (fun r => (AV.agg [AV.int .i64 r.r, AV.int .i64 r.g, AV.int .i64 r.b, AV.int .i64 r.a], [])) :=
  xOf_eq spec_Laid_i ⟨z0, z1, z2, z3⟩
/-! spec_PartOf: function 127 -/
noncomputable def spec_PartOf (a0 : TPaint) (a1 : Int) (a2 : Int) : Option ((Int)) :=
  cnd (ieq a0.kind 2) (
   bnd (spec_PaintOk a0) fun v1 =>
   cnd v1 (
    bnd (spec_Clamp a1 (-2000) 2000) fun v2 =>
    bnd (spec_Clamp a2 (-2000) 2000) fun v3 =>
    bnd (spec_FloorDiv (IntKind.i64.wrap (256 * (IntKind.i64.wrap ((IntKind.i64.wrap ((IntKind.i64.wrap ((IntKind.i64.wrap ((IntKind.i64.wrap (256 * v2)) + 128)) - a0.from_.x)) * (IntKind.i64.wrap (a0.to.x - a0.from_.x)))) + (IntKind.i64.wrap ((IntKind.i64.wrap ((IntKind.i64.wrap ((IntKind.i64.wrap (256 * v3)) + 128)) - a0.from_.y)) * (IntKind.i64.wrap (a0.to.y - a0.from_.y)))))))) (IntKind.i64.wrap ((IntKind.i64.wrap ((IntKind.i64.wrap (a0.to.x - a0.from_.x)) * (IntKind.i64.wrap (a0.to.x - a0.from_.x)))) + (IntKind.i64.wrap ((IntKind.i64.wrap (a0.to.y - a0.from_.y)) * (IntKind.i64.wrap (a0.to.y - a0.from_.y))))))) fun v4 =>
    bnd (spec_Clamp v4 0 256) fun v5 =>
    some v5) (
    some 0)) (
   some 0)
noncomputable def spec_PartOf_e (q : (TPaint) × (Int) × (Int)) : List AV × List Ob := ([AV.agg [AV.int .i64 q.1.kind, AV.int .i64 q.1.first.r, AV.int .i64 q.1.first.g, AV.int .i64 q.1.first.b, AV.int .i64 q.1.first.a, AV.int .i64 q.1.last.r, AV.int .i64 q.1.last.g, AV.int .i64 q.1.last.b, AV.int .i64 q.1.last.a, AV.int .i64 q.1.from_.x, AV.int .i64 q.1.from_.y, AV.int .i64 q.1.to.x, AV.int .i64 q.1.to.y], AV.int .i64 q.2.1, AV.int .i64 q.2.2], [])
noncomputable def spec_PartOf_v (q : (TPaint) × (Int) × (Int)) (r : (Int)) : AV × List Ob := (AV.int .i64 r, [])
noncomputable def spec_PartOf_x : List AV → List Ob → Option (AV × List Ob) := xOf spec_PartOf_e (fun q => spec_PartOf q.1 q.2.1 q.2.2) spec_PartOf_v
theorem spec_PartOf_i : ∀ a b, spec_PartOf_e a = spec_PartOf_e b → a = b := by rintro ⟨⟨x0, ⟨x1, x2, x3, x4⟩, ⟨x5, x6, x7, x8⟩, ⟨x9, x10⟩, ⟨x11, x12⟩⟩, x13, x14⟩ ⟨⟨y0, ⟨y1, y2, y3, y4⟩, ⟨y5, y6, y7, y8⟩, ⟨y9, y10⟩, ⟨y11, y12⟩⟩, y13, y14⟩ h; simp [spec_PartOf_e] at h; simp [h]
@[simp] theorem spec_PartOf_k (z0 : Int) (z1 : Int) (z2 : Int) (z3 : Int) (z4 : Int) (z5 : Int) (z6 : Int) (z7 : Int) (z8 : Int) (z9 : Int) (z10 : Int) (z11 : Int) (z12 : Int) (z13 : Int) (z14 : Int) : spec_PartOf_x [AV.agg [AV.int .i64 z0, AV.int .i64 z1, AV.int .i64 z2, AV.int .i64 z3, AV.int .i64 z4, AV.int .i64 z5, AV.int .i64 z6, AV.int .i64 z7, AV.int .i64 z8, AV.int .i64 z9, AV.int .i64 z10, AV.int .i64 z11, AV.int .i64 z12], AV.int .i64 z13, AV.int .i64 z14] [] = mapR (spec_PartOf ⟨z0, ⟨z1, z2, z3, z4⟩, ⟨z5, z6, z7, z8⟩, ⟨z9, z10⟩, ⟨z11, z12⟩⟩ z13 z14) (fun r => (AV.int .i64 r, [])) :=
  xOf_eq spec_PartOf_i (⟨z0, ⟨z1, z2, z3, z4⟩, ⟨z5, z6, z7, z8⟩, ⟨z9, z10⟩, ⟨z11, z12⟩⟩, z13, z14)
/-! spec_l12Mix: function 128 -/
noncomputable def spec_l12Mix (a0 : Int) (a1 : Int) (a2 : Int) : Option ((Int)) :=
  bnd (spec_RoundDiv (IntKind.i64.wrap ((IntKind.i64.wrap ((IntKind.i64.wrap (256 - a2)) * a0)) + (IntKind.i64.wrap (a2 * a1)))) 256) fun v1 =>
  some v1
noncomputable def spec_l12Mix_e (q : (Int) × (Int) × (Int)) : List AV × List Ob := ([AV.int .i64 q.1, AV.int .i64 q.2.1, AV.int .i64 q.2.2], [])
noncomputable def spec_l12Mix_v (q : (Int) × (Int) × (Int)) (r : (Int)) : AV × List Ob := (AV.int .i64 r, [])
noncomputable def spec_l12Mix_x : List AV → List Ob → Option (AV × List Ob) := xOf spec_l12Mix_e (fun q => spec_l12Mix q.1 q.2.1 q.2.2) spec_l12Mix_v
theorem spec_l12Mix_i : ∀ a b, spec_l12Mix_e a = spec_l12Mix_e b → a = b := by rintro ⟨x0, x1, x2⟩ ⟨y0, y1, y2⟩ h; simp [spec_l12Mix_e] at h; simp [h]
@[simp] theorem spec_l12Mix_k (z0 : Int) (z1 : Int) (z2 : Int) : spec_l12Mix_x [AV.int .i64 z0, AV.int .i64 z1, AV.int .i64 z2] [] = mapR (spec_l12Mix z0 z1 z2) (fun r => (AV.int .i64 r, [])) :=
  xOf_eq spec_l12Mix_i (z0, z1, z2)
/-! spec_ColorAt: function 45 -/
noncomputable def spec_ColorAt (a0 : TPaint) (a1 : Int) (a2 : Int) : Option ((TColor)) :=
  bnd (spec_PaintOk a0) fun v1 =>
  cnd v1 (
   cnd (ieq a0.kind 1) (
    bnd (spec_Laid a0.first) fun v2 =>
    some v2) (
    bnd (spec_PartOf a0 a1 a2) fun v3 =>
    bnd (spec_l12Mix a0.first.r a0.last.r v3) fun v4 =>
    bnd (spec_l12Mix a0.first.g a0.last.g v3) fun v5 =>
    bnd (spec_l12Mix a0.first.b a0.last.b v3) fun v6 =>
    bnd (spec_l12Mix a0.first.a a0.last.a v3) fun v7 =>
    bnd (spec_Laid (TColor.mk v4 v5 v6 v7)) fun v8 =>
    some v8)) (
   some (TColor.mk 0 0 0 0))
noncomputable def spec_ColorAt_e (q : (TPaint) × (Int) × (Int)) : List AV × List Ob := ([AV.agg [AV.int .i64 q.1.kind, AV.int .i64 q.1.first.r, AV.int .i64 q.1.first.g, AV.int .i64 q.1.first.b, AV.int .i64 q.1.first.a, AV.int .i64 q.1.last.r, AV.int .i64 q.1.last.g, AV.int .i64 q.1.last.b, AV.int .i64 q.1.last.a, AV.int .i64 q.1.from_.x, AV.int .i64 q.1.from_.y, AV.int .i64 q.1.to.x, AV.int .i64 q.1.to.y], AV.int .i64 q.2.1, AV.int .i64 q.2.2], [])
noncomputable def spec_ColorAt_v (q : (TPaint) × (Int) × (Int)) (r : (TColor)) : AV × List Ob := (AV.agg [AV.int .i64 r.r, AV.int .i64 r.g, AV.int .i64 r.b, AV.int .i64 r.a], [])
noncomputable def spec_ColorAt_x : List AV → List Ob → Option (AV × List Ob) := xOf spec_ColorAt_e (fun q => spec_ColorAt q.1 q.2.1 q.2.2) spec_ColorAt_v
theorem spec_ColorAt_i : ∀ a b, spec_ColorAt_e a = spec_ColorAt_e b → a = b := by rintro ⟨⟨x0, ⟨x1, x2, x3, x4⟩, ⟨x5, x6, x7, x8⟩, ⟨x9, x10⟩, ⟨x11, x12⟩⟩, x13, x14⟩ ⟨⟨y0, ⟨y1, y2, y3, y4⟩, ⟨y5, y6, y7, y8⟩, ⟨y9, y10⟩, ⟨y11, y12⟩⟩, y13, y14⟩ h; simp [spec_ColorAt_e] at h; simp [h]
@[simp] theorem spec_ColorAt_k (z0 : Int) (z1 : Int) (z2 : Int) (z3 : Int) (z4 : Int) (z5 : Int) (z6 : Int) (z7 : Int) (z8 : Int) (z9 : Int) (z10 : Int) (z11 : Int) (z12 : Int) (z13 : Int) (z14 : Int) : spec_ColorAt_x [AV.agg [AV.int .i64 z0, AV.int .i64 z1, AV.int .i64 z2, AV.int .i64 z3, AV.int .i64 z4, AV.int .i64 z5, AV.int .i64 z6, AV.int .i64 z7, AV.int .i64 z8, AV.int .i64 z9, AV.int .i64 z10, AV.int .i64 z11, AV.int .i64 z12], AV.int .i64 z13, AV.int .i64 z14] [] = mapR (spec_ColorAt ⟨z0, ⟨z1, z2, z3, z4⟩, ⟨z5, z6, z7, z8⟩, ⟨z9, z10⟩, ⟨z11, z12⟩⟩ z13 z14) (fun r => (AV.agg [AV.int .i64 r.r, AV.int .i64 r.g, AV.int .i64 r.b, AV.int .i64 r.a], [])) :=
  xOf_eq spec_ColorAt_i (⟨z0, ⟨z1, z2, z3, z4⟩, ⟨z5, z6, z7, z8⟩, ⟨z9, z10⟩, ⟨z11, z12⟩⟩, z13, z14)
/-! spec_CountOf: function 46 -/
noncomputable def spec_CountOf (a0 : Int) : Option ((Int)) :=
  bnd (spec_l01In a0 0 15) fun v1 =>
  cnd v1 (
   some (IntKind.i64.wrap ((IntKind.i64.wrap ((IntKind.i64.wrap ((Int.tmod a0 2) + (Int.tmod (IntKind.i64.wrap (Int.tdiv a0 2)) 2))) + (Int.tmod (IntKind.i64.wrap (Int.tdiv a0 4)) 2))) + (IntKind.i64.wrap (Int.tdiv a0 8))))) (
   some 0)
noncomputable def spec_CountOf_e (q : (Int)) : List AV × List Ob := ([AV.int .i64 q], [])
noncomputable def spec_CountOf_v (q : (Int)) (r : (Int)) : AV × List Ob := (AV.int .i64 r, [])
noncomputable def spec_CountOf_x : List AV → List Ob → Option (AV × List Ob) := xOf spec_CountOf_e (fun q => spec_CountOf q) spec_CountOf_v
theorem spec_CountOf_i : ∀ a b, spec_CountOf_e a = spec_CountOf_e b → a = b := by rintro x0 y0 h; simp [spec_CountOf_e] at h; simp [h]
@[simp] theorem spec_CountOf_k (z0 : Int) : spec_CountOf_x [AV.int .i64 z0] [] = mapR (spec_CountOf z0) (fun r => (AV.int .i64 r, [])) :=
  xOf_eq spec_CountOf_i z0
/-! spec_Thin: function 44 -/
noncomputable def spec_Thin (a0 : TColor) (a1 : Int) : Option ((TColor)) :=
  bnd (spec_LaidOk a0) fun v1 =>
  cnd v1 (
   bnd (spec_l01In a1 0 4) fun v2 =>
   cnd v2 (
    bnd (spec_RoundDiv (IntKind.i64.wrap (a0.r * a1)) 4) fun v3 =>
    bnd (spec_RoundDiv (IntKind.i64.wrap (a0.g * a1)) 4) fun v4 =>
    bnd (spec_RoundDiv (IntKind.i64.wrap (a0.b * a1)) 4) fun v5 =>
    bnd (spec_RoundDiv (IntKind.i64.wrap (a0.a * a1)) 4) fun v6 =>
    some (TColor.mk v3 v4 v5 v6)) (
    some (TColor.mk 0 0 0 0))) (
   some (TColor.mk 0 0 0 0))
noncomputable def spec_Thin_e (q : (TColor) × (Int)) : List AV × List Ob := ([AV.agg [AV.int .i64 q.1.r, AV.int .i64 q.1.g, AV.int .i64 q.1.b, AV.int .i64 q.1.a], AV.int .i64 q.2], [])
noncomputable def spec_Thin_v (q : (TColor) × (Int)) (r : (TColor)) : AV × List Ob := (AV.agg [AV.int .i64 r.r, AV.int .i64 r.g, AV.int .i64 r.b, AV.int .i64 r.a], [])
noncomputable def spec_Thin_x : List AV → List Ob → Option (AV × List Ob) := xOf spec_Thin_e (fun q => spec_Thin q.1 q.2) spec_Thin_v
theorem spec_Thin_i : ∀ a b, spec_Thin_e a = spec_Thin_e b → a = b := by rintro ⟨⟨x0, x1, x2, x3⟩, x4⟩ ⟨⟨y0, y1, y2, y3⟩, y4⟩ h; simp [spec_Thin_e] at h; simp [h]
@[simp] theorem spec_Thin_k (z0 : Int) (z1 : Int) (z2 : Int) (z3 : Int) (z4 : Int) : spec_Thin_x [AV.agg [AV.int .i64 z0, AV.int .i64 z1, AV.int .i64 z2, AV.int .i64 z3], AV.int .i64 z4] [] = mapR (spec_Thin ⟨z0, z1, z2, z3⟩ z4) (fun r => (AV.agg [AV.int .i64 r.r, AV.int .i64 r.g, AV.int .i64 r.b, AV.int .i64 r.a], [])) :=
  xOf_eq spec_Thin_i (⟨z0, z1, z2, z3⟩, z4)
/-! spec_Fade: function 43 -/
noncomputable def spec_Fade (a0 : TColor) (a1 : Int) : Option ((TColor)) :=
  bnd (spec_LaidOk a0) fun v1 =>
  cnd v1 (
   bnd (spec_l01In a1 0 255) fun v2 =>
   cnd v2 (
    bnd (spec_Times255 a0.r a1) fun v3 =>
    bnd (spec_Times255 a0.g a1) fun v4 =>
    bnd (spec_Times255 a0.b a1) fun v5 =>
    bnd (spec_Times255 a0.a a1) fun v6 =>
    some (TColor.mk v3 v4 v5 v6)) (
    some (TColor.mk 0 0 0 0))) (
   some (TColor.mk 0 0 0 0))
noncomputable def spec_Fade_e (q : (TColor) × (Int)) : List AV × List Ob := ([AV.agg [AV.int .i64 q.1.r, AV.int .i64 q.1.g, AV.int .i64 q.1.b, AV.int .i64 q.1.a], AV.int .i64 q.2], [])
noncomputable def spec_Fade_v (q : (TColor) × (Int)) (r : (TColor)) : AV × List Ob := (AV.agg [AV.int .i64 r.r, AV.int .i64 r.g, AV.int .i64 r.b, AV.int .i64 r.a], [])
noncomputable def spec_Fade_x : List AV → List Ob → Option (AV × List Ob) := xOf spec_Fade_e (fun q => spec_Fade q.1 q.2) spec_Fade_v
theorem spec_Fade_i : ∀ a b, spec_Fade_e a = spec_Fade_e b → a = b := by rintro ⟨⟨x0, x1, x2, x3⟩, x4⟩ ⟨⟨y0, y1, y2, y3⟩, y4⟩ h; simp [spec_Fade_e] at h; simp [h]
@[simp] theorem spec_Fade_k (z0 : Int) (z1 : Int) (z2 : Int) (z3 : Int) (z4 : Int) : spec_Fade_x [AV.agg [AV.int .i64 z0, AV.int .i64 z1, AV.int .i64 z2, AV.int .i64 z3], AV.int .i64 z4] [] = mapR (spec_Fade ⟨z0, z1, z2, z3⟩ z4) (fun r => (AV.agg [AV.int .i64 r.r, AV.int .i64 r.g, AV.int .i64 r.b, AV.int .i64 r.a], [])) :=
  xOf_eq spec_Fade_i (⟨z0, z1, z2, z3⟩, z4)
/-! spec_l13Part: function 122 -/
noncomputable def spec_l13Part (a0 : Int) (a1 : Int) (a2 : Int) (a3 : Int) (a4 : Int) : Option ((Int)) :=
  cnd (ieq a0 1) (
   bnd (spec_Times255 a2 (IntKind.i64.wrap (255 - a3))) fun v1 =>
   cnd (ile (IntKind.i64.wrap (a1 + v1)) 255) (
    some (IntKind.i64.wrap (a1 + v1))) (
    some 255)) (
   cnd (ieq a0 2) (
    bnd (spec_RoundDiv (IntKind.i64.wrap ((IntKind.i64.wrap ((IntKind.i64.wrap (a1 * a2)) + (IntKind.i64.wrap (a1 * (IntKind.i64.wrap (255 - a4)))))) + (IntKind.i64.wrap (a2 * (IntKind.i64.wrap (255 - a3)))))) 255) fun v2 =>
    cnd (ile v2 255) (
     some v2) (
     some 255)) (
    cnd (ieq a0 3) (
     bnd (spec_RoundDiv (IntKind.i64.wrap (a1 * a2)) 255) fun v3 =>
     cnd (ile (IntKind.i64.wrap ((IntKind.i64.wrap (a1 + a2)) - v3)) 255) (
      some (IntKind.i64.wrap ((IntKind.i64.wrap (a1 + a2)) - v3))) (
      some 255)) (
     cnd (ieq a0 4) (
      cnd (ile (IntKind.i64.wrap (a1 + a2)) 255) (
       some (IntKind.i64.wrap (a1 + a2))) (
       some 255)) (
      cnd (ieq a0 5) (
       bnd (spec_Times255 a2 (IntKind.i64.wrap (255 - a3))) fun v4 =>
       cnd (ile v4 255) (
        some v4) (
        some 255)) (
       cnd (ile a2 255) (
        some a2) (
        some 255))))))
noncomputable def spec_l13Part_e (q : (Int) × (Int) × (Int) × (Int) × (Int)) : List AV × List Ob := ([AV.int .i64 q.1, AV.int .i64 q.2.1, AV.int .i64 q.2.2.1, AV.int .i64 q.2.2.2.1, AV.int .i64 q.2.2.2.2], [])
noncomputable def spec_l13Part_v (q : (Int) × (Int) × (Int) × (Int) × (Int)) (r : (Int)) : AV × List Ob := (AV.int .i64 r, [])
noncomputable def spec_l13Part_x : List AV → List Ob → Option (AV × List Ob) := xOf spec_l13Part_e (fun q => spec_l13Part q.1 q.2.1 q.2.2.1 q.2.2.2.1 q.2.2.2.2) spec_l13Part_v
theorem spec_l13Part_i : ∀ a b, spec_l13Part_e a = spec_l13Part_e b → a = b := by rintro ⟨x0, x1, x2, x3, x4⟩ ⟨y0, y1, y2, y3, y4⟩ h; simp [spec_l13Part_e] at h; simp [h]
@[simp] theorem spec_l13Part_k (z0 : Int) (z1 : Int) (z2 : Int) (z3 : Int) (z4 : Int) : spec_l13Part_x [AV.int .i64 z0, AV.int .i64 z1, AV.int .i64 z2, AV.int .i64 z3, AV.int .i64 z4] [] = mapR (spec_l13Part z0 z1 z2 z3 z4) (fun r => (AV.int .i64 r, [])) :=
  xOf_eq spec_l13Part_i (z0, z1, z2, z3, z4)
/-! spec_Blend: function 42 -/
noncomputable def spec_Blend (a0 : Int) (a1 : TColor) (a2 : TColor) : Option ((TColor)) :=
  bnd (spec_LaidOk a1) fun v1 =>
  cnd v1 (
   bnd (spec_LaidOk a2) fun v2 =>
   cnd v2 (
    bnd (spec_l13Part a0 a1.r a2.r a1.a a2.a) fun v3 =>
    bnd (spec_l13Part a0 a1.g a2.g a1.a a2.a) fun v4 =>
    bnd (spec_l13Part a0 a1.b a2.b a1.a a2.a) fun v5 =>
    bnd (spec_l13Part a0 a1.a a2.a a1.a a2.a) fun v6 =>
    some (TColor.mk v3 v4 v5 v6)) (
    some a2)) (
   some a2)
noncomputable def spec_Blend_e (q : (Int) × (TColor) × (TColor)) : List AV × List Ob := ([AV.int .i64 q.1, AV.agg [AV.int .i64 q.2.1.r, AV.int .i64 q.2.1.g, AV.int .i64 q.2.1.b, AV.int .i64 q.2.1.a], AV.agg [AV.int .i64 q.2.2.r, AV.int .i64 q.2.2.g, AV.int .i64 q.2.2.b, AV.int .i64 q.2.2.a]], [])
noncomputable def spec_Blend_v (q : (Int) × (TColor) × (TColor)) (r : (TColor)) : AV × List Ob := (AV.agg [AV.int .i64 r.r, AV.int .i64 r.g, AV.int .i64 r.b, AV.int .i64 r.a], [])
noncomputable def spec_Blend_x : List AV → List Ob → Option (AV × List Ob) := xOf spec_Blend_e (fun q => spec_Blend q.1 q.2.1 q.2.2) spec_Blend_v
theorem spec_Blend_i : ∀ a b, spec_Blend_e a = spec_Blend_e b → a = b := by rintro ⟨x0, ⟨x1, x2, x3, x4⟩, ⟨x5, x6, x7, x8⟩⟩ ⟨y0, ⟨y1, y2, y3, y4⟩, ⟨y5, y6, y7, y8⟩⟩ h; simp [spec_Blend_e] at h; simp [h]
@[simp] theorem spec_Blend_k (z0 : Int) (z1 : Int) (z2 : Int) (z3 : Int) (z4 : Int) (z5 : Int) (z6 : Int) (z7 : Int) (z8 : Int) : spec_Blend_x [AV.int .i64 z0, AV.agg [AV.int .i64 z1, AV.int .i64 z2, AV.int .i64 z3, AV.int .i64 z4], AV.agg [AV.int .i64 z5, AV.int .i64 z6, AV.int .i64 z7, AV.int .i64 z8]] [] = mapR (spec_Blend z0 ⟨z1, z2, z3, z4⟩ ⟨z5, z6, z7, z8⟩) (fun r => (AV.agg [AV.int .i64 r.r, AV.int .i64 r.g, AV.int .i64 r.b, AV.int .i64 r.a], [])) :=
  xOf_eq spec_Blend_i (z0, ⟨z1, z2, z3, z4⟩, ⟨z5, z6, z7, z8⟩)
/-! spec_PaintMask: function 67 -/
noncomputable def spec_PaintMask_l0 (a0 : TSurface) (a1 : TMask) (a2 : TPaint) (a3 : Int) (a4 : Int) (w2 : Int) (w3 : Int) (x29 : Int) : ((Int) × (List TColor)) → Option (((Int) × (List TColor)) ⊕ ((List TColor))) := fun (x40, x41) =>
  cnd (ile a0.w x40) (
   some (.inr x41)) (
   bnd (spec_l11Bits a1 x40 x29) fun v42 =>
   cnd (ieq v42 0) (
    some (.inl ((IntKind.i64.wrap (x40 + 1)), x41))) (
    bnd (spec_ColorAt a2 x40 x29) fun v43 =>
    bnd (spec_CountOf v42) fun v44 =>
    bnd (spec_Thin v43 v44) fun v45 =>
    bnd (spec_Fade v45 a4) fun v46 =>
    bnd (idx a0.pix (IntKind.i64.wrap ((IntKind.i64.wrap (x29 * a0.w)) + x40))) fun v47 =>
    bnd (spec_Blend a3 v46 v47) fun v48 =>
    bnd (idx x41 (IntKind.i64.wrap ((IntKind.i64.wrap (x29 * a0.w)) + x40))) fun v49 =>
    nam ((List.set x41 (Int.toNat (IntKind.i64.wrap ((IntKind.i64.wrap (x29 * a0.w)) + x40))) v48) : List TColor) fun l50 =>
    some (.inl ((IntKind.i64.wrap (x40 + 1)), l50))))
noncomputable def spec_PaintMask_l0_S (a0 : TSurface) (a1 : TMask) (a2 : TPaint) (a3 : Int) (a4 : Int) (w2 : Int) (w3 : Int) (x29 : Int) : ((Int) × (List TColor)) → St := fun (x40, x41) => ⟨[(3, AV.int .i64 a3), (4, AV.int .i64 a4), (5, AV.optr 0 0 3), (6, AV.optr 1 0 5), (7, AV.optr 2 0 13), (10, AV.optr 3 0 3), (11, AV.optr 4 0 3), (12, AV.int .i64 x29), (13, AV.int .i64 x40)], [(0, Ob.box [AV.int .i64 a0.w, AV.int .i64 a0.h, AV.fsl (List.map eColor a0.pix)]), (1, Ob.box [AV.int .i64 a1.box.x0, AV.int .i64 a1.box.y0, AV.int .i64 a1.box.x1, AV.int .i64 a1.box.y1, AV.fsl (List.map (AV.int .i64) a1.bits)]), (2, Ob.box [AV.int .i64 a2.kind, AV.int .i64 a2.first.r, AV.int .i64 a2.first.g, AV.int .i64 a2.first.b, AV.int .i64 a2.first.a, AV.int .i64 a2.last.r, AV.int .i64 a2.last.g, AV.int .i64 a2.last.b, AV.int .i64 a2.last.a, AV.int .i64 a2.from_.x, AV.int .i64 a2.from_.y, AV.int .i64 a2.to.x, AV.int .i64 a2.to.y]), (3, Ob.box [AV.int .i64 0, AV.int .i64 0, AV.nilsl]), (4, Ob.box [AV.int .i64 w2, AV.int .i64 w3, AV.osl 5 0 (List.length x41) (List.length x41)]), (5, Ob.arr 4 (List.map eColor x41) false)], 6⟩
noncomputable def spec_PaintMask_l0_X (a0 : TSurface) (a1 : TMask) (a2 : TPaint) (a3 : Int) (a4 : Int) (w2 : Int) (w3 : Int) (x29 : Int) : ((List TColor)) → Ex × St := fun y51 => ((.exit 2), ⟨[(3, AV.int .i64 a3), (4, AV.int .i64 a4), (5, AV.optr 0 0 3), (6, AV.optr 1 0 5), (7, AV.optr 2 0 13), (10, AV.optr 3 0 3), (11, AV.optr 4 0 3), (12, AV.int .i64 x29)], [(0, Ob.box [AV.int .i64 a0.w, AV.int .i64 a0.h, AV.fsl (List.map eColor a0.pix)]), (1, Ob.box [AV.int .i64 a1.box.x0, AV.int .i64 a1.box.y0, AV.int .i64 a1.box.x1, AV.int .i64 a1.box.y1, AV.fsl (List.map (AV.int .i64) a1.bits)]), (2, Ob.box [AV.int .i64 a2.kind, AV.int .i64 a2.first.r, AV.int .i64 a2.first.g, AV.int .i64 a2.first.b, AV.int .i64 a2.first.a, AV.int .i64 a2.last.r, AV.int .i64 a2.last.g, AV.int .i64 a2.last.b, AV.int .i64 a2.last.a, AV.int .i64 a2.from_.x, AV.int .i64 a2.from_.y, AV.int .i64 a2.to.x, AV.int .i64 a2.to.y]), (3, Ob.box [AV.int .i64 0, AV.int .i64 0, AV.nilsl]), (4, Ob.box [AV.int .i64 w2, AV.int .i64 w3, AV.osl 5 0 (List.length y51) (List.length y51)]), (5, Ob.arr 4 (List.map eColor y51) false)], 6⟩)
noncomputable def spec_PaintMask_l1 (a0 : TSurface) (a1 : TMask) (a2 : TPaint) (a3 : Int) (a4 : Int) (w2 : Int) (w3 : Int) : ((Int) × (List TColor)) → Option (((Int) × (List TColor)) ⊕ ((List TColor))) := fun (x29, x30) =>
  cnd (ile a0.h x29) (
   some (.inr x30)) (
   bnd (loopI (spec_PaintMask_l0 a0 a1 a2 a3 a4 w2 w3 x29) (0, x30)) fun y51 =>
   some (.inl ((IntKind.i64.wrap (x29 + 1)), y51)))
noncomputable def spec_PaintMask_l1_S (a0 : TSurface) (a1 : TMask) (a2 : TPaint) (a3 : Int) (a4 : Int) (w2 : Int) (w3 : Int) : ((Int) × (List TColor)) → St := fun (x29, x30) => ⟨[(3, AV.int .i64 a3), (4, AV.int .i64 a4), (5, AV.optr 0 0 3), (6, AV.optr 1 0 5), (7, AV.optr 2 0 13), (10, AV.optr 3 0 3), (11, AV.optr 4 0 3), (12, AV.int .i64 x29)], [(0, Ob.box [AV.int .i64 a0.w, AV.int .i64 a0.h, AV.fsl (List.map eColor a0.pix)]), (1, Ob.box [AV.int .i64 a1.box.x0, AV.int .i64 a1.box.y0, AV.int .i64 a1.box.x1, AV.int .i64 a1.box.y1, AV.fsl (List.map (AV.int .i64) a1.bits)]), (2, Ob.box [AV.int .i64 a2.kind, AV.int .i64 a2.first.r, AV.int .i64 a2.first.g, AV.int .i64 a2.first.b, AV.int .i64 a2.first.a, AV.int .i64 a2.last.r, AV.int .i64 a2.last.g, AV.int .i64 a2.last.b, AV.int .i64 a2.last.a, AV.int .i64 a2.from_.x, AV.int .i64 a2.from_.y, AV.int .i64 a2.to.x, AV.int .i64 a2.to.y]), (3, Ob.box [AV.int .i64 0, AV.int .i64 0, AV.nilsl]), (4, Ob.box [AV.int .i64 w2, AV.int .i64 w3, AV.osl 5 0 (List.length x30) (List.length x30)]), (5, Ob.arr 4 (List.map eColor x30) false)], 6⟩
noncomputable def spec_PaintMask_l1_X (a0 : TSurface) (a1 : TMask) (a2 : TPaint) (a3 : Int) (a4 : Int) (w2 : Int) (w3 : Int) : ((List TColor)) → Ex × St := fun y52 => ((.exit 0), ⟨[(10, AV.optr 0 0 3), (11, AV.optr 1 0 3)], [(0, Ob.box [AV.int .i64 0, AV.int .i64 0, AV.nilsl]), (1, Ob.box [AV.int .i64 w2, AV.int .i64 w3, AV.osl 2 0 (List.length y52) (List.length y52)]), (2, Ob.arr 4 (List.map eColor y52) false)], 3⟩)
noncomputable def spec_PaintMask (a0 : TSurface) (a1 : TMask) (a2 : TPaint) (a3 : Int) (a4 : Int) : Option ((TSurface)) :=
  bnd (spec_l14Copy a0) fun (w2, w3, w4) =>
  bnd (spec_SurfaceOk a0) fun v5 =>
  cnd v5 (
   bnd (spec_MaskOk a1) fun v6 =>
   cnd v6 (
    bnd (spec_PaintOk a2) fun v7 =>
    cnd v7 (
     bnd (loopI (spec_PaintMask_l1 a0 a1 a2 a3 a4 w2 w3) (0, w4)) fun y52 =>
     some (TSurface.mk w2 w3 y52)) (
     some (TSurface.mk w2 w3 w4))) (
    some (TSurface.mk w2 w3 w4))) (
   some (TSurface.mk w2 w3 w4))
noncomputable def spec_PaintMask_e (q : (TSurface) × (TMask) × (TPaint) × (Int) × (Int)) : List AV × List Ob := ([AV.agg [AV.int .i64 q.1.w, AV.int .i64 q.1.h, AV.fsl (List.map eColor q.1.pix)], AV.agg [AV.int .i64 q.2.1.box.x0, AV.int .i64 q.2.1.box.y0, AV.int .i64 q.2.1.box.x1, AV.int .i64 q.2.1.box.y1, AV.fsl (List.map (AV.int .i64) q.2.1.bits)], AV.agg [AV.int .i64 q.2.2.1.kind, AV.int .i64 q.2.2.1.first.r, AV.int .i64 q.2.2.1.first.g, AV.int .i64 q.2.2.1.first.b, AV.int .i64 q.2.2.1.first.a, AV.int .i64 q.2.2.1.last.r, AV.int .i64 q.2.2.1.last.g, AV.int .i64 q.2.2.1.last.b, AV.int .i64 q.2.2.1.last.a, AV.int .i64 q.2.2.1.from_.x, AV.int .i64 q.2.2.1.from_.y, AV.int .i64 q.2.2.1.to.x, AV.int .i64 q.2.2.1.to.y], AV.int .i64 q.2.2.2.1, AV.int .i64 q.2.2.2.2], [])
noncomputable def spec_PaintMask_v (q : (TSurface) × (TMask) × (TPaint) × (Int) × (Int)) (r : (TSurface)) : AV × List Ob := (AV.agg [AV.int .i64 r.w, AV.int .i64 r.h, AV.fsl (List.map eColor r.pix)], [])
noncomputable def spec_PaintMask_x : List AV → List Ob → Option (AV × List Ob) := xOf spec_PaintMask_e (fun q => spec_PaintMask q.1 q.2.1 q.2.2.1 q.2.2.2.1 q.2.2.2.2) spec_PaintMask_v
theorem spec_PaintMask_i : ∀ a b, spec_PaintMask_e a = spec_PaintMask_e b → a = b := by rintro ⟨⟨x0, x1, x2⟩, ⟨⟨x3, x4, x5, x6⟩, x7⟩, ⟨x8, ⟨x9, x10, x11, x12⟩, ⟨x13, x14, x15, x16⟩, ⟨x17, x18⟩, ⟨x19, x20⟩⟩, x21, x22⟩ ⟨⟨y0, y1, y2⟩, ⟨⟨y3, y4, y5, y6⟩, y7⟩, ⟨y8, ⟨y9, y10, y11, y12⟩, ⟨y13, y14, y15, y16⟩, ⟨y17, y18⟩, ⟨y19, y20⟩⟩, y21, y22⟩ h; simp [spec_PaintMask_e] at h; simp [h]
@[simp] theorem spec_PaintMask_k (z0 : Int) (z1 : Int) (z2 : List TColor) (z3 : Int) (z4 : Int) (z5 : Int) (z6 : Int) (z7 : List Int) (z8 : Int) (z9 : Int) (z10 : Int) (z11 : Int) (z12 : Int) (z13 : Int) (z14 : Int) (z15 : Int) (z16 : Int) (z17 : Int) (z18 : Int) (z19 : Int) (z20 : Int) (z21 : Int) (z22 : Int) : spec_PaintMask_x [AV.agg [AV.int .i64 z0, AV.int .i64 z1, AV.fsl (List.map eColor z2)], AV.agg [AV.int .i64 z3, AV.int .i64 z4, AV.int .i64 z5, AV.int .i64 z6, AV.fsl (List.map (AV.int .i64) z7)], AV.agg [AV.int .i64 z8, AV.int .i64 z9, AV.int .i64 z10, AV.int .i64 z11, AV.int .i64 z12, AV.int .i64 z13, AV.int .i64 z14, AV.int .i64 z15, AV.int .i64 z16, AV.int .i64 z17, AV.int .i64 z18, AV.int .i64 z19, AV.int .i64 z20], AV.int .i64 z21, AV.int .i64 z22] [] = mapR (spec_PaintMask ⟨z0, z1, z2⟩ ⟨⟨z3, z4, z5, z6⟩, z7⟩ ⟨z8, ⟨z9, z10, z11, z12⟩, ⟨z13, z14, z15, z16⟩, ⟨z17, z18⟩, ⟨z19, z20⟩⟩ z21 z22) (fun r => (AV.agg [AV.int .i64 r.w, AV.int .i64 r.h, AV.fsl (List.map eColor r.pix)], [])) :=
  xOf_eq spec_PaintMask_i (⟨z0, z1, z2⟩, ⟨⟨z3, z4, z5, z6⟩, z7⟩, ⟨z8, ⟨z9, z10, z11, z12⟩, ⟨z13, z14, z15, z16⟩, ⟨z17, z18⟩, ⟨z19, z20⟩⟩, z21, z22)
/-! spec_l14Surface: function 100 -/
noncomputable def spec_l14Surface_l0  : ((Int) × (List Int) × (Int) × (Int) × (Int) × (Int) × (List TColor)) → Option (((Int) × (List Int) × (Int) × (Int) × (Int) × (Int) × (List TColor)) ⊕ ((List Int) × (Int) × (Int) × (Int) × (Int) × (List TColor))) := fun (x26, x27, x28, x29, x30, x31, x32) =>
  bnd (spec_l01Below 3 (TL01Cur.mk x27 x28 x29)) fun (w34, w35) =>
  cnd (ile w34 x26) (
   some (.inr (w35.b, w35.i, w35.h, x30, x31, x32))) (
   bnd (spec_l11Mask w35) fun (w37, w38) =>
   bnd (spec_l12Paint w38) fun (w40, w41) =>
   bnd (spec_l01Below 5 w41) fun (w43, w44) =>
   bnd (spec_l01PickInt w44 [255, 255, 100, 0]) fun (w46, w47) =>
   bnd (spec_PaintMask (TSurface.mk x30 x31 x32) w37 w40 (IntKind.i64.wrap (1 + w43)) w46) fun v48 =>
   some (.inl ((IntKind.i64.wrap (x26 + 1)), w47.b, w47.i, w47.h, v48.w, v48.h, v48.pix)))
noncomputable def spec_l14Surface_l0_S  : ((Int) × (List Int) × (Int) × (Int) × (Int) × (Int) × (List TColor)) → St := fun (x26, x27, x28, x29, x30, x31, x32) => ⟨[(0, AV.optr 0 0 3), (2, AV.optr 1 0 3), (3, AV.optr 2 0 3), (5, AV.int .i64 x26)], [(0, Ob.box [AV.fsl (List.map (AV.int .u8) x27), AV.int .i64 x28, AV.int .i64 x29]), (1, Ob.box [AV.int .i64 0, AV.int .i64 0, AV.nilsl]), (2, Ob.box [AV.int .i64 x30, AV.int .i64 x31, AV.fsl (List.map eColor x32)])], 3⟩
noncomputable def spec_l14Surface_l0_X  : ((List Int) × (Int) × (Int) × (Int) × (Int) × (List TColor)) → Ex × St := fun (y49, y50, y51, y52, y53, y54) => ((.exit 0), ⟨[(2, AV.optr 1 0 3), (3, AV.optr 2 0 3)], [(0, Ob.box [AV.fsl (List.map (AV.int .u8) y49), AV.int .i64 y50, AV.int .i64 y51]), (1, Ob.box [AV.int .i64 0, AV.int .i64 0, AV.nilsl]), (2, Ob.box [AV.int .i64 y52, AV.int .i64 y53, AV.fsl (List.map eColor y54)])], 3⟩)
noncomputable def spec_l14Surface (a0 : TL01Cur) : Option ((TSurface) × (TL01Cur)) :=
  bnd (spec_l01Below 7 a0) fun (w2, w3) =>
  bnd (spec_l01Below 7 w3) fun (w5, w6) =>
  bnd (spec_SurfaceNew (IntKind.i64.wrap (1 + w2)) (IntKind.i64.wrap (1 + w5))) fun (w8, w9) =>
  bnd (loopI spec_l14Surface_l0 (0, w6.b, w6.i, w6.h, w8.w, w8.h, w8.pix)) fun (y49, y50, y51, y52, y53, y54) =>
  some ((TSurface.mk y52 y53 y54), (TL01Cur.mk y49 y50 y51))
noncomputable def spec_l14Surface_e (q : (TL01Cur)) : List AV × List Ob := ([AV.optr 0 0 3], [Ob.box [AV.fsl (List.map (AV.int .u8) q.b), AV.int .i64 q.i, AV.int .i64 q.h]])
noncomputable def spec_l14Surface_v (q : (TL01Cur)) (r : (TSurface) × (TL01Cur)) : AV × List Ob := (AV.agg [AV.int .i64 r.1.w, AV.int .i64 r.1.h, AV.fsl (List.map eColor r.1.pix)], [Ob.box [AV.fsl (List.map (AV.int .u8) r.2.b), AV.int .i64 r.2.i, AV.int .i64 r.2.h]])
noncomputable def spec_l14Surface_x : List AV → List Ob → Option (AV × List Ob) := xOf spec_l14Surface_e (fun q => spec_l14Surface q) spec_l14Surface_v
theorem spec_l14Surface_i : ∀ a b, spec_l14Surface_e a = spec_l14Surface_e b → a = b := by rintro ⟨x0, x1, x2⟩ ⟨y0, y1, y2⟩ h; simp [spec_l14Surface_e] at h; simp [h]
@[simp] theorem spec_l14Surface_k (z0 : List Int) (z1 : Int) (z2 : Int) : spec_l14Surface_x [AV.optr 0 0 3] [Ob.box [AV.fsl (List.map (AV.int .u8) z0), AV.int .i64 z1, AV.int .i64 z2]] = mapR (spec_l14Surface ⟨z0, z1, z2⟩) (fun r => (AV.agg [AV.int .i64 r.1.w, AV.int .i64 r.1.h, AV.fsl (List.map eColor r.1.pix)], [Ob.box [AV.fsl (List.map (AV.int .u8) r.2.b), AV.int .i64 r.2.i, AV.int .i64 r.2.h]])) :=
  xOf_eq spec_l14Surface_i ⟨z0, z1, z2⟩
/-! spec_DrawRightSurface: function 29 -/
noncomputable def spec_DrawRightSurface (a0 : List Int) : Option ((TSurface)) :=
  bnd (spec_l01New a0) fun v1 =>
  bnd (spec_l14Surface v1) fun (w3, w4) =>
  some w3
noncomputable def spec_DrawRightSurface_e (q : (List Int)) : List AV × List Ob := ([AV.fsl (List.map (AV.int .u8) q)], [])
noncomputable def spec_DrawRightSurface_v (q : (List Int)) (r : (TSurface)) : AV × List Ob := (AV.agg [AV.int .i64 r.w, AV.int .i64 r.h, AV.fsl (List.map eColor r.pix)], [])
noncomputable def spec_DrawRightSurface_x : List AV → List Ob → Option (AV × List Ob) := xOf spec_DrawRightSurface_e (fun q => spec_DrawRightSurface q) spec_DrawRightSurface_v
theorem spec_DrawRightSurface_i : ∀ a b, spec_DrawRightSurface_e a = spec_DrawRightSurface_e b → a = b := by rintro x0 y0 h; simp [spec_DrawRightSurface_e] at h; simp [h]
@[simp] theorem spec_DrawRightSurface_k (z0 : List Int) : spec_DrawRightSurface_x [AV.fsl (List.map (AV.int .u8) z0)] [] = mapR (spec_DrawRightSurface z0) (fun r => (AV.agg [AV.int .i64 r.w, AV.int .i64 r.h, AV.fsl (List.map eColor r.pix)], [])) :=
  xOf_eq spec_DrawRightSurface_i z0
/-! spec_DrawMasks: function 37 -/
noncomputable def spec_DrawMasks (a0 : List Int) : Option ((TMask) × (TMask)) :=
  bnd (spec_l01New a0) fun v1 =>
  bnd (spec_l11Mask v1) fun (w3, w4) =>
  bnd (spec_l11Mask w4) fun (w6, w7) =>
  some (w3, w6)
noncomputable def spec_DrawMasks_e (q : (List Int)) : List AV × List Ob := ([AV.fsl (List.map (AV.int .u8) q)], [])
noncomputable def spec_DrawMasks_v (q : (List Int)) (r : (TMask) × (TMask)) : AV × List Ob := (AV.tup [AV.agg [AV.int .i64 r.1.box.x0, AV.int .i64 r.1.box.y0, AV.int .i64 r.1.box.x1, AV.int .i64 r.1.box.y1, AV.fsl (List.map (AV.int .i64) r.1.bits)], AV.agg [AV.int .i64 r.2.box.x0, AV.int .i64 r.2.box.y0, AV.int .i64 r.2.box.x1, AV.int .i64 r.2.box.y1, AV.fsl (List.map (AV.int .i64) r.2.bits)]], [])
noncomputable def spec_DrawMasks_x : List AV → List Ob → Option (AV × List Ob) := xOf spec_DrawMasks_e (fun q => spec_DrawMasks q) spec_DrawMasks_v
theorem spec_DrawMasks_i : ∀ a b, spec_DrawMasks_e a = spec_DrawMasks_e b → a = b := by rintro x0 y0 h; simp [spec_DrawMasks_e] at h; simp [h]
@[simp] theorem spec_DrawMasks_k (z0 : List Int) : spec_DrawMasks_x [AV.fsl (List.map (AV.int .u8) z0)] [] = mapR (spec_DrawMasks z0) (fun r => (AV.tup [AV.agg [AV.int .i64 r.1.box.x0, AV.int .i64 r.1.box.y0, AV.int .i64 r.1.box.x1, AV.int .i64 r.1.box.y1, AV.fsl (List.map (AV.int .i64) r.1.bits)], AV.agg [AV.int .i64 r.2.box.x0, AV.int .i64 r.2.box.y0, AV.int .i64 r.2.box.x1, AV.int .i64 r.2.box.y1, AV.fsl (List.map (AV.int .i64) r.2.bits)]], [])) :=
  xOf_eq spec_DrawMasks_i z0
/-! spec_DrawSlope: function 38 -/
noncomputable def spec_DrawSlope (a0 : List Int) : Option ((TPaint)) :=
  bnd (spec_l01New a0) fun v1 =>
  bnd (spec_l12Paint v1) fun (w3, w4) =>
  some w3
noncomputable def spec_DrawSlope_e (q : (List Int)) : List AV × List Ob := ([AV.fsl (List.map (AV.int .u8) q)], [])
noncomputable def spec_DrawSlope_v (q : (List Int)) (r : (TPaint)) : AV × List Ob := (AV.agg [AV.int .i64 r.kind, AV.int .i64 r.first.r, AV.int .i64 r.first.g, AV.int .i64 r.first.b, AV.int .i64 r.first.a, AV.int .i64 r.last.r, AV.int .i64 r.last.g, AV.int .i64 r.last.b, AV.int .i64 r.last.a, AV.int .i64 r.from_.x, AV.int .i64 r.from_.y, AV.int .i64 r.to.x, AV.int .i64 r.to.y], [])
noncomputable def spec_DrawSlope_x : List AV → List Ob → Option (AV × List Ob) := xOf spec_DrawSlope_e (fun q => spec_DrawSlope q) spec_DrawSlope_v
theorem spec_DrawSlope_i : ∀ a b, spec_DrawSlope_e a = spec_DrawSlope_e b → a = b := by rintro x0 y0 h; simp [spec_DrawSlope_e] at h; simp [h]
@[simp] theorem spec_DrawSlope_k (z0 : List Int) : spec_DrawSlope_x [AV.fsl (List.map (AV.int .u8) z0)] [] = mapR (spec_DrawSlope z0) (fun r => (AV.agg [AV.int .i64 r.kind, AV.int .i64 r.first.r, AV.int .i64 r.first.g, AV.int .i64 r.first.b, AV.int .i64 r.first.a, AV.int .i64 r.last.r, AV.int .i64 r.last.g, AV.int .i64 r.last.b, AV.int .i64 r.last.a, AV.int .i64 r.from_.x, AV.int .i64 r.from_.y, AV.int .i64 r.to.x, AV.int .i64 r.to.y], [])) :=
  xOf_eq spec_DrawSlope_i z0
/-! spec_DrawPlaces: function 32 -/
noncomputable def spec_DrawPlaces_l0  : ((Int) × (List Int) × (Int) × (Int) × (List Int)) → Option (((Int) × (List Int) × (Int) × (Int) × (List Int)) ⊕ ((List Int))) := fun (x8, x9, x10, x11, x12) =>
  cnd (ile 12 x8) (
   some (.inr x12)) (
   bnd (spec_l01Below 10000 (TL01Cur.mk x9 x10 x11)) fun (w14, w15) =>
   chkP ((List.length x12 + 1) * 8 ≤ 17592186044416) (
   nam ((x12 ++ [w14]) : List Int) fun l16 =>
   some (.inl ((IntKind.i64.wrap (x8 + 1)), w15.b, w15.i, w15.h, l16))))
noncomputable def spec_DrawPlaces_l0_S  : ((Int) × (List Int) × (Int) × (Int) × (List Int)) → St := fun (x8, x9, x10, x11, x12) => ⟨[(3, AV.optr 0 0 3), (4, AV.osl 1 0 (List.length x12) (List.length x12)), (5, AV.int .i64 x8)], [(0, Ob.box [AV.fsl (List.map (AV.int .u8) x9), AV.int .i64 x10, AV.int .i64 x11]), (1, Ob.arr 1 (List.map (AV.int .i64) x12) false)], 2⟩
noncomputable def spec_DrawPlaces_l0_X  : ((List Int)) → Ex × St := fun y17 => ((.exit 0), ⟨[(4, AV.osl 0 0 (List.length y17) (List.length y17))], [(0, Ob.arr 1 (List.map (AV.int .i64) y17) false)], 1⟩)
noncomputable def spec_DrawPlaces (a0 : List Int) : Option ((List Int)) :=
  bnd (spec_l01New a0) fun v1 =>
  bnd (spec_l01Byte v1) fun (w3, w4) =>
  bnd (loopI spec_DrawPlaces_l0 (0, w4.b, w4.i, w4.h, [])) fun y17 =>
  some y17
noncomputable def spec_DrawPlaces_e (q : (List Int)) : List AV × List Ob := ([AV.fsl (List.map (AV.int .u8) q)], [])
noncomputable def spec_DrawPlaces_v (q : (List Int)) (r : (List Int)) : AV × List Ob := (AV.fsl (List.map (AV.int .i64) r), [])
noncomputable def spec_DrawPlaces_x : List AV → List Ob → Option (AV × List Ob) := xOf spec_DrawPlaces_e (fun q => spec_DrawPlaces q) spec_DrawPlaces_v
theorem spec_DrawPlaces_i : ∀ a b, spec_DrawPlaces_e a = spec_DrawPlaces_e b → a = b := by rintro x0 y0 h; simp [spec_DrawPlaces_e] at h; simp [h]
@[simp] theorem spec_DrawPlaces_k (z0 : List Int) : spec_DrawPlaces_x [AV.fsl (List.map (AV.int .u8) z0)] [] = mapR (spec_DrawPlaces z0) (fun r => (AV.fsl (List.map (AV.int .i64) r), [])) :=
  xOf_eq spec_DrawPlaces_i z0
/-! slices_Clone_Color: function 172 -/
noncomputable def slices_Clone_Color (a0 : List TColor) : Option ((List TColor)) :=
  chkP (List.length a0 * 32 ≤ 17592186044416) (
  some a0)
noncomputable def slices_Clone_Color_e (q : (List TColor)) : List AV × List Ob := ([AV.fsl (List.map eColor q)], [])
noncomputable def slices_Clone_Color_v (q : (List TColor)) (r : (List TColor)) : AV × List Ob := (AV.osl 0 0 (List.length r) (List.length r), [Ob.arr 4 (List.map eColor r) false])
noncomputable def slices_Clone_Color_x : List AV → List Ob → Option (AV × List Ob) := xOf slices_Clone_Color_e (fun q => slices_Clone_Color q) slices_Clone_Color_v
theorem slices_Clone_Color_i : ∀ a b, slices_Clone_Color_e a = slices_Clone_Color_e b → a = b := by rintro x0 y0 h; simp [slices_Clone_Color_e] at h; simp [h]
@[simp] theorem slices_Clone_Color_k (z0 : List TColor) : slices_Clone_Color_x [AV.fsl (List.map eColor z0)] [] = mapR (slices_Clone_Color z0) (fun r => (AV.osl 0 0 (List.length r) (List.length r), [Ob.arr 4 (List.map eColor r) false])) :=
  xOf_eq slices_Clone_Color_i z0
/-! impl_copySurface: function 103 -/
noncomputable def impl_copySurface (a0 : TSurface) : Option ((Int) × (Int) × (List TColor)) :=
  bnd (slices_Clone_Color a0.pix) fun v1 =>
  some (a0.w, a0.h, v1)
noncomputable def impl_copySurface_e (q : (TSurface)) : List AV × List Ob := ([AV.agg [AV.int .i64 q.w, AV.int .i64 q.h, AV.fsl (List.map eColor q.pix)]], [])
noncomputable def impl_copySurface_v (q : (TSurface)) (r : (Int) × (Int) × (List TColor)) : AV × List Ob := (AV.agg [AV.int .i64 r.1, AV.int .i64 r.2.1, AV.osl 0 0 (List.length r.2.2) (List.length r.2.2)], [Ob.arr 4 (List.map eColor r.2.2) false])
noncomputable def impl_copySurface_x : List AV → List Ob → Option (AV × List Ob) := xOf impl_copySurface_e (fun q => impl_copySurface q) impl_copySurface_v
theorem impl_copySurface_i : ∀ a b, impl_copySurface_e a = impl_copySurface_e b → a = b := by rintro ⟨x0, x1, x2⟩ ⟨y0, y1, y2⟩ h; simp [impl_copySurface_e] at h; simp [h]
@[simp] theorem impl_copySurface_k (z0 : Int) (z1 : Int) (z2 : List TColor) : impl_copySurface_x [AV.agg [AV.int .i64 z0, AV.int .i64 z1, AV.fsl (List.map eColor z2)]] [] = mapR (impl_copySurface ⟨z0, z1, z2⟩) (fun r => (AV.agg [AV.int .i64 r.1, AV.int .i64 r.2.1, AV.osl 0 0 (List.length r.2.2) (List.length r.2.2)], [Ob.arr 4 (List.map eColor r.2.2) false])) :=
  xOf_eq impl_copySurface_i ⟨z0, z1, z2⟩
/-! impl_inRange: function 76 -/
noncomputable def impl_inRange (a0 : Int) (a1 : Int) (a2 : Int) : Option ((Bool)) :=
  cnd (ile a1 a0) (
   some (ile a0 a2)) (
   some false)
noncomputable def impl_inRange_e (q : (Int) × (Int) × (Int)) : List AV × List Ob := ([AV.int .i64 q.1, AV.int .i64 q.2.1, AV.int .i64 q.2.2], [])
noncomputable def impl_inRange_v (q : (Int) × (Int) × (Int)) (r : (Bool)) : AV × List Ob := (AV.bool r, [])
noncomputable def impl_inRange_x : List AV → List Ob → Option (AV × List Ob) := xOf impl_inRange_e (fun q => impl_inRange q.1 q.2.1 q.2.2) impl_inRange_v
theorem impl_inRange_i : ∀ a b, impl_inRange_e a = impl_inRange_e b → a = b := by rintro ⟨x0, x1, x2⟩ ⟨y0, y1, y2⟩ h; simp [impl_inRange_e] at h; simp [h]
@[simp] theorem impl_inRange_k (z0 : Int) (z1 : Int) (z2 : Int) : impl_inRange_x [AV.int .i64 z0, AV.int .i64 z1, AV.int .i64 z2] [] = mapR (impl_inRange z0 z1 z2) (fun r => (AV.bool r, [])) :=
  xOf_eq impl_inRange_i (z0, z1, z2)
/-! impl_isSide: function 102 -/
noncomputable def impl_isSide (a0 : Int) : Option ((Bool)) :=
  bnd (impl_inRange a0 1 12) fun v1 =>
  some v1
noncomputable def impl_isSide_e (q : (Int)) : List AV × List Ob := ([AV.int .i64 q], [])
noncomputable def impl_isSide_v (q : (Int)) (r : (Bool)) : AV × List Ob := (AV.bool r, [])
noncomputable def impl_isSide_x : List AV → List Ob → Option (AV × List Ob) := xOf impl_isSide_e (fun q => impl_isSide q) impl_isSide_v
theorem impl_isSide_i : ∀ a b, impl_isSide_e a = impl_isSide_e b → a = b := by rintro x0 y0 h; simp [impl_isSide_e] at h; simp [h]
@[simp] theorem impl_isSide_k (z0 : Int) : impl_isSide_x [AV.int .i64 z0] [] = mapR (impl_isSide z0) (fun r => (AV.bool r, [])) :=
  xOf_eq impl_isSide_i z0
/-! impl_isByte: function 178 -/
noncomputable def impl_isByte (a0 : Int) : Option ((Bool)) :=
  bnd (impl_inRange a0 0 255) fun v1 =>
  some v1
noncomputable def impl_isByte_e (q : (Int)) : List AV × List Ob := ([AV.int .i64 q], [])
noncomputable def impl_isByte_v (q : (Int)) (r : (Bool)) : AV × List Ob := (AV.bool r, [])
noncomputable def impl_isByte_x : List AV → List Ob → Option (AV × List Ob) := xOf impl_isByte_e (fun q => impl_isByte q) impl_isByte_v
theorem impl_isByte_i : ∀ a b, impl_isByte_e a = impl_isByte_e b → a = b := by rintro x0 y0 h; simp [impl_isByte_e] at h; simp [h]
@[simp] theorem impl_isByte_k (z0 : Int) : impl_isByte_x [AV.int .i64 z0] [] = mapR (impl_isByte z0) (fun r => (AV.bool r, [])) :=
  xOf_eq impl_isByte_i z0
/-! impl_ColorOk: function 180 -/
noncomputable def impl_ColorOk (a0 : TColor) : Option ((Bool)) :=
  bnd (impl_isByte a0.r) fun v1 =>
  cnd v1 (
   bnd (impl_isByte a0.g) fun v2 =>
   cnd v2 (
    bnd (impl_isByte a0.b) fun v3 =>
    cnd v3 (
     bnd (impl_isByte a0.a) fun v4 =>
     some v4) (
     some false)) (
    some false)) (
   some false)
noncomputable def impl_ColorOk_e (q : (TColor)) : List AV × List Ob := ([AV.agg [AV.int .i64 q.r, AV.int .i64 q.g, AV.int .i64 q.b, AV.int .i64 q.a]], [])
noncomputable def impl_ColorOk_v (q : (TColor)) (r : (Bool)) : AV × List Ob := (AV.bool r, [])
noncomputable def impl_ColorOk_x : List AV → List Ob → Option (AV × List Ob) := xOf impl_ColorOk_e (fun q => impl_ColorOk q) impl_ColorOk_v
theorem impl_ColorOk_i : ∀ a b, impl_ColorOk_e a = impl_ColorOk_e b → a = b := by rintro ⟨x0, x1, x2, x3⟩ ⟨y0, y1, y2, y3⟩ h; simp [impl_ColorOk_e] at h; simp [h]
@[simp] theorem impl_ColorOk_k (z0 : Int) (z1 : Int) (z2 : Int) (z3 : Int) : impl_ColorOk_x [AV.agg [AV.int .i64 z0, AV.int .i64 z1, AV.int .i64 z2, AV.int .i64 z3]] [] = mapR (impl_ColorOk ⟨z0, z1, z2, z3⟩) (fun r => (AV.bool r, [])) :=
  xOf_eq impl_ColorOk_i ⟨z0, z1, z2, z3⟩
/-! impl_LaidOk: function 112 -/
noncomputable def impl_LaidOk (a0 : TColor) : Option ((Bool)) :=
  bnd (impl_ColorOk a0) fun v1 =>
  cnd v1 (
   cnd (ile a0.r a0.a) (
    cnd (ile a0.g a0.a) (
     some (ile a0.b a0.a)) (
     some false)) (
    some false)) (
   some false)
noncomputable def impl_LaidOk_e (q : (TColor)) : List AV × List Ob := ([AV.agg [AV.int .i64 q.r, AV.int .i64 q.g, AV.int .i64 q.b, AV.int .i64 q.a]], [])
noncomputable def impl_LaidOk_v (q : (TColor)) (r : (Bool)) : AV × List Ob := (AV.bool r, [])
noncomputable def impl_LaidOk_x : List AV → List Ob → Option (AV × List Ob) := xOf impl_LaidOk_e (fun q => impl_LaidOk q) impl_LaidOk_v
theorem impl_LaidOk_i : ∀ a b, impl_LaidOk_e a = impl_LaidOk_e b → a = b := by rintro ⟨x0, x1, x2, x3⟩ ⟨y0, y1, y2, y3⟩ h; simp [impl_LaidOk_e] at h; simp [h]
@[simp] theorem impl_LaidOk_k (z0 : Int) (z1 : Int) (z2 : Int) (z3 : Int) : impl_LaidOk_x [AV.agg [AV.int .i64 z0, AV.int .i64 z1, AV.int .i64 z2, AV.int .i64 z3]] [] = mapR (impl_LaidOk ⟨z0, z1, z2, z3⟩) (fun r => (AV.bool r, [])) :=
  xOf_eq impl_LaidOk_i ⟨z0, z1, z2, z3⟩
/-! impl_SurfaceOk: function 34 -/
noncomputable def impl_SurfaceOk_l0 (a0 : TSurface) : ((Int)) → Option (((Int)) ⊕ ((Unit) ⊕ (Unit))) := fun x5 =>
  cnd (ile (List.length a0.pix : Int) x5) (
   some (.inr (.inl ()))) (
   bnd (idx a0.pix x5) fun v6 =>
   bnd (impl_LaidOk v6) fun v7 =>
   cnd v7 (
    some (.inl (IntKind.i64.wrap (x5 + 1)))) (
    some (.inr (.inr ()))))
noncomputable def impl_SurfaceOk_l0_S (a0 : TSurface) : ((Int)) → St := fun x5 => ⟨[(27, AV.fsl (List.map eColor a0.pix)), (28, AV.int .i64 (List.length a0.pix : Int)), (29, AV.int .i64 x5)], [], 0⟩
noncomputable def impl_SurfaceOk_l0_X (a0 : TSurface) : ((Unit) ⊕ (Unit)) → Ex × St := fun q => match q with
  | .inl _ => ((.exit 0), ⟨[], [], 0⟩)
  | .inr _ => (.ret, ⟨[(2, AV.bool false)], [], 0⟩)
noncomputable def impl_SurfaceOk (a0 : TSurface) : Option ((Bool)) :=
  bnd (impl_isSide a0.w) fun v1 =>
  cnd v1 (
   bnd (impl_isSide a0.h) fun v2 =>
   cnd v2 (
    cnd (ieq (List.length a0.pix : Int) (IntKind.i64.wrap (a0.w * a0.h))) (
     bnd (loopI (impl_SurfaceOk_l0 a0) 0) fun q => match q with
     | .inl () =>
      some true
     | .inr () =>
      some false) (
     some false)) (
    some false)) (
   some false)
noncomputable def impl_SurfaceOk_e (q : (TSurface)) : List AV × List Ob := ([AV.agg [AV.int .i64 q.w, AV.int .i64 q.h, AV.fsl (List.map eColor q.pix)]], [])
noncomputable def impl_SurfaceOk_v (q : (TSurface)) (r : (Bool)) : AV × List Ob := (AV.bool r, [])
noncomputable def impl_SurfaceOk_x : List AV → List Ob → Option (AV × List Ob) := xOf impl_SurfaceOk_e (fun q => impl_SurfaceOk q) impl_SurfaceOk_v
theorem impl_SurfaceOk_i : ∀ a b, impl_SurfaceOk_e a = impl_SurfaceOk_e b → a = b := by rintro ⟨x0, x1, x2⟩ ⟨y0, y1, y2⟩ h; simp [impl_SurfaceOk_e] at h; simp [h]
@[simp] theorem impl_SurfaceOk_k (z0 : Int) (z1 : Int) (z2 : List TColor) : impl_SurfaceOk_x [AV.agg [AV.int .i64 z0, AV.int .i64 z1, AV.fsl (List.map eColor z2)]] [] = mapR (impl_SurfaceOk ⟨z0, z1, z2⟩) (fun r => (AV.bool r, [])) :=
  xOf_eq impl_SurfaceOk_i ⟨z0, z1, z2⟩
/-! impl_Empty: function 158 -/
noncomputable def impl_Empty (a0 : TBox) : Option ((Bool)) :=
  cnd (ile a0.x1 a0.x0) (
   some true) (
   some (ile a0.y1 a0.y0))
noncomputable def impl_Empty_e (q : (TBox)) : List AV × List Ob := ([AV.agg [AV.int .i64 q.x0, AV.int .i64 q.y0, AV.int .i64 q.x1, AV.int .i64 q.y1]], [])
noncomputable def impl_Empty_v (q : (TBox)) (r : (Bool)) : AV × List Ob := (AV.bool r, [])
noncomputable def impl_Empty_x : List AV → List Ob → Option (AV × List Ob) := xOf impl_Empty_e (fun q => impl_Empty q) impl_Empty_v
theorem impl_Empty_i : ∀ a b, impl_Empty_e a = impl_Empty_e b → a = b := by rintro ⟨x0, x1, x2, x3⟩ ⟨y0, y1, y2, y3⟩ h; simp [impl_Empty_e] at h; simp [h]
@[simp] theorem impl_Empty_k (z0 : Int) (z1 : Int) (z2 : Int) (z3 : Int) : impl_Empty_x [AV.agg [AV.int .i64 z0, AV.int .i64 z1, AV.int .i64 z2, AV.int .i64 z3]] [] = mapR (impl_Empty ⟨z0, z1, z2, z3⟩) (fun r => (AV.bool r, [])) :=
  xOf_eq impl_Empty_i ⟨z0, z1, z2, z3⟩
/-! impl_isMaskBox: function 152 -/
noncomputable def impl_isMaskBox (a0 : TBox) : Option ((Bool)) :=
  bnd (impl_Empty a0) fun v1 =>
  cnd v1 (
   some false) (
   cnd (ile (-2000) a0.x0) (
    cnd (ile (-2000) a0.y0) (
     cnd (ile a0.x1 2000) (
      cnd (ile a0.y1 2000) (
       cnd (ile (IntKind.i64.wrap (a0.x1 - a0.x0)) 60) (
        some (ile (IntKind.i64.wrap (a0.y1 - a0.y0)) 60)) (
        some false)) (
       some false)) (
      some false)) (
     some false)) (
    some false))
noncomputable def impl_isMaskBox_e (q : (TBox)) : List AV × List Ob := ([AV.agg [AV.int .i64 q.x0, AV.int .i64 q.y0, AV.int .i64 q.x1, AV.int .i64 q.y1]], [])
noncomputable def impl_isMaskBox_v (q : (TBox)) (r : (Bool)) : AV × List Ob := (AV.bool r, [])
noncomputable def impl_isMaskBox_x : List AV → List Ob → Option (AV × List Ob) := xOf impl_isMaskBox_e (fun q => impl_isMaskBox q) impl_isMaskBox_v
theorem impl_isMaskBox_i : ∀ a b, impl_isMaskBox_e a = impl_isMaskBox_e b → a = b := by rintro ⟨x0, x1, x2, x3⟩ ⟨y0, y1, y2, y3⟩ h; simp [impl_isMaskBox_e] at h; simp [h]
@[simp] theorem impl_isMaskBox_k (z0 : Int) (z1 : Int) (z2 : Int) (z3 : Int) : impl_isMaskBox_x [AV.agg [AV.int .i64 z0, AV.int .i64 z1, AV.int .i64 z2, AV.int .i64 z3]] [] = mapR (impl_isMaskBox ⟨z0, z1, z2, z3⟩) (fun r => (AV.bool r, [])) :=
  xOf_eq impl_isMaskBox_i ⟨z0, z1, z2, z3⟩
/-! impl_MaskOk: function 78 -/
noncomputable def impl_MaskOk_l0 (a0 : TMask) : ((Int)) → Option (((Int)) ⊕ ((Unit) ⊕ (Unit))) := fun x4 =>
  cnd (ile (List.length a0.bits : Int) x4) (
   some (.inr (.inl ()))) (
   bnd (idx a0.bits x4) fun v5 =>
   bnd (impl_inRange v5 0 15) fun v6 =>
   cnd v6 (
    some (.inl (IntKind.i64.wrap (x4 + 1)))) (
    some (.inr (.inr ()))))
noncomputable def impl_MaskOk_l0_S (a0 : TMask) : ((Int)) → St := fun x4 => ⟨[(39, AV.fsl (List.map (AV.int .i64) a0.bits)), (40, AV.int .i64 (List.length a0.bits : Int)), (41, AV.int .i64 x4)], [], 0⟩
noncomputable def impl_MaskOk_l0_X (a0 : TMask) : ((Unit) ⊕ (Unit)) → Ex × St := fun q => match q with
  | .inl _ => ((.exit 0), ⟨[], [], 0⟩)
  | .inr _ => (.ret, ⟨[(2, AV.bool false)], [], 0⟩)
noncomputable def impl_MaskOk (a0 : TMask) : Option ((Bool)) :=
  cnd (andB (decide (a0.box.x0 = 0)) (andB (decide (a0.box.y0 = 0)) (andB (decide (a0.box.x1 = 0)) (andB (decide (a0.box.y1 = 0)) true)))) (
   some (ieq (List.length a0.bits : Int) 0)) (
   bnd (impl_isMaskBox a0.box) fun v1 =>
   cnd v1 (
    cnd (ieq (List.length a0.bits : Int) (IntKind.i64.wrap ((IntKind.i64.wrap (a0.box.x1 - a0.box.x0)) * (IntKind.i64.wrap (a0.box.y1 - a0.box.y0))))) (
     bnd (loopI (impl_MaskOk_l0 a0) 0) fun q => match q with
     | .inl () =>
      some true
     | .inr () =>
      some false) (
     some false)) (
    some false))
noncomputable def impl_MaskOk_e (q : (TMask)) : List AV × List Ob := ([AV.agg [AV.int .i64 q.box.x0, AV.int .i64 q.box.y0, AV.int .i64 q.box.x1, AV.int .i64 q.box.y1, AV.fsl (List.map (AV.int .i64) q.bits)]], [])
noncomputable def impl_MaskOk_v (q : (TMask)) (r : (Bool)) : AV × List Ob := (AV.bool r, [])
noncomputable def impl_MaskOk_x : List AV → List Ob → Option (AV × List Ob) := xOf impl_MaskOk_e (fun q => impl_MaskOk q) impl_MaskOk_v
theorem impl_MaskOk_i : ∀ a b, impl_MaskOk_e a = impl_MaskOk_e b → a = b := by rintro ⟨⟨x0, x1, x2, x3⟩, x4⟩ ⟨⟨y0, y1, y2, y3⟩, y4⟩ h; simp [impl_MaskOk_e] at h; simp [h]
@[simp] theorem impl_MaskOk_k (z0 : Int) (z1 : Int) (z2 : Int) (z3 : Int) (z4 : List Int) : impl_MaskOk_x [AV.agg [AV.int .i64 z0, AV.int .i64 z1, AV.int .i64 z2, AV.int .i64 z3, AV.fsl (List.map (AV.int .i64) z4)]] [] = mapR (impl_MaskOk ⟨⟨z0, z1, z2, z3⟩, z4⟩) (fun r => (AV.bool r, [])) :=
  xOf_eq impl_MaskOk_i ⟨⟨z0, z1, z2, z3⟩, z4⟩
/-! impl_isFar: function 226 -/
noncomputable def impl_isFar (a0 : Int) : Option ((Bool)) :=
  bnd (impl_inRange a0 (-8388608) 8388608) fun v1 =>
  some v1
noncomputable def impl_isFar_e (q : (Int)) : List AV × List Ob := ([AV.int .i64 q], [])
noncomputable def impl_isFar_v (q : (Int)) (r : (Bool)) : AV × List Ob := (AV.bool r, [])
noncomputable def impl_isFar_x : List AV → List Ob → Option (AV × List Ob) := xOf impl_isFar_e (fun q => impl_isFar q) impl_isFar_v
theorem impl_isFar_i : ∀ a b, impl_isFar_e a = impl_isFar_e b → a = b := by rintro x0 y0 h; simp [impl_isFar_e] at h; simp [h]
@[simp] theorem impl_isFar_k (z0 : Int) : impl_isFar_x [AV.int .i64 z0] [] = mapR (impl_isFar z0) (fun r => (AV.bool r, [])) :=
  xOf_eq impl_isFar_i z0
/-! impl_PointOk: function 187 -/
noncomputable def impl_PointOk (a0 : TPoint) : Option ((Bool)) :=
  bnd (impl_isFar a0.x) fun v1 =>
  cnd v1 (
   bnd (impl_isFar a0.y) fun v2 =>
   some v2) (
   some false)
noncomputable def impl_PointOk_e (q : (TPoint)) : List AV × List Ob := ([AV.agg [AV.int .i64 q.x, AV.int .i64 q.y]], [])
noncomputable def impl_PointOk_v (q : (TPoint)) (r : (Bool)) : AV × List Ob := (AV.bool r, [])
noncomputable def impl_PointOk_x : List AV → List Ob → Option (AV × List Ob) := xOf impl_PointOk_e (fun q => impl_PointOk q) impl_PointOk_v
theorem impl_PointOk_i : ∀ a b, impl_PointOk_e a = impl_PointOk_e b → a = b := by rintro ⟨x0, x1⟩ ⟨y0, y1⟩ h; simp [impl_PointOk_e] at h; simp [h]
@[simp] theorem impl_PointOk_k (z0 : Int) (z1 : Int) : impl_PointOk_x [AV.agg [AV.int .i64 z0, AV.int .i64 z1]] [] = mapR (impl_PointOk ⟨z0, z1⟩) (fun r => (AV.bool r, [])) :=
  xOf_eq impl_PointOk_i ⟨z0, z1⟩
/-! impl_PaintOk: function 116 -/
noncomputable def impl_PaintOk (a0 : TPaint) : Option ((Bool)) :=
  cnd (ieq a0.kind 1) (
   bnd (impl_ColorOk a0.first) fun v1 =>
   cnd v1 (
    some (andB (decide (a0.kind = 1)) (andB (decide (a0.first.r = a0.first.r)) (andB (decide (a0.first.g = a0.first.g)) (andB (decide (a0.first.b = a0.first.b)) (andB (decide (a0.first.a = a0.first.a)) (andB (decide (a0.last.r = 0)) (andB (decide (a0.last.g = 0)) (andB (decide (a0.last.b = 0)) (andB (decide (a0.last.a = 0)) (andB (decide (a0.from_.x = 0)) (andB (decide (a0.from_.y = 0)) (andB (decide (a0.to.x = 0)) (andB (decide (a0.to.y = 0)) true)))))))))))))) (
    some false)) (
   cnd (ieq a0.kind 2) (
    bnd (impl_ColorOk a0.first) fun v2 =>
    cnd v2 (
     bnd (impl_ColorOk a0.last) fun v3 =>
     cnd v3 (
      bnd (impl_PointOk a0.from_) fun v4 =>
      cnd v4 (
       bnd (impl_PointOk a0.to) fun v5 =>
       cnd v5 (
        some (!(andB (decide (a0.from_.x = a0.to.x)) (andB (decide (a0.from_.y = a0.to.y)) true)))) (
        some false)) (
       some false)) (
      some false)) (
     some false)) (
    some false))
noncomputable def impl_PaintOk_e (q : (TPaint)) : List AV × List Ob := ([AV.agg [AV.int .i64 q.kind, AV.int .i64 q.first.r, AV.int .i64 q.first.g, AV.int .i64 q.first.b, AV.int .i64 q.first.a, AV.int .i64 q.last.r, AV.int .i64 q.last.g, AV.int .i64 q.last.b, AV.int .i64 q.last.a, AV.int .i64 q.from_.x, AV.int .i64 q.from_.y, AV.int .i64 q.to.x, AV.int .i64 q.to.y]], [])
noncomputable def impl_PaintOk_v (q : (TPaint)) (r : (Bool)) : AV × List Ob := (AV.bool r, [])
noncomputable def impl_PaintOk_x : List AV → List Ob → Option (AV × List Ob) := xOf impl_PaintOk_e (fun q => impl_PaintOk q) impl_PaintOk_v
theorem impl_PaintOk_i : ∀ a b, impl_PaintOk_e a = impl_PaintOk_e b → a = b := by rintro ⟨x0, ⟨x1, x2, x3, x4⟩, ⟨x5, x6, x7, x8⟩, ⟨x9, x10⟩, ⟨x11, x12⟩⟩ ⟨y0, ⟨y1, y2, y3, y4⟩, ⟨y5, y6, y7, y8⟩, ⟨y9, y10⟩, ⟨y11, y12⟩⟩ h; simp [impl_PaintOk_e] at h; simp [h]
@[simp] theorem impl_PaintOk_k (z0 : Int) (z1 : Int) (z2 : Int) (z3 : Int) (z4 : Int) (z5 : Int) (z6 : Int) (z7 : Int) (z8 : Int) (z9 : Int) (z10 : Int) (z11 : Int) (z12 : Int) : impl_PaintOk_x [AV.agg [AV.int .i64 z0, AV.int .i64 z1, AV.int .i64 z2, AV.int .i64 z3, AV.int .i64 z4, AV.int .i64 z5, AV.int .i64 z6, AV.int .i64 z7, AV.int .i64 z8, AV.int .i64 z9, AV.int .i64 z10, AV.int .i64 z11, AV.int .i64 z12]] [] = mapR (impl_PaintOk ⟨z0, ⟨z1, z2, z3, z4⟩, ⟨z5, z6, z7, z8⟩, ⟨z9, z10⟩, ⟨z11, z12⟩⟩) (fun r => (AV.bool r, [])) :=
  xOf_eq impl_PaintOk_i ⟨z0, ⟨z1, z2, z3, z4⟩, ⟨z5, z6, z7, z8⟩, ⟨z9, z10⟩, ⟨z11, z12⟩⟩
/-! impl_Surface_box: function 105 -/
noncomputable def impl_Surface_box (a0 : TSurface) : Option ((TBox)) :=
  some (TBox.mk 0 0 a0.w a0.h)
noncomputable def impl_Surface_box_e (q : (TSurface)) : List AV × List Ob := ([AV.fptr [AV.int .i64 q.w, AV.int .i64 q.h, AV.fsl (List.map eColor q.pix)] 0], [])
noncomputable def impl_Surface_box_v (q : (TSurface)) (r : (TBox)) : AV × List Ob := (AV.agg [AV.int .i64 r.x0, AV.int .i64 r.y0, AV.int .i64 r.x1, AV.int .i64 r.y1], [])
noncomputable def impl_Surface_box_x : List AV → List Ob → Option (AV × List Ob) := xOf impl_Surface_box_e (fun q => impl_Surface_box q) impl_Surface_box_v
theorem impl_Surface_box_i : ∀ a b, impl_Surface_box_e a = impl_Surface_box_e b → a = b := by rintro ⟨x0, x1, x2⟩ ⟨y0, y1, y2⟩ h; simp [impl_Surface_box_e] at h; simp [h]
@[simp] theorem impl_Surface_box_k (z0 : Int) (z1 : Int) (z2 : List TColor) : impl_Surface_box_x [AV.fptr [AV.int .i64 z0, AV.int .i64 z1, AV.fsl (List.map eColor z2)] 0] [] = mapR (impl_Surface_box ⟨z0, z1, z2⟩) (fun r => (AV.agg [AV.int .i64 r.x0, AV.int .i64 r.y0, AV.int .i64 r.x1, AV.int .i64 r.y1], [])) :=
  xOf_eq impl_Surface_box_i ⟨z0, z1, z2⟩
/-! impl_MeetBox: function 157 -/
noncomputable def impl_MeetBox (a0 : TBox) (a1 : TBox) : Option ((TBox)) :=
  bnd (impl_Empty (TBox.mk (max a0.x0 a1.x0) (max a0.y0 a1.y0) (min a0.x1 a1.x1) (min a0.y1 a1.y1))) fun v1 =>
  cnd v1 (
   some (TBox.mk 0 0 0 0)) (
   some (TBox.mk (max a0.x0 a1.x0) (max a0.y0 a1.y0) (min a0.x1 a1.x1) (min a0.y1 a1.y1)))
noncomputable def impl_MeetBox_e (q : (TBox) × (TBox)) : List AV × List Ob := ([AV.agg [AV.int .i64 q.1.x0, AV.int .i64 q.1.y0, AV.int .i64 q.1.x1, AV.int .i64 q.1.y1], AV.agg [AV.int .i64 q.2.x0, AV.int .i64 q.2.y0, AV.int .i64 q.2.x1, AV.int .i64 q.2.y1]], [])
noncomputable def impl_MeetBox_v (q : (TBox) × (TBox)) (r : (TBox)) : AV × List Ob := (AV.agg [AV.int .i64 r.x0, AV.int .i64 r.y0, AV.int .i64 r.x1, AV.int .i64 r.y1], [])
noncomputable def impl_MeetBox_x : List AV → List Ob → Option (AV × List Ob) := xOf impl_MeetBox_e (fun q => impl_MeetBox q.1 q.2) impl_MeetBox_v
theorem impl_MeetBox_i : ∀ a b, impl_MeetBox_e a = impl_MeetBox_e b → a = b := by rintro ⟨⟨x0, x1, x2, x3⟩, ⟨x4, x5, x6, x7⟩⟩ ⟨⟨y0, y1, y2, y3⟩, ⟨y4, y5, y6, y7⟩⟩ h; simp [impl_MeetBox_e] at h; simp [h]
@[simp] theorem impl_MeetBox_k (z0 : Int) (z1 : Int) (z2 : Int) (z3 : Int) (z4 : Int) (z5 : Int) (z6 : Int) (z7 : Int) : impl_MeetBox_x [AV.agg [AV.int .i64 z0, AV.int .i64 z1, AV.int .i64 z2, AV.int .i64 z3], AV.agg [AV.int .i64 z4, AV.int .i64 z5, AV.int .i64 z6, AV.int .i64 z7]] [] = mapR (impl_MeetBox ⟨z0, z1, z2, z3⟩ ⟨z4, z5, z6, z7⟩) (fun r => (AV.agg [AV.int .i64 r.x0, AV.int .i64 r.y0, AV.int .i64 r.x1, AV.int .i64 r.y1], [])) :=
  xOf_eq impl_MeetBox_i (⟨z0, z1, z2, z3⟩, ⟨z4, z5, z6, z7⟩)
/-! impl_InBox: function 188 -/
noncomputable def impl_InBox (a0 : TBox) (a1 : TPoint) : Option ((Bool)) :=
  cnd (ile a0.x0 a1.x) (
   cnd (ile a0.x1 a1.x) (
    some false) (
    cnd (ile a0.y0 a1.y) (
     some (!(ile a0.y1 a1.y))) (
     some false))) (
   some false)
noncomputable def impl_InBox_e (q : (TBox) × (TPoint)) : List AV × List Ob := ([AV.agg [AV.int .i64 q.1.x0, AV.int .i64 q.1.y0, AV.int .i64 q.1.x1, AV.int .i64 q.1.y1], AV.agg [AV.int .i64 q.2.x, AV.int .i64 q.2.y]], [])
noncomputable def impl_InBox_v (q : (TBox) × (TPoint)) (r : (Bool)) : AV × List Ob := (AV.bool r, [])
noncomputable def impl_InBox_x : List AV → List Ob → Option (AV × List Ob) := xOf impl_InBox_e (fun q => impl_InBox q.1 q.2) impl_InBox_v
theorem impl_InBox_i : ∀ a b, impl_InBox_e a = impl_InBox_e b → a = b := by rintro ⟨⟨x0, x1, x2, x3⟩, ⟨x4, x5⟩⟩ ⟨⟨y0, y1, y2, y3⟩, ⟨y4, y5⟩⟩ h; simp [impl_InBox_e] at h; simp [h]
@[simp] theorem impl_InBox_k (z0 : Int) (z1 : Int) (z2 : Int) (z3 : Int) (z4 : Int) (z5 : Int) : impl_InBox_x [AV.agg [AV.int .i64 z0, AV.int .i64 z1, AV.int .i64 z2, AV.int .i64 z3], AV.agg [AV.int .i64 z4, AV.int .i64 z5]] [] = mapR (impl_InBox ⟨z0, z1, z2, z3⟩ ⟨z4, z5⟩) (fun r => (AV.bool r, [])) :=
  xOf_eq impl_InBox_i (⟨z0, z1, z2, z3⟩, ⟨z4, z5⟩)
/-! impl_Mask_bitsAt: function 118 -/
noncomputable def impl_Mask_bitsAt (a0 : TMask) (a1 : Int) (a2 : Int) : Option ((Int)) :=
  bnd (impl_InBox a0.box (TPoint.mk a1 a2)) fun v1 =>
  cnd v1 (
   bnd (idx a0.bits (IntKind.i64.wrap ((IntKind.i64.wrap ((IntKind.i64.wrap ((IntKind.i64.wrap (a2 - a0.box.y0)) * (IntKind.i64.wrap (a0.box.x1 - a0.box.x0)))) + a1)) - a0.box.x0))) fun v2 =>
   some v2) (
   some 0)
noncomputable def impl_Mask_bitsAt_e (q : (TMask) × (Int) × (Int)) : List AV × List Ob := ([AV.fptr [AV.int .i64 q.1.box.x0, AV.int .i64 q.1.box.y0, AV.int .i64 q.1.box.x1, AV.int .i64 q.1.box.y1, AV.fsl (List.map (AV.int .i64) q.1.bits)] 0, AV.int .i64 q.2.1, AV.int .i64 q.2.2], [])
noncomputable def impl_Mask_bitsAt_v (q : (TMask) × (Int) × (Int)) (r : (Int)) : AV × List Ob := (AV.int .i64 r, [])
noncomputable def impl_Mask_bitsAt_x : List AV → List Ob → Option (AV × List Ob) := xOf impl_Mask_bitsAt_e (fun q => impl_Mask_bitsAt q.1 q.2.1 q.2.2) impl_Mask_bitsAt_v
theorem impl_Mask_bitsAt_i : ∀ a b, impl_Mask_bitsAt_e a = impl_Mask_bitsAt_e b → a = b := by rintro ⟨⟨⟨x0, x1, x2, x3⟩, x4⟩, x5, x6⟩ ⟨⟨⟨y0, y1, y2, y3⟩, y4⟩, y5, y6⟩ h; simp [impl_Mask_bitsAt_e] at h; simp [h]
@[simp] theorem impl_Mask_bitsAt_k (z0 : Int) (z1 : Int) (z2 : Int) (z3 : Int) (z4 : List Int) (z5 : Int) (z6 : Int) : impl_Mask_bitsAt_x [AV.fptr [AV.int .i64 z0, AV.int .i64 z1, AV.int .i64 z2, AV.int .i64 z3, AV.fsl (List.map (AV.int .i64) z4)] 0, AV.int .i64 z5, AV.int .i64 z6] [] = mapR (impl_Mask_bitsAt ⟨⟨z0, z1, z2, z3⟩, z4⟩ z5 z6) (fun r => (AV.int .i64 r, [])) :=
  xOf_eq impl_Mask_bitsAt_i (⟨⟨z0, z1, z2, z3⟩, z4⟩, z5, z6)
/-! impl_Clamp: function 219 -/
noncomputable def impl_Clamp (a0 : Int) (a1 : Int) (a2 : Int) : Option ((Int)) :=
  cnd (ile a1 a0) (
   cnd (ile a0 a2) (
    some a0) (
    some a2)) (
   some a1)
noncomputable def impl_Clamp_e (q : (Int) × (Int) × (Int)) : List AV × List Ob := ([AV.int .i64 q.1, AV.int .i64 q.2.1, AV.int .i64 q.2.2], [])
noncomputable def impl_Clamp_v (q : (Int) × (Int) × (Int)) (r : (Int)) : AV × List Ob := (AV.int .i64 r, [])
noncomputable def impl_Clamp_x : List AV → List Ob → Option (AV × List Ob) := xOf impl_Clamp_e (fun q => impl_Clamp q.1 q.2.1 q.2.2) impl_Clamp_v
theorem impl_Clamp_i : ∀ a b, impl_Clamp_e a = impl_Clamp_e b → a = b := by rintro ⟨x0, x1, x2⟩ ⟨y0, y1, y2⟩ h; simp [impl_Clamp_e] at h; simp [h]
@[simp] theorem impl_Clamp_k (z0 : Int) (z1 : Int) (z2 : Int) : impl_Clamp_x [AV.int .i64 z0, AV.int .i64 z1, AV.int .i64 z2] [] = mapR (impl_Clamp z0 z1 z2) (fun r => (AV.int .i64 r, [])) :=
  xOf_eq impl_Clamp_i (z0, z1, z2)
/-! impl_FloorDiv: function 220 -/
noncomputable def impl_FloorDiv (a0 : Int) (a1 : Int) : Option ((Int)) :=
  cnd (ile 1 a1) (
   chkP (¬ a1 = 0) (
   cnd (ile 0 (Int.tmod a0 a1)) (
    some (IntKind.i64.wrap (Int.tdiv a0 a1))) (
    some (IntKind.i64.wrap ((IntKind.i64.wrap (Int.tdiv a0 a1)) - 1))))) (
   some 0)
noncomputable def impl_FloorDiv_e (q : (Int) × (Int)) : List AV × List Ob := ([AV.int .i64 q.1, AV.int .i64 q.2], [])
noncomputable def impl_FloorDiv_v (q : (Int) × (Int)) (r : (Int)) : AV × List Ob := (AV.int .i64 r, [])
noncomputable def impl_FloorDiv_x : List AV → List Ob → Option (AV × List Ob) := xOf impl_FloorDiv_e (fun q => impl_FloorDiv q.1 q.2) impl_FloorDiv_v
theorem impl_FloorDiv_i : ∀ a b, impl_FloorDiv_e a = impl_FloorDiv_e b → a = b := by rintro ⟨x0, x1⟩ ⟨y0, y1⟩ h; simp [impl_FloorDiv_e] at h; simp [h]
@[simp] theorem impl_FloorDiv_k (z0 : Int) (z1 : Int) : impl_FloorDiv_x [AV.int .i64 z0, AV.int .i64 z1] [] = mapR (impl_FloorDiv z0 z1) (fun r => (AV.int .i64 r, [])) :=
  xOf_eq impl_FloorDiv_i (z0, z1)
/-! impl_RoundDiv: function 177 -/
noncomputable def impl_RoundDiv (a0 : Int) (a1 : Int) : Option ((Int)) :=
  cnd (ile 1 a1) (
   bnd (impl_FloorDiv a0 a1) fun v1 =>
   cnd (ile (IntKind.i64.wrap (a1 - (IntKind.i64.wrap (a0 - (IntKind.i64.wrap (v1 * a1)))))) (IntKind.i64.wrap (a0 - (IntKind.i64.wrap (v1 * a1))))) (
    some (IntKind.i64.wrap (v1 + 1))) (
    some v1)) (
   some 0)
noncomputable def impl_RoundDiv_e (q : (Int) × (Int)) : List AV × List Ob := ([AV.int .i64 q.1, AV.int .i64 q.2], [])
noncomputable def impl_RoundDiv_v (q : (Int) × (Int)) (r : (Int)) : AV × List Ob := (AV.int .i64 r, [])
noncomputable def impl_RoundDiv_x : List AV → List Ob → Option (AV × List Ob) := xOf impl_RoundDiv_e (fun q => impl_RoundDiv q.1 q.2) impl_RoundDiv_v
theorem impl_RoundDiv_i : ∀ a b, impl_RoundDiv_e a = impl_RoundDiv_e b → a = b := by rintro ⟨x0, x1⟩ ⟨y0, y1⟩ h; simp [impl_RoundDiv_e] at h; simp [h]
@[simp] theorem impl_RoundDiv_k (z0 : Int) (z1 : Int) : impl_RoundDiv_x [AV.int .i64 z0, AV.int .i64 z1] [] = mapR (impl_RoundDiv z0 z1) (fun r => (AV.int .i64 r, [])) :=
  xOf_eq impl_RoundDiv_i (z0, z1)
/-! impl_Times255: function 176 -/
noncomputable def impl_Times255 (a0 : Int) (a1 : Int) : Option ((Int)) :=
  bnd (impl_Clamp a0 0 255) fun v1 =>
  bnd (impl_Clamp a1 0 255) fun v2 =>
  bnd (impl_RoundDiv (IntKind.i64.wrap (v1 * v2)) 255) fun v3 =>
  some v3
noncomputable def impl_Times255_e (q : (Int) × (Int)) : List AV × List Ob := ([AV.int .i64 q.1, AV.int .i64 q.2], [])
noncomputable def impl_Times255_v (q : (Int) × (Int)) (r : (Int)) : AV × List Ob := (AV.int .i64 r, [])
noncomputable def impl_Times255_x : List AV → List Ob → Option (AV × List Ob) := xOf impl_Times255_e (fun q => impl_Times255 q.1 q.2) impl_Times255_v
theorem impl_Times255_i : ∀ a b, impl_Times255_e a = impl_Times255_e b → a = b := by rintro ⟨x0, x1⟩ ⟨y0, y1⟩ h; simp [impl_Times255_e] at h; simp [h]
@[simp] theorem impl_Times255_k (z0 : Int) (z1 : Int) : impl_Times255_x [AV.int .i64 z0, AV.int .i64 z1] [] = mapR (impl_Times255 z0 z1) (fun r => (AV.int .i64 r, [])) :=
  xOf_eq impl_Times255_i (z0, z1)
/-! impl_Laid: function 228 -/
noncomputable def impl_Laid (a0 : TColor) : Option ((TColor)) :=
  bnd (impl_ColorOk a0) fun v1 =>
  cnd v1 (
   bnd (impl_Times255 a0.r a0.a) fun v2 =>
   bnd (impl_Times255 a0.g a0.a) fun v3 =>
   bnd (impl_Times255 a0.b a0.a) fun v4 =>
   some (TColor.mk v2 v3 v4 a0.a)) (
   some (TColor.mk 0 0 0 0))
noncomputable def impl_Laid_e (q : (TColor)) : List AV × List Ob := ([AV.agg [AV.int .i64 q.r, AV.int .i64 q.g, AV.int .i64 q.b, AV.int .i64 q.a]], [])
noncomputable def impl_Laid_v (q : (TColor)) (r : (TColor)) : AV × List Ob := (AV.agg [AV.int .i64 r.r, AV.int .i64 r.g, AV.int .i64 r.b, AV.int .i64 r.a], [])
noncomputable def impl_Laid_x : List AV → List Ob → Option (AV × List Ob) := xOf impl_Laid_e (fun q => impl_Laid q) impl_Laid_v
theorem impl_Laid_i : ∀ a b, impl_Laid_e a = impl_Laid_e b → a = b := by rintro ⟨x0, x1, x2, x3⟩ ⟨y0, y1, y2, y3⟩ h; simp [impl_Laid_e] at h; simp [h]
@[simp] theorem impl_Laid_k (z0 : Int) (z1 : Int) (z2 : Int) (z3 : Int) : impl_Laid_x [AV.agg [AV.int .i64 z0, AV.int .i64 z1, AV.int .i64 z2, AV.int .i64 z3]] [] = mapR (impl_Laid ⟨z0, z1, z2, z3⟩) (fun r => (AV.agg [AV.int .i64 r.r, AV.int .i64 r.g, AV.int .i64 r.b, AV.int .i64 r.a], [])) :=
  xOf_eq impl_Laid_i ⟨z0, z1, z2, z3⟩
/-! impl_taken: function 242 -/
noncomputable def impl_taken (a0 : Int) (a1 : Int) : Option ((Int)) :=
  bnd (impl_Clamp a0 (IntKind.i64.wrap (0 - a1)) a1) fun v1 =>
  some v1
noncomputable def impl_taken_e (q : (Int) × (Int)) : List AV × List Ob := ([AV.int .i64 q.1, AV.int .i64 q.2], [])
noncomputable def impl_taken_v (q : (Int) × (Int)) (r : (Int)) : AV × List Ob := (AV.int .i64 r, [])
noncomputable def impl_taken_x : List AV → List Ob → Option (AV × List Ob) := xOf impl_taken_e (fun q => impl_taken q.1 q.2) impl_taken_v
theorem impl_taken_i : ∀ a b, impl_taken_e a = impl_taken_e b → a = b := by rintro ⟨x0, x1⟩ ⟨y0, y1⟩ h; simp [impl_taken_e] at h; simp [h]
@[simp] theorem impl_taken_k (z0 : Int) (z1 : Int) : impl_taken_x [AV.int .i64 z0, AV.int .i64 z1] [] = mapR (impl_taken z0 z1) (fun r => (AV.int .i64 r, [])) :=
  xOf_eq impl_taken_i (z0, z1)
/-! impl_partOf: function 229 -/
noncomputable def impl_partOf (a0 : TPaint) (a1 : Int) (a2 : Int) : Option ((Int)) :=
  bnd (impl_taken a1 2000) fun v1 =>
  bnd (impl_taken a2 2000) fun v2 =>
  bnd (impl_FloorDiv (IntKind.i64.wrap (256 * (IntKind.i64.wrap ((IntKind.i64.wrap ((IntKind.i64.wrap ((IntKind.i64.wrap ((IntKind.i64.wrap (256 * v1)) + 128)) - a0.from_.x)) * (IntKind.i64.wrap (a0.to.x - a0.from_.x)))) + (IntKind.i64.wrap ((IntKind.i64.wrap ((IntKind.i64.wrap ((IntKind.i64.wrap (256 * v2)) + 128)) - a0.from_.y)) * (IntKind.i64.wrap (a0.to.y - a0.from_.y)))))))) (IntKind.i64.wrap ((IntKind.i64.wrap ((IntKind.i64.wrap (a0.to.x - a0.from_.x)) * (IntKind.i64.wrap (a0.to.x - a0.from_.x)))) + (IntKind.i64.wrap ((IntKind.i64.wrap (a0.to.y - a0.from_.y)) * (IntKind.i64.wrap (a0.to.y - a0.from_.y))))))) fun v3 =>
  bnd (impl_Clamp v3 0 256) fun v4 =>
  some v4
noncomputable def impl_partOf_e (q : (TPaint) × (Int) × (Int)) : List AV × List Ob := ([AV.agg [AV.int .i64 q.1.kind, AV.int .i64 q.1.first.r, AV.int .i64 q.1.first.g, AV.int .i64 q.1.first.b, AV.int .i64 q.1.first.a, AV.int .i64 q.1.last.r, AV.int .i64 q.1.last.g, AV.int .i64 q.1.last.b, AV.int .i64 q.1.last.a, AV.int .i64 q.1.from_.x, AV.int .i64 q.1.from_.y, AV.int .i64 q.1.to.x, AV.int .i64 q.1.to.y], AV.int .i64 q.2.1, AV.int .i64 q.2.2], [])
noncomputable def impl_partOf_v (q : (TPaint) × (Int) × (Int)) (r : (Int)) : AV × List Ob := (AV.int .i64 r, [])
noncomputable def impl_partOf_x : List AV → List Ob → Option (AV × List Ob) := xOf impl_partOf_e (fun q => impl_partOf q.1 q.2.1 q.2.2) impl_partOf_v
theorem impl_partOf_i : ∀ a b, impl_partOf_e a = impl_partOf_e b → a = b := by rintro ⟨⟨x0, ⟨x1, x2, x3, x4⟩, ⟨x5, x6, x7, x8⟩, ⟨x9, x10⟩, ⟨x11, x12⟩⟩, x13, x14⟩ ⟨⟨y0, ⟨y1, y2, y3, y4⟩, ⟨y5, y6, y7, y8⟩, ⟨y9, y10⟩, ⟨y11, y12⟩⟩, y13, y14⟩ h; simp [impl_partOf_e] at h; simp [h]
@[simp] theorem impl_partOf_k (z0 : Int) (z1 : Int) (z2 : Int) (z3 : Int) (z4 : Int) (z5 : Int) (z6 : Int) (z7 : Int) (z8 : Int) (z9 : Int) (z10 : Int) (z11 : Int) (z12 : Int) (z13 : Int) (z14 : Int) : impl_partOf_x [AV.agg [AV.int .i64 z0, AV.int .i64 z1, AV.int .i64 z2, AV.int .i64 z3, AV.int .i64 z4, AV.int .i64 z5, AV.int .i64 z6, AV.int .i64 z7, AV.int .i64 z8, AV.int .i64 z9, AV.int .i64 z10, AV.int .i64 z11, AV.int .i64 z12], AV.int .i64 z13, AV.int .i64 z14] [] = mapR (impl_partOf ⟨z0, ⟨z1, z2, z3, z4⟩, ⟨z5, z6, z7, z8⟩, ⟨z9, z10⟩, ⟨z11, z12⟩⟩ z13 z14) (fun r => (AV.int .i64 r, [])) :=
  xOf_eq impl_partOf_i (⟨z0, ⟨z1, z2, z3, z4⟩, ⟨z5, z6, z7, z8⟩, ⟨z9, z10⟩, ⟨z11, z12⟩⟩, z13, z14)
/-! impl_ColorAt_1: function 230 -/
noncomputable def impl_ColorAt_1 (a0 : Int) (a1 : Int) (a2 : Int) : Option ((Int)) :=
  bnd (impl_RoundDiv (IntKind.i64.wrap ((IntKind.i64.wrap ((IntKind.i64.wrap (256 - a2)) * a0)) + (IntKind.i64.wrap (a2 * a1)))) 256) fun v1 =>
  some v1
noncomputable def impl_ColorAt_1_e (q : (Int) × (Int) × (Int)) : List AV × List Ob := ([AV.int .i64 q.1, AV.int .i64 q.2.1, AV.fptr [AV.int .i64 q.2.2] 0], [])
noncomputable def impl_ColorAt_1_v (q : (Int) × (Int) × (Int)) (r : (Int)) : AV × List Ob := (AV.int .i64 r, [])
noncomputable def impl_ColorAt_1_x : List AV → List Ob → Option (AV × List Ob) := xOf impl_ColorAt_1_e (fun q => impl_ColorAt_1 q.1 q.2.1 q.2.2) impl_ColorAt_1_v
theorem impl_ColorAt_1_i : ∀ a b, impl_ColorAt_1_e a = impl_ColorAt_1_e b → a = b := by rintro ⟨x0, x1, x2⟩ ⟨y0, y1, y2⟩ h; simp [impl_ColorAt_1_e] at h; simp [h]
@[simp] theorem impl_ColorAt_1_k (z0 : Int) (z1 : Int) (z2 : Int) : impl_ColorAt_1_x [AV.int .i64 z0, AV.int .i64 z1, AV.fptr [AV.int .i64 z2] 0] [] = mapR (impl_ColorAt_1 z0 z1 z2) (fun r => (AV.int .i64 r, [])) :=
  xOf_eq impl_ColorAt_1_i (z0, z1, z2)
/-! impl_each_ColorAt_1: function 174 -/
noncomputable def impl_each_ColorAt_1 (a0 : TColor) (a1 : TColor) (a2 : Int) : Option ((TColor)) :=
  bnd (impl_ColorAt_1 a0.r a1.r a2) fun v1 =>
  bnd (impl_ColorAt_1 a0.g a1.g a2) fun v2 =>
  bnd (impl_ColorAt_1 a0.b a1.b a2) fun v3 =>
  bnd (impl_ColorAt_1 a0.a a1.a a2) fun v4 =>
  some (TColor.mk v1 v2 v3 v4)
noncomputable def impl_each_ColorAt_1_e (q : (TColor) × (TColor) × (Int)) : List AV × List Ob := ([AV.agg [AV.int .i64 q.1.r, AV.int .i64 q.1.g, AV.int .i64 q.1.b, AV.int .i64 q.1.a], AV.agg [AV.int .i64 q.2.1.r, AV.int .i64 q.2.1.g, AV.int .i64 q.2.1.b, AV.int .i64 q.2.1.a], AV.func (.func 230) [] [AV.fptr [AV.int .i64 q.2.2] 0]], [])
noncomputable def impl_each_ColorAt_1_v (q : (TColor) × (TColor) × (Int)) (r : (TColor)) : AV × List Ob := (AV.agg [AV.int .i64 r.r, AV.int .i64 r.g, AV.int .i64 r.b, AV.int .i64 r.a], [])
noncomputable def impl_each_ColorAt_1_x : List AV → List Ob → Option (AV × List Ob) := xOf impl_each_ColorAt_1_e (fun q => impl_each_ColorAt_1 q.1 q.2.1 q.2.2) impl_each_ColorAt_1_v
theorem impl_each_ColorAt_1_i : ∀ a b, impl_each_ColorAt_1_e a = impl_each_ColorAt_1_e b → a = b := by rintro ⟨⟨x0, x1, x2, x3⟩, ⟨x4, x5, x6, x7⟩, x8⟩ ⟨⟨y0, y1, y2, y3⟩, ⟨y4, y5, y6, y7⟩, y8⟩ h; simp [impl_each_ColorAt_1_e] at h; simp [h]
@[simp] theorem impl_each_ColorAt_1_k (z0 : Int) (z1 : Int) (z2 : Int) (z3 : Int) (z4 : Int) (z5 : Int) (z6 : Int) (z7 : Int) (z8 : Int) : impl_each_ColorAt_1_x [AV.agg [AV.int .i64 z0, AV.int .i64 z1, AV.int .i64 z2, AV.int .i64 z3], AV.agg [AV.int .i64 z4, AV.int .i64 z5, AV.int .i64 z6, AV.int .i64 z7], AV.func (.func 230) [] [AV.fptr [AV.int .i64 z8] 0]] [] = mapR (impl_each_ColorAt_1 ⟨z0, z1, z2, z3⟩ ⟨z4, z5, z6, z7⟩ z8) (fun r => (AV.agg [AV.int .i64 r.r, AV.int .i64 r.g, AV.int .i64 r.b, AV.int .i64 r.a], [])) :=
  xOf_eq impl_each_ColorAt_1_i (⟨z0, z1, z2, z3⟩, ⟨z4, z5, z6, z7⟩, z8)
/-! impl_ColorAt: function 190 -/
noncomputable def impl_ColorAt (a0 : TPaint) (a1 : Int) (a2 : Int) : Option ((TColor)) :=
  bnd (impl_PaintOk a0) fun v1 =>
  cnd v1 (
   cnd (ieq a0.kind 1) (
    bnd (impl_Laid a0.first) fun v2 =>
    some v2) (
    bnd (impl_partOf a0 a1 a2) fun v3 =>
    bnd (impl_each_ColorAt_1 a0.first a0.last v3) fun v4 =>
    bnd (impl_Laid v4) fun v5 =>
    some v5)) (
   some (TColor.mk 0 0 0 0))
noncomputable def impl_ColorAt_e (q : (TPaint) × (Int) × (Int)) : List AV × List Ob := ([AV.agg [AV.int .i64 q.1.kind, AV.int .i64 q.1.first.r, AV.int .i64 q.1.first.g, AV.int .i64 q.1.first.b, AV.int .i64 q.1.first.a, AV.int .i64 q.1.last.r, AV.int .i64 q.1.last.g, AV.int .i64 q.1.last.b, AV.int .i64 q.1.last.a, AV.int .i64 q.1.from_.x, AV.int .i64 q.1.from_.y, AV.int .i64 q.1.to.x, AV.int .i64 q.1.to.y], AV.int .i64 q.2.1, AV.int .i64 q.2.2], [])
noncomputable def impl_ColorAt_v (q : (TPaint) × (Int) × (Int)) (r : (TColor)) : AV × List Ob := (AV.agg [AV.int .i64 r.r, AV.int .i64 r.g, AV.int .i64 r.b, AV.int .i64 r.a], [])
noncomputable def impl_ColorAt_x : List AV → List Ob → Option (AV × List Ob) := xOf impl_ColorAt_e (fun q => impl_ColorAt q.1 q.2.1 q.2.2) impl_ColorAt_v
theorem impl_ColorAt_i : ∀ a b, impl_ColorAt_e a = impl_ColorAt_e b → a = b := by rintro ⟨⟨x0, ⟨x1, x2, x3, x4⟩, ⟨x5, x6, x7, x8⟩, ⟨x9, x10⟩, ⟨x11, x12⟩⟩, x13, x14⟩ ⟨⟨y0, ⟨y1, y2, y3, y4⟩, ⟨y5, y6, y7, y8⟩, ⟨y9, y10⟩, ⟨y11, y12⟩⟩, y13, y14⟩ h; simp [impl_ColorAt_e] at h; simp [h]
@[simp] theorem impl_ColorAt_k (z0 : Int) (z1 : Int) (z2 : Int) (z3 : Int) (z4 : Int) (z5 : Int) (z6 : Int) (z7 : Int) (z8 : Int) (z9 : Int) (z10 : Int) (z11 : Int) (z12 : Int) (z13 : Int) (z14 : Int) : impl_ColorAt_x [AV.agg [AV.int .i64 z0, AV.int .i64 z1, AV.int .i64 z2, AV.int .i64 z3, AV.int .i64 z4, AV.int .i64 z5, AV.int .i64 z6, AV.int .i64 z7, AV.int .i64 z8, AV.int .i64 z9, AV.int .i64 z10, AV.int .i64 z11, AV.int .i64 z12], AV.int .i64 z13, AV.int .i64 z14] [] = mapR (impl_ColorAt ⟨z0, ⟨z1, z2, z3, z4⟩, ⟨z5, z6, z7, z8⟩, ⟨z9, z10⟩, ⟨z11, z12⟩⟩ z13 z14) (fun r => (AV.agg [AV.int .i64 r.r, AV.int .i64 r.g, AV.int .i64 r.b, AV.int .i64 r.a], [])) :=
  xOf_eq impl_ColorAt_i (⟨z0, ⟨z1, z2, z3, z4⟩, ⟨z5, z6, z7, z8⟩, ⟨z9, z10⟩, ⟨z11, z12⟩⟩, z13, z14)
/-! impl_CountOf: function 191 -/
noncomputable def impl_CountOf (a0 : Int) : Option ((Int)) :=
  bnd (impl_inRange a0 0 15) fun v1 =>
  cnd v1 (
   some (IntKind.i64.wrap ((IntKind.i64.wrap ((IntKind.i64.wrap ((andI .i64 a0 1) + (andI .i64 (shrI .i64 a0 1) 1))) + (andI .i64 (shrI .i64 a0 2) 1))) + (shrI .i64 a0 3)))) (
   some 0)
noncomputable def impl_CountOf_e (q : (Int)) : List AV × List Ob := ([AV.int .i64 q], [])
noncomputable def impl_CountOf_v (q : (Int)) (r : (Int)) : AV × List Ob := (AV.int .i64 r, [])
noncomputable def impl_CountOf_x : List AV → List Ob → Option (AV × List Ob) := xOf impl_CountOf_e (fun q => impl_CountOf q) impl_CountOf_v
theorem impl_CountOf_i : ∀ a b, impl_CountOf_e a = impl_CountOf_e b → a = b := by rintro x0 y0 h; simp [impl_CountOf_e] at h; simp [h]
@[simp] theorem impl_CountOf_k (z0 : Int) : impl_CountOf_x [AV.int .i64 z0] [] = mapR (impl_CountOf z0) (fun r => (AV.int .i64 r, [])) :=
  xOf_eq impl_CountOf_i z0
/-! impl_Thin_1: function 227 -/
noncomputable def impl_Thin_1 (a0 : Int) (a1 : Int) (a2 : Int) : Option ((Int)) :=
  bnd (impl_RoundDiv (IntKind.i64.wrap (a0 * a2)) 4) fun v1 =>
  some v1
noncomputable def impl_Thin_1_e (q : (Int) × (Int) × (Int)) : List AV × List Ob := ([AV.int .i64 q.1, AV.int .i64 q.2.1, AV.fptr [AV.int .i64 q.2.2] 0], [])
noncomputable def impl_Thin_1_v (q : (Int) × (Int) × (Int)) (r : (Int)) : AV × List Ob := (AV.int .i64 r, [])
noncomputable def impl_Thin_1_x : List AV → List Ob → Option (AV × List Ob) := xOf impl_Thin_1_e (fun q => impl_Thin_1 q.1 q.2.1 q.2.2) impl_Thin_1_v
theorem impl_Thin_1_i : ∀ a b, impl_Thin_1_e a = impl_Thin_1_e b → a = b := by rintro ⟨x0, x1, x2⟩ ⟨y0, y1, y2⟩ h; simp [impl_Thin_1_e] at h; simp [h]
@[simp] theorem impl_Thin_1_k (z0 : Int) (z1 : Int) (z2 : Int) : impl_Thin_1_x [AV.int .i64 z0, AV.int .i64 z1, AV.fptr [AV.int .i64 z2] 0] [] = mapR (impl_Thin_1 z0 z1 z2) (fun r => (AV.int .i64 r, [])) :=
  xOf_eq impl_Thin_1_i (z0, z1, z2)
/-! impl_each_Thin_1: function 174 -/
noncomputable def impl_each_Thin_1 (a0 : TColor) (a1 : TColor) (a2 : Int) : Option ((TColor)) :=
  bnd (impl_Thin_1 a0.r a1.r a2) fun v1 =>
  bnd (impl_Thin_1 a0.g a1.g a2) fun v2 =>
  bnd (impl_Thin_1 a0.b a1.b a2) fun v3 =>
  bnd (impl_Thin_1 a0.a a1.a a2) fun v4 =>
  some (TColor.mk v1 v2 v3 v4)
noncomputable def impl_each_Thin_1_e (q : (TColor) × (TColor) × (Int)) : List AV × List Ob := ([AV.agg [AV.int .i64 q.1.r, AV.int .i64 q.1.g, AV.int .i64 q.1.b, AV.int .i64 q.1.a], AV.agg [AV.int .i64 q.2.1.r, AV.int .i64 q.2.1.g, AV.int .i64 q.2.1.b, AV.int .i64 q.2.1.a], AV.func (.func 227) [] [AV.fptr [AV.int .i64 q.2.2] 0]], [])
noncomputable def impl_each_Thin_1_v (q : (TColor) × (TColor) × (Int)) (r : (TColor)) : AV × List Ob := (AV.agg [AV.int .i64 r.r, AV.int .i64 r.g, AV.int .i64 r.b, AV.int .i64 r.a], [])
noncomputable def impl_each_Thin_1_x : List AV → List Ob → Option (AV × List Ob) := xOf impl_each_Thin_1_e (fun q => impl_each_Thin_1 q.1 q.2.1 q.2.2) impl_each_Thin_1_v
theorem impl_each_Thin_1_i : ∀ a b, impl_each_Thin_1_e a = impl_each_Thin_1_e b → a = b := by rintro ⟨⟨x0, x1, x2, x3⟩, ⟨x4, x5, x6, x7⟩, x8⟩ ⟨⟨y0, y1, y2, y3⟩, ⟨y4, y5, y6, y7⟩, y8⟩ h; simp [impl_each_Thin_1_e] at h; simp [h]
@[simp] theorem impl_each_Thin_1_k (z0 : Int) (z1 : Int) (z2 : Int) (z3 : Int) (z4 : Int) (z5 : Int) (z6 : Int) (z7 : Int) (z8 : Int) : impl_each_Thin_1_x [AV.agg [AV.int .i64 z0, AV.int .i64 z1, AV.int .i64 z2, AV.int .i64 z3], AV.agg [AV.int .i64 z4, AV.int .i64 z5, AV.int .i64 z6, AV.int .i64 z7], AV.func (.func 227) [] [AV.fptr [AV.int .i64 z8] 0]] [] = mapR (impl_each_Thin_1 ⟨z0, z1, z2, z3⟩ ⟨z4, z5, z6, z7⟩ z8) (fun r => (AV.agg [AV.int .i64 r.r, AV.int .i64 r.g, AV.int .i64 r.b, AV.int .i64 r.a], [])) :=
  xOf_eq impl_each_Thin_1_i (⟨z0, z1, z2, z3⟩, ⟨z4, z5, z6, z7⟩, z8)
/-! impl_Thin: function 189 -/
noncomputable def impl_Thin (a0 : TColor) (a1 : Int) : Option ((TColor)) :=
  bnd (impl_inRange a1 0 4) fun v1 =>
  cnd v1 (
   bnd (impl_LaidOk a0) fun v2 =>
   cnd v2 (
    bnd (impl_each_Thin_1 a0 a0 a1) fun v3 =>
    some v3) (
    some (TColor.mk 0 0 0 0))) (
   some (TColor.mk 0 0 0 0))
noncomputable def impl_Thin_e (q : (TColor) × (Int)) : List AV × List Ob := ([AV.agg [AV.int .i64 q.1.r, AV.int .i64 q.1.g, AV.int .i64 q.1.b, AV.int .i64 q.1.a], AV.int .i64 q.2], [])
noncomputable def impl_Thin_v (q : (TColor) × (Int)) (r : (TColor)) : AV × List Ob := (AV.agg [AV.int .i64 r.r, AV.int .i64 r.g, AV.int .i64 r.b, AV.int .i64 r.a], [])
noncomputable def impl_Thin_x : List AV → List Ob → Option (AV × List Ob) := xOf impl_Thin_e (fun q => impl_Thin q.1 q.2) impl_Thin_v
theorem impl_Thin_i : ∀ a b, impl_Thin_e a = impl_Thin_e b → a = b := by rintro ⟨⟨x0, x1, x2, x3⟩, x4⟩ ⟨⟨y0, y1, y2, y3⟩, y4⟩ h; simp [impl_Thin_e] at h; simp [h]
@[simp] theorem impl_Thin_k (z0 : Int) (z1 : Int) (z2 : Int) (z3 : Int) (z4 : Int) : impl_Thin_x [AV.agg [AV.int .i64 z0, AV.int .i64 z1, AV.int .i64 z2, AV.int .i64 z3], AV.int .i64 z4] [] = mapR (impl_Thin ⟨z0, z1, z2, z3⟩ z4) (fun r => (AV.agg [AV.int .i64 r.r, AV.int .i64 r.g, AV.int .i64 r.b, AV.int .i64 r.a], [])) :=
  xOf_eq impl_Thin_i (⟨z0, z1, z2, z3⟩, z4)
/-! impl_Fade_1: function 179 -/
noncomputable def impl_Fade_1 (a0 : Int) (a1 : Int) (a2 : Int) : Option ((Int)) :=
  bnd (impl_Times255 a0 a2) fun v1 =>
  some v1
noncomputable def impl_Fade_1_e (q : (Int) × (Int) × (Int)) : List AV × List Ob := ([AV.int .i64 q.1, AV.int .i64 q.2.1, AV.fptr [AV.int .i64 q.2.2] 0], [])
noncomputable def impl_Fade_1_v (q : (Int) × (Int) × (Int)) (r : (Int)) : AV × List Ob := (AV.int .i64 r, [])
noncomputable def impl_Fade_1_x : List AV → List Ob → Option (AV × List Ob) := xOf impl_Fade_1_e (fun q => impl_Fade_1 q.1 q.2.1 q.2.2) impl_Fade_1_v
theorem impl_Fade_1_i : ∀ a b, impl_Fade_1_e a = impl_Fade_1_e b → a = b := by rintro ⟨x0, x1, x2⟩ ⟨y0, y1, y2⟩ h; simp [impl_Fade_1_e] at h; simp [h]
@[simp] theorem impl_Fade_1_k (z0 : Int) (z1 : Int) (z2 : Int) : impl_Fade_1_x [AV.int .i64 z0, AV.int .i64 z1, AV.fptr [AV.int .i64 z2] 0] [] = mapR (impl_Fade_1 z0 z1 z2) (fun r => (AV.int .i64 r, [])) :=
  xOf_eq impl_Fade_1_i (z0, z1, z2)
/-! impl_each_Fade_1: function 174 -/
noncomputable def impl_each_Fade_1 (a0 : TColor) (a1 : TColor) (a2 : Int) : Option ((TColor)) :=
  bnd (impl_Fade_1 a0.r a1.r a2) fun v1 =>
  bnd (impl_Fade_1 a0.g a1.g a2) fun v2 =>
  bnd (impl_Fade_1 a0.b a1.b a2) fun v3 =>
  bnd (impl_Fade_1 a0.a a1.a a2) fun v4 =>
  some (TColor.mk v1 v2 v3 v4)
noncomputable def impl_each_Fade_1_e (q : (TColor) × (TColor) × (Int)) : List AV × List Ob := ([AV.agg [AV.int .i64 q.1.r, AV.int .i64 q.1.g, AV.int .i64 q.1.b, AV.int .i64 q.1.a], AV.agg [AV.int .i64 q.2.1.r, AV.int .i64 q.2.1.g, AV.int .i64 q.2.1.b, AV.int .i64 q.2.1.a], AV.func (.func 179) [] [AV.fptr [AV.int .i64 q.2.2] 0]], [])
noncomputable def impl_each_Fade_1_v (q : (TColor) × (TColor) × (Int)) (r : (TColor)) : AV × List Ob := (AV.agg [AV.int .i64 r.r, AV.int .i64 r.g, AV.int .i64 r.b, AV.int .i64 r.a], [])
noncomputable def impl_each_Fade_1_x : List AV → List Ob → Option (AV × List Ob) := xOf impl_each_Fade_1_e (fun q => impl_each_Fade_1 q.1 q.2.1 q.2.2) impl_each_Fade_1_v
theorem impl_each_Fade_1_i : ∀ a b, impl_each_Fade_1_e a = impl_each_Fade_1_e b → a = b := by rintro ⟨⟨x0, x1, x2, x3⟩, ⟨x4, x5, x6, x7⟩, x8⟩ ⟨⟨y0, y1, y2, y3⟩, ⟨y4, y5, y6, y7⟩, y8⟩ h; simp [impl_each_Fade_1_e] at h; simp [h]
@[simp] theorem impl_each_Fade_1_k (z0 : Int) (z1 : Int) (z2 : Int) (z3 : Int) (z4 : Int) (z5 : Int) (z6 : Int) (z7 : Int) (z8 : Int) : impl_each_Fade_1_x [AV.agg [AV.int .i64 z0, AV.int .i64 z1, AV.int .i64 z2, AV.int .i64 z3], AV.agg [AV.int .i64 z4, AV.int .i64 z5, AV.int .i64 z6, AV.int .i64 z7], AV.func (.func 179) [] [AV.fptr [AV.int .i64 z8] 0]] [] = mapR (impl_each_Fade_1 ⟨z0, z1, z2, z3⟩ ⟨z4, z5, z6, z7⟩ z8) (fun r => (AV.agg [AV.int .i64 r.r, AV.int .i64 r.g, AV.int .i64 r.b, AV.int .i64 r.a], [])) :=
  xOf_eq impl_each_Fade_1_i (⟨z0, z1, z2, z3⟩, ⟨z4, z5, z6, z7⟩, z8)
/-! impl_Fade: function 108 -/
noncomputable def impl_Fade (a0 : TColor) (a1 : Int) : Option ((TColor)) :=
  bnd (impl_isByte a1) fun v1 =>
  cnd v1 (
   bnd (impl_LaidOk a0) fun v2 =>
   cnd v2 (
    bnd (impl_each_Fade_1 a0 a0 a1) fun v3 =>
    some v3) (
    some (TColor.mk 0 0 0 0))) (
   some (TColor.mk 0 0 0 0))
noncomputable def impl_Fade_e (q : (TColor) × (Int)) : List AV × List Ob := ([AV.agg [AV.int .i64 q.1.r, AV.int .i64 q.1.g, AV.int .i64 q.1.b, AV.int .i64 q.1.a], AV.int .i64 q.2], [])
noncomputable def impl_Fade_v (q : (TColor) × (Int)) (r : (TColor)) : AV × List Ob := (AV.agg [AV.int .i64 r.r, AV.int .i64 r.g, AV.int .i64 r.b, AV.int .i64 r.a], [])
noncomputable def impl_Fade_x : List AV → List Ob → Option (AV × List Ob) := xOf impl_Fade_e (fun q => impl_Fade q.1 q.2) impl_Fade_v
theorem impl_Fade_i : ∀ a b, impl_Fade_e a = impl_Fade_e b → a = b := by rintro ⟨⟨x0, x1, x2, x3⟩, x4⟩ ⟨⟨y0, y1, y2, y3⟩, y4⟩ h; simp [impl_Fade_e] at h; simp [h]
@[simp] theorem impl_Fade_k (z0 : Int) (z1 : Int) (z2 : Int) (z3 : Int) (z4 : Int) : impl_Fade_x [AV.agg [AV.int .i64 z0, AV.int .i64 z1, AV.int .i64 z2, AV.int .i64 z3], AV.int .i64 z4] [] = mapR (impl_Fade ⟨z0, z1, z2, z3⟩ z4) (fun r => (AV.agg [AV.int .i64 r.r, AV.int .i64 r.g, AV.int .i64 r.b, AV.int .i64 r.a], [])) :=
  xOf_eq impl_Fade_i (⟨z0, z1, z2, z3⟩, z4)
/-! impl_inked: function 119 -/
noncomputable def impl_inked (a0 : TPaint) (a1 : Int) (a2 : Int) (a3 : Int) (a4 : Int) : Option ((TColor)) :=
  bnd (impl_ColorAt a0 a2 a3) fun v1 =>
  bnd (impl_CountOf a1) fun v2 =>
  bnd (impl_Thin v1 v2) fun v3 =>
  bnd (impl_Fade v3 a4) fun v4 =>
  some v4
noncomputable def impl_inked_e (q : (TPaint) × (Int) × (Int) × (Int) × (Int)) : List AV × List Ob := ([AV.agg [AV.int .i64 q.1.kind, AV.int .i64 q.1.first.r, AV.int .i64 q.1.first.g, AV.int .i64 q.1.first.b, AV.int .i64 q.1.first.a, AV.int .i64 q.1.last.r, AV.int .i64 q.1.last.g, AV.int .i64 q.1.last.b, AV.int .i64 q.1.last.a, AV.int .i64 q.1.from_.x, AV.int .i64 q.1.from_.y, AV.int .i64 q.1.to.x, AV.int .i64 q.1.to.y], AV.int .i64 q.2.1, AV.int .i64 q.2.2.1, AV.int .i64 q.2.2.2.1, AV.int .i64 q.2.2.2.2], [])
noncomputable def impl_inked_v (q : (TPaint) × (Int) × (Int) × (Int) × (Int)) (r : (TColor)) : AV × List Ob := (AV.agg [AV.int .i64 r.r, AV.int .i64 r.g, AV.int .i64 r.b, AV.int .i64 r.a], [])
noncomputable def impl_inked_x : List AV → List Ob → Option (AV × List Ob) := xOf impl_inked_e (fun q => impl_inked q.1 q.2.1 q.2.2.1 q.2.2.2.1 q.2.2.2.2) impl_inked_v
theorem impl_inked_i : ∀ a b, impl_inked_e a = impl_inked_e b → a = b := by rintro ⟨⟨x0, ⟨x1, x2, x3, x4⟩, ⟨x5, x6, x7, x8⟩, ⟨x9, x10⟩, ⟨x11, x12⟩⟩, x13, x14, x15, x16⟩ ⟨⟨y0, ⟨y1, y2, y3, y4⟩, ⟨y5, y6, y7, y8⟩, ⟨y9, y10⟩, ⟨y11, y12⟩⟩, y13, y14, y15, y16⟩ h; simp [impl_inked_e] at h; simp [h]
@[simp] theorem impl_inked_k (z0 : Int) (z1 : Int) (z2 : Int) (z3 : Int) (z4 : Int) (z5 : Int) (z6 : Int) (z7 : Int) (z8 : Int) (z9 : Int) (z10 : Int) (z11 : Int) (z12 : Int) (z13 : Int) (z14 : Int) (z15 : Int) (z16 : Int) : impl_inked_x [AV.agg [AV.int .i64 z0, AV.int .i64 z1, AV.int .i64 z2, AV.int .i64 z3, AV.int .i64 z4, AV.int .i64 z5, AV.int .i64 z6, AV.int .i64 z7, AV.int .i64 z8, AV.int .i64 z9, AV.int .i64 z10, AV.int .i64 z11, AV.int .i64 z12], AV.int .i64 z13, AV.int .i64 z14, AV.int .i64 z15, AV.int .i64 z16] [] = mapR (impl_inked ⟨z0, ⟨z1, z2, z3, z4⟩, ⟨z5, z6, z7, z8⟩, ⟨z9, z10⟩, ⟨z11, z12⟩⟩ z13 z14 z15 z16) (fun r => (AV.agg [AV.int .i64 r.r, AV.int .i64 r.g, AV.int .i64 r.b, AV.int .i64 r.a], [])) :=
  xOf_eq impl_inked_i (⟨z0, ⟨z1, z2, z3, z4⟩, ⟨z5, z6, z7, z8⟩, ⟨z9, z10⟩, ⟨z11, z12⟩⟩, z13, z14, z15, z16)
/-! impl_isMode: function 173 -/
noncomputable def impl_isMode (a0 : Int) : Option ((Bool)) :=
  bnd (impl_inRange a0 1 5) fun v1 =>
  some v1
noncomputable def impl_isMode_e (q : (Int)) : List AV × List Ob := ([AV.int .i64 q], [])
noncomputable def impl_isMode_v (q : (Int)) (r : (Bool)) : AV × List Ob := (AV.bool r, [])
noncomputable def impl_isMode_x : List AV → List Ob → Option (AV × List Ob) := xOf impl_isMode_e (fun q => impl_isMode q) impl_isMode_v
theorem impl_isMode_i : ∀ a b, impl_isMode_e a = impl_isMode_e b → a = b := by rintro x0 y0 h; simp [impl_isMode_e] at h; simp [h]
@[simp] theorem impl_isMode_k (z0 : Int) : impl_isMode_x [AV.int .i64 z0] [] = mapR (impl_isMode z0) (fun r => (AV.bool r, [])) :=
  xOf_eq impl_isMode_i z0
/-! impl_Blend_1: function 175 -/
noncomputable def impl_Blend_1 (a0 : Int) (a1 : Int) (a2 : Int) (a3 : Int) (a4 : Int) : Option ((Int)) :=
  bnd (impl_Times255 a1 a2) fun v1 =>
  cnd (ieq a3 1) (
   some (min (IntKind.i64.wrap (v1 + a0)) 255)) (
   cnd (ieq a3 2) (
    bnd (impl_RoundDiv (IntKind.i64.wrap ((IntKind.i64.wrap ((IntKind.i64.wrap (a0 * a1)) + (IntKind.i64.wrap (a0 * a4)))) + (IntKind.i64.wrap (a1 * a2)))) 255) fun v2 =>
    some (min v2 255)) (
    cnd (ieq a3 3) (
     bnd (impl_RoundDiv (IntKind.i64.wrap (a0 * a1)) 255) fun v3 =>
     some (min (IntKind.i64.wrap ((IntKind.i64.wrap (a0 + a1)) - v3)) 255)) (
     cnd (ieq a3 4) (
      some (min (IntKind.i64.wrap (a0 + a1)) 255)) (
      some (min v1 255)))))
noncomputable def impl_Blend_1_e (q : (Int) × (Int) × (Int) × (Int) × (Int)) : List AV × List Ob := ([AV.int .i64 q.1, AV.int .i64 q.2.1, AV.fptr [AV.int .i64 q.2.2.1] 0, AV.fptr [AV.int .i64 q.2.2.2.1] 0, AV.fptr [AV.int .i64 q.2.2.2.2] 0], [])
noncomputable def impl_Blend_1_v (q : (Int) × (Int) × (Int) × (Int) × (Int)) (r : (Int)) : AV × List Ob := (AV.int .i64 r, [])
noncomputable def impl_Blend_1_x : List AV → List Ob → Option (AV × List Ob) := xOf impl_Blend_1_e (fun q => impl_Blend_1 q.1 q.2.1 q.2.2.1 q.2.2.2.1 q.2.2.2.2) impl_Blend_1_v
theorem impl_Blend_1_i : ∀ a b, impl_Blend_1_e a = impl_Blend_1_e b → a = b := by rintro ⟨x0, x1, x2, x3, x4⟩ ⟨y0, y1, y2, y3, y4⟩ h; simp [impl_Blend_1_e] at h; simp [h]
@[simp] theorem impl_Blend_1_k (z0 : Int) (z1 : Int) (z2 : Int) (z3 : Int) (z4 : Int) : impl_Blend_1_x [AV.int .i64 z0, AV.int .i64 z1, AV.fptr [AV.int .i64 z2] 0, AV.fptr [AV.int .i64 z3] 0, AV.fptr [AV.int .i64 z4] 0] [] = mapR (impl_Blend_1 z0 z1 z2 z3 z4) (fun r => (AV.int .i64 r, [])) :=
  xOf_eq impl_Blend_1_i (z0, z1, z2, z3, z4)
/-! impl_each_Blend_1: function 174 -/
noncomputable def impl_each_Blend_1 (a0 : TColor) (a1 : TColor) (a2 : Int) (a3 : Int) (a4 : Int) : Option ((TColor)) :=
  bnd (impl_Blend_1 a0.r a1.r a2 a3 a4) fun v1 =>
  bnd (impl_Blend_1 a0.g a1.g a2 a3 a4) fun v2 =>
  bnd (impl_Blend_1 a0.b a1.b a2 a3 a4) fun v3 =>
  bnd (impl_Blend_1 a0.a a1.a a2 a3 a4) fun v4 =>
  some (TColor.mk v1 v2 v3 v4)
noncomputable def impl_each_Blend_1_e (q : (TColor) × (TColor) × (Int) × (Int) × (Int)) : List AV × List Ob := ([AV.agg [AV.int .i64 q.1.r, AV.int .i64 q.1.g, AV.int .i64 q.1.b, AV.int .i64 q.1.a], AV.agg [AV.int .i64 q.2.1.r, AV.int .i64 q.2.1.g, AV.int .i64 q.2.1.b, AV.int .i64 q.2.1.a], AV.func (.func 175) [] [AV.fptr [AV.int .i64 q.2.2.1] 0, AV.fptr [AV.int .i64 q.2.2.2.1] 0, AV.fptr [AV.int .i64 q.2.2.2.2] 0]], [])
noncomputable def impl_each_Blend_1_v (q : (TColor) × (TColor) × (Int) × (Int) × (Int)) (r : (TColor)) : AV × List Ob := (AV.agg [AV.int .i64 r.r, AV.int .i64 r.g, AV.int .i64 r.b, AV.int .i64 r.a], [])
noncomputable def impl_each_Blend_1_x : List AV → List Ob → Option (AV × List Ob) := xOf impl_each_Blend_1_e (fun q => impl_each_Blend_1 q.1 q.2.1 q.2.2.1 q.2.2.2.1 q.2.2.2.2) impl_each_Blend_1_v
theorem impl_each_Blend_1_i : ∀ a b, impl_each_Blend_1_e a = impl_each_Blend_1_e b → a = b := by rintro ⟨⟨x0, x1, x2, x3⟩, ⟨x4, x5, x6, x7⟩, x8, x9, x10⟩ ⟨⟨y0, y1, y2, y3⟩, ⟨y4, y5, y6, y7⟩, y8, y9, y10⟩ h; simp [impl_each_Blend_1_e] at h; simp [h]
@[simp] theorem impl_each_Blend_1_k (z0 : Int) (z1 : Int) (z2 : Int) (z3 : Int) (z4 : Int) (z5 : Int) (z6 : Int) (z7 : Int) (z8 : Int) (z9 : Int) (z10 : Int) : impl_each_Blend_1_x [AV.agg [AV.int .i64 z0, AV.int .i64 z1, AV.int .i64 z2, AV.int .i64 z3], AV.agg [AV.int .i64 z4, AV.int .i64 z5, AV.int .i64 z6, AV.int .i64 z7], AV.func (.func 175) [] [AV.fptr [AV.int .i64 z8] 0, AV.fptr [AV.int .i64 z9] 0, AV.fptr [AV.int .i64 z10] 0]] [] = mapR (impl_each_Blend_1 ⟨z0, z1, z2, z3⟩ ⟨z4, z5, z6, z7⟩ z8 z9 z10) (fun r => (AV.agg [AV.int .i64 r.r, AV.int .i64 r.g, AV.int .i64 r.b, AV.int .i64 r.a], [])) :=
  xOf_eq impl_each_Blend_1_i (⟨z0, z1, z2, z3⟩, ⟨z4, z5, z6, z7⟩, z8, z9, z10)
/-! impl_Blend: function 107 -/
noncomputable def impl_Blend (a0 : Int) (a1 : TColor) (a2 : TColor) : Option ((TColor)) :=
  bnd (impl_isMode a0) fun v1 =>
  cnd v1 (
   bnd (impl_LaidOk a1) fun v2 =>
   cnd v2 (
    bnd (impl_LaidOk a2) fun v3 =>
    cnd v3 (
     bnd (impl_each_Blend_1 a1 a2 (IntKind.i64.wrap (255 - a1.a)) a0 (IntKind.i64.wrap (255 - a2.a))) fun v4 =>
     some v4) (
     some a2)) (
    some a2)) (
   some a2)
noncomputable def impl_Blend_e (q : (Int) × (TColor) × (TColor)) : List AV × List Ob := ([AV.int .i64 q.1, AV.agg [AV.int .i64 q.2.1.r, AV.int .i64 q.2.1.g, AV.int .i64 q.2.1.b, AV.int .i64 q.2.1.a], AV.agg [AV.int .i64 q.2.2.r, AV.int .i64 q.2.2.g, AV.int .i64 q.2.2.b, AV.int .i64 q.2.2.a]], [])
noncomputable def impl_Blend_v (q : (Int) × (TColor) × (TColor)) (r : (TColor)) : AV × List Ob := (AV.agg [AV.int .i64 r.r, AV.int .i64 r.g, AV.int .i64 r.b, AV.int .i64 r.a], [])
noncomputable def impl_Blend_x : List AV → List Ob → Option (AV × List Ob) := xOf impl_Blend_e (fun q => impl_Blend q.1 q.2.1 q.2.2) impl_Blend_v
theorem impl_Blend_i : ∀ a b, impl_Blend_e a = impl_Blend_e b → a = b := by rintro ⟨x0, ⟨x1, x2, x3, x4⟩, ⟨x5, x6, x7, x8⟩⟩ ⟨y0, ⟨y1, y2, y3, y4⟩, ⟨y5, y6, y7, y8⟩⟩ h; simp [impl_Blend_e] at h; simp [h]
@[simp] theorem impl_Blend_k (z0 : Int) (z1 : Int) (z2 : Int) (z3 : Int) (z4 : Int) (z5 : Int) (z6 : Int) (z7 : Int) (z8 : Int) : impl_Blend_x [AV.int .i64 z0, AV.agg [AV.int .i64 z1, AV.int .i64 z2, AV.int .i64 z3, AV.int .i64 z4], AV.agg [AV.int .i64 z5, AV.int .i64 z6, AV.int .i64 z7, AV.int .i64 z8]] [] = mapR (impl_Blend z0 ⟨z1, z2, z3, z4⟩ ⟨z5, z6, z7, z8⟩) (fun r => (AV.agg [AV.int .i64 r.r, AV.int .i64 r.g, AV.int .i64 r.b, AV.int .i64 r.a], [])) :=
  xOf_eq impl_Blend_i (z0, ⟨z1, z2, z3, z4⟩, ⟨z5, z6, z7, z8⟩)
/-! impl_PaintMask_1: function 117 -/
noncomputable def impl_PaintMask_1 (a0 : Int) (a1 : Int) (a2 : TColor) (a3 : TMask) (a4 : Int) (a5 : TPaint) (a6 : Int) : Option ((TColor)) :=
  bnd (impl_Mask_bitsAt a3 a0 a1) fun v1 =>
  cnd (ieq v1 0) (
   some a2) (
   bnd (impl_inked a5 v1 a0 a1 a6) fun v2 =>
   bnd (impl_Blend a4 v2 a2) fun v3 =>
   some v3)
noncomputable def impl_PaintMask_1_e (q : (Int) × (Int) × (TColor) × (TMask) × (Int) × (TPaint) × (Int)) : List AV × List Ob := ([AV.int .i64 q.1, AV.int .i64 q.2.1, AV.agg [AV.int .i64 q.2.2.1.r, AV.int .i64 q.2.2.1.g, AV.int .i64 q.2.2.1.b, AV.int .i64 q.2.2.1.a], AV.fptr [AV.int .i64 q.2.2.2.1.box.x0, AV.int .i64 q.2.2.2.1.box.y0, AV.int .i64 q.2.2.2.1.box.x1, AV.int .i64 q.2.2.2.1.box.y1, AV.fsl (List.map (AV.int .i64) q.2.2.2.1.bits)] 0, AV.fptr [AV.int .i64 q.2.2.2.2.1] 0, AV.fptr [AV.int .i64 q.2.2.2.2.2.1.kind, AV.int .i64 q.2.2.2.2.2.1.first.r, AV.int .i64 q.2.2.2.2.2.1.first.g, AV.int .i64 q.2.2.2.2.2.1.first.b, AV.int .i64 q.2.2.2.2.2.1.first.a, AV.int .i64 q.2.2.2.2.2.1.last.r, AV.int .i64 q.2.2.2.2.2.1.last.g, AV.int .i64 q.2.2.2.2.2.1.last.b, AV.int .i64 q.2.2.2.2.2.1.last.a, AV.int .i64 q.2.2.2.2.2.1.from_.x, AV.int .i64 q.2.2.2.2.2.1.from_.y, AV.int .i64 q.2.2.2.2.2.1.to.x, AV.int .i64 q.2.2.2.2.2.1.to.y] 0, AV.fptr [AV.int .i64 q.2.2.2.2.2.2] 0], [])
noncomputable def impl_PaintMask_1_v (q : (Int) × (Int) × (TColor) × (TMask) × (Int) × (TPaint) × (Int)) (r : (TColor)) : AV × List Ob := (AV.agg [AV.int .i64 r.r, AV.int .i64 r.g, AV.int .i64 r.b, AV.int .i64 r.a], [])
noncomputable def impl_PaintMask_1_x : List AV → List Ob → Option (AV × List Ob) := xOf impl_PaintMask_1_e (fun q => impl_PaintMask_1 q.1 q.2.1 q.2.2.1 q.2.2.2.1 q.2.2.2.2.1 q.2.2.2.2.2.1 q.2.2.2.2.2.2) impl_PaintMask_1_v
theorem impl_PaintMask_1_i : ∀ a b, impl_PaintMask_1_e a = impl_PaintMask_1_e b → a = b := by rintro ⟨x0, x1, ⟨x2, x3, x4, x5⟩, ⟨⟨x6, x7, x8, x9⟩, x10⟩, x11, ⟨x12, ⟨x13, x14, x15, x16⟩, ⟨x17, x18, x19, x20⟩, ⟨x21, x22⟩, ⟨x23, x24⟩⟩, x25⟩ ⟨y0, y1, ⟨y2, y3, y4, y5⟩, ⟨⟨y6, y7, y8, y9⟩, y10⟩, y11, ⟨y12, ⟨y13, y14, y15, y16⟩, ⟨y17, y18, y19, y20⟩, ⟨y21, y22⟩, ⟨y23, y24⟩⟩, y25⟩ h; simp [impl_PaintMask_1_e] at h; simp [h]
@[simp] theorem impl_PaintMask_1_k (z0 : Int) (z1 : Int) (z2 : Int) (z3 : Int) (z4 : Int) (z5 : Int) (z6 : Int) (z7 : Int) (z8 : Int) (z9 : Int) (z10 : List Int) (z11 : Int) (z12 : Int) (z13 : Int) (z14 : Int) (z15 : Int) (z16 : Int) (z17 : Int) (z18 : Int) (z19 : Int) (z20 : Int) (z21 : Int) (z22 : Int) (z23 : Int) (z24 : Int) (z25 : Int) : impl_PaintMask_1_x [AV.int .i64 z0, AV.int .i64 z1, AV.agg [AV.int .i64 z2, AV.int .i64 z3, AV.int .i64 z4, AV.int .i64 z5], AV.fptr [AV.int .i64 z6, AV.int .i64 z7, AV.int .i64 z8, AV.int .i64 z9, AV.fsl (List.map (AV.int .i64) z10)] 0, AV.fptr [AV.int .i64 z11] 0, AV.fptr [AV.int .i64 z12, AV.int .i64 z13, AV.int .i64 z14, AV.int .i64 z15, AV.int .i64 z16, AV.int .i64 z17, AV.int .i64 z18, AV.int .i64 z19, AV.int .i64 z20, AV.int .i64 z21, AV.int .i64 z22, AV.int .i64 z23, AV.int .i64 z24] 0, AV.fptr [AV.int .i64 z25] 0] [] = mapR (impl_PaintMask_1 z0 z1 ⟨z2, z3, z4, z5⟩ ⟨⟨z6, z7, z8, z9⟩, z10⟩ z11 ⟨z12, ⟨z13, z14, z15, z16⟩, ⟨z17, z18, z19, z20⟩, ⟨z21, z22⟩, ⟨z23, z24⟩⟩ z25) (fun r => (AV.agg [AV.int .i64 r.r, AV.int .i64 r.g, AV.int .i64 r.b, AV.int .i64 r.a], [])) :=
  xOf_eq impl_PaintMask_1_i (z0, z1, ⟨z2, z3, z4, z5⟩, ⟨⟨z6, z7, z8, z9⟩, z10⟩, z11, ⟨z12, ⟨z13, z14, z15, z16⟩, ⟨z17, z18, z19, z20⟩, ⟨z21, z22⟩, ⟨z23, z24⟩⟩, z25)
/-! impl_Surface_paint_PaintMask_1: function 104 -/
noncomputable def impl_Surface_paint_PaintMask_1_l0 (a1 : Int) (a2 : Int) (a3 : TMask) (a4 : Int) (a5 : TPaint) (a6 : Int) (v2 : TBox) (x12 : Int) : ((Int) × (List TColor)) → Option (((Int) × (List TColor)) ⊕ ((List TColor))) := fun (x17, x18) =>
  cnd (ile v2.x1 x17) (
   some (.inr x18)) (
   bnd (idx x18 (IntKind.i64.wrap ((IntKind.i64.wrap (x12 * a1)) + x17))) fun v19 =>
   bnd (impl_PaintMask_1 x17 x12 v19 a3 a4 a5 a6) fun v20 =>
   nam ((List.set x18 (Int.toNat (IntKind.i64.wrap ((IntKind.i64.wrap (x12 * a1)) + x17))) v20) : List TColor) fun l21 =>
   some (.inl ((IntKind.i64.wrap (x17 + 1)), l21)))
noncomputable def impl_Surface_paint_PaintMask_1_l0_S (a1 : Int) (a2 : Int) (a3 : TMask) (a4 : Int) (a5 : TPaint) (a6 : Int) (v2 : TBox) (x12 : Int) : ((Int) × (List TColor)) → St := fun (x17, x18) => ⟨[(0, AV.optr 0 0 3), (2, AV.func (.func 117) [] [AV.optr 1 0 5, AV.optr 2 0 1, AV.optr 3 0 13, AV.optr 4 0 1]), (4, AV.optr 6 0 4), (6, AV.int .i64 x12), (7, AV.int .i64 x17)], [(0, Ob.box [AV.int .i64 a1, AV.int .i64 a2, AV.osl 5 0 (List.length x18) (List.length x18)]), (1, Ob.box [AV.int .i64 a3.box.x0, AV.int .i64 a3.box.y0, AV.int .i64 a3.box.x1, AV.int .i64 a3.box.y1, AV.fsl (List.map (AV.int .i64) a3.bits)]), (2, Ob.box [AV.int .i64 a4]), (3, Ob.box [AV.int .i64 a5.kind, AV.int .i64 a5.first.r, AV.int .i64 a5.first.g, AV.int .i64 a5.first.b, AV.int .i64 a5.first.a, AV.int .i64 a5.last.r, AV.int .i64 a5.last.g, AV.int .i64 a5.last.b, AV.int .i64 a5.last.a, AV.int .i64 a5.from_.x, AV.int .i64 a5.from_.y, AV.int .i64 a5.to.x, AV.int .i64 a5.to.y]), (4, Ob.box [AV.int .i64 a6]), (5, Ob.arr 4 (List.map eColor x18) false), (6, Ob.box [AV.int .i64 v2.x0, AV.int .i64 v2.y0, AV.int .i64 v2.x1, AV.int .i64 v2.y1])], 7⟩
noncomputable def impl_Surface_paint_PaintMask_1_l0_X (a1 : Int) (a2 : Int) (a3 : TMask) (a4 : Int) (a5 : TPaint) (a6 : Int) (v2 : TBox) (x12 : Int) : ((List TColor)) → Ex × St := fun y22 => ((.exit 2), ⟨[(0, AV.optr 0 0 3), (2, AV.func (.func 117) [] [AV.optr 1 0 5, AV.optr 2 0 1, AV.optr 3 0 13, AV.optr 4 0 1]), (4, AV.optr 6 0 4), (6, AV.int .i64 x12)], [(0, Ob.box [AV.int .i64 a1, AV.int .i64 a2, AV.osl 5 0 (List.length y22) (List.length y22)]), (1, Ob.box [AV.int .i64 a3.box.x0, AV.int .i64 a3.box.y0, AV.int .i64 a3.box.x1, AV.int .i64 a3.box.y1, AV.fsl (List.map (AV.int .i64) a3.bits)]), (2, Ob.box [AV.int .i64 a4]), (3, Ob.box [AV.int .i64 a5.kind, AV.int .i64 a5.first.r, AV.int .i64 a5.first.g, AV.int .i64 a5.first.b, AV.int .i64 a5.first.a, AV.int .i64 a5.last.r, AV.int .i64 a5.last.g, AV.int .i64 a5.last.b, AV.int .i64 a5.last.a, AV.int .i64 a5.from_.x, AV.int .i64 a5.from_.y, AV.int .i64 a5.to.x, AV.int .i64 a5.to.y]), (4, Ob.box [AV.int .i64 a6]), (5, Ob.arr 4 (List.map eColor y22) false), (6, Ob.box [AV.int .i64 v2.x0, AV.int .i64 v2.y0, AV.int .i64 v2.x1, AV.int .i64 v2.y1])], 7⟩)
noncomputable def impl_Surface_paint_PaintMask_1_l1 (a1 : Int) (a2 : Int) (a3 : TMask) (a4 : Int) (a5 : TPaint) (a6 : Int) (v2 : TBox) : ((Int) × (List TColor)) → Option (((Int) × (List TColor)) ⊕ ((List TColor))) := fun (x12, x13) =>
  cnd (ile v2.y1 x12) (
   some (.inr x13)) (
   bnd (loopI (impl_Surface_paint_PaintMask_1_l0 a1 a2 a3 a4 a5 a6 v2 x12) (v2.x0, x13)) fun y22 =>
   some (.inl ((IntKind.i64.wrap (x12 + 1)), y22)))
noncomputable def impl_Surface_paint_PaintMask_1_l1_S (a1 : Int) (a2 : Int) (a3 : TMask) (a4 : Int) (a5 : TPaint) (a6 : Int) (v2 : TBox) : ((Int) × (List TColor)) → St := fun (x12, x13) => ⟨[(0, AV.optr 0 0 3), (2, AV.func (.func 117) [] [AV.optr 1 0 5, AV.optr 2 0 1, AV.optr 3 0 13, AV.optr 4 0 1]), (4, AV.optr 6 0 4), (6, AV.int .i64 x12)], [(0, Ob.box [AV.int .i64 a1, AV.int .i64 a2, AV.osl 5 0 (List.length x13) (List.length x13)]), (1, Ob.box [AV.int .i64 a3.box.x0, AV.int .i64 a3.box.y0, AV.int .i64 a3.box.x1, AV.int .i64 a3.box.y1, AV.fsl (List.map (AV.int .i64) a3.bits)]), (2, Ob.box [AV.int .i64 a4]), (3, Ob.box [AV.int .i64 a5.kind, AV.int .i64 a5.first.r, AV.int .i64 a5.first.g, AV.int .i64 a5.first.b, AV.int .i64 a5.first.a, AV.int .i64 a5.last.r, AV.int .i64 a5.last.g, AV.int .i64 a5.last.b, AV.int .i64 a5.last.a, AV.int .i64 a5.from_.x, AV.int .i64 a5.from_.y, AV.int .i64 a5.to.x, AV.int .i64 a5.to.y]), (4, Ob.box [AV.int .i64 a6]), (5, Ob.arr 4 (List.map eColor x13) false), (6, Ob.box [AV.int .i64 v2.x0, AV.int .i64 v2.y0, AV.int .i64 v2.x1, AV.int .i64 v2.y1])], 7⟩
noncomputable def impl_Surface_paint_PaintMask_1_l1_X (a1 : Int) (a2 : Int) (a3 : TMask) (a4 : Int) (a5 : TPaint) (a6 : Int) (v2 : TBox) : ((List TColor)) → Ex × St := fun y23 => ((.exit 0), ⟨[], [(0, Ob.box [AV.int .i64 a1, AV.int .i64 a2, AV.osl 5 0 (List.length y23) (List.length y23)]), (1, Ob.box [AV.int .i64 a3.box.x0, AV.int .i64 a3.box.y0, AV.int .i64 a3.box.x1, AV.int .i64 a3.box.y1, AV.fsl (List.map (AV.int .i64) a3.bits)]), (2, Ob.box [AV.int .i64 a4]), (3, Ob.box [AV.int .i64 a5.kind, AV.int .i64 a5.first.r, AV.int .i64 a5.first.g, AV.int .i64 a5.first.b, AV.int .i64 a5.first.a, AV.int .i64 a5.last.r, AV.int .i64 a5.last.g, AV.int .i64 a5.last.b, AV.int .i64 a5.last.a, AV.int .i64 a5.from_.x, AV.int .i64 a5.from_.y, AV.int .i64 a5.to.x, AV.int .i64 a5.to.y]), (4, Ob.box [AV.int .i64 a6]), (5, Ob.arr 4 (List.map eColor y23) false)], 6⟩)
noncomputable def impl_Surface_paint_PaintMask_1 (a0 : TBox) (a1 : Int) (a2 : Int) (a3 : TMask) (a4 : Int) (a5 : TPaint) (a6 : Int) (a7 : List TColor) : Option ((List TColor)) :=
  bnd (impl_Surface_box (TSurface.mk a1 a2 a7)) fun v1 =>
  bnd (impl_MeetBox a0 v1) fun v2 =>
  bnd (loopI (impl_Surface_paint_PaintMask_1_l1 a1 a2 a3 a4 a5 a6 v2) (v2.y0, a7)) fun y23 =>
  some y23
noncomputable def impl_Surface_paint_PaintMask_1_e (q : (TBox) × (Int) × (Int) × (TMask) × (Int) × (TPaint) × (Int) × (List TColor)) : List AV × List Ob := ([AV.optr 0 0 3, AV.agg [AV.int .i64 q.1.x0, AV.int .i64 q.1.y0, AV.int .i64 q.1.x1, AV.int .i64 q.1.y1], AV.func (.func 117) [] [AV.optr 1 0 5, AV.optr 2 0 1, AV.optr 3 0 13, AV.optr 4 0 1]], [Ob.box [AV.int .i64 q.2.1, AV.int .i64 q.2.2.1, AV.osl 5 0 (List.length q.2.2.2.2.2.2.2) (List.length q.2.2.2.2.2.2.2)], Ob.box [AV.int .i64 q.2.2.2.1.box.x0, AV.int .i64 q.2.2.2.1.box.y0, AV.int .i64 q.2.2.2.1.box.x1, AV.int .i64 q.2.2.2.1.box.y1, AV.fsl (List.map (AV.int .i64) q.2.2.2.1.bits)], Ob.box [AV.int .i64 q.2.2.2.2.1], Ob.box [AV.int .i64 q.2.2.2.2.2.1.kind, AV.int .i64 q.2.2.2.2.2.1.first.r, AV.int .i64 q.2.2.2.2.2.1.first.g, AV.int .i64 q.2.2.2.2.2.1.first.b, AV.int .i64 q.2.2.2.2.2.1.first.a, AV.int .i64 q.2.2.2.2.2.1.last.r, AV.int .i64 q.2.2.2.2.2.1.last.g, AV.int .i64 q.2.2.2.2.2.1.last.b, AV.int .i64 q.2.2.2.2.2.1.last.a, AV.int .i64 q.2.2.2.2.2.1.from_.x, AV.int .i64 q.2.2.2.2.2.1.from_.y, AV.int .i64 q.2.2.2.2.2.1.to.x, AV.int .i64 q.2.2.2.2.2.1.to.y], Ob.box [AV.int .i64 q.2.2.2.2.2.2.1], Ob.arr 4 (List.map eColor q.2.2.2.2.2.2.2) false])
noncomputable def impl_Surface_paint_PaintMask_1_v (q : (TBox) × (Int) × (Int) × (TMask) × (Int) × (TPaint) × (Int) × (List TColor)) (r : (List TColor)) : AV × List Ob := (AV.tup [], [Ob.box [AV.int .i64 q.2.1, AV.int .i64 q.2.2.1, AV.osl 5 0 (List.length r) (List.length r)], Ob.box [AV.int .i64 q.2.2.2.1.box.x0, AV.int .i64 q.2.2.2.1.box.y0, AV.int .i64 q.2.2.2.1.box.x1, AV.int .i64 q.2.2.2.1.box.y1, AV.fsl (List.map (AV.int .i64) q.2.2.2.1.bits)], Ob.box [AV.int .i64 q.2.2.2.2.1], Ob.box [AV.int .i64 q.2.2.2.2.2.1.kind, AV.int .i64 q.2.2.2.2.2.1.first.r, AV.int .i64 q.2.2.2.2.2.1.first.g, AV.int .i64 q.2.2.2.2.2.1.first.b, AV.int .i64 q.2.2.2.2.2.1.first.a, AV.int .i64 q.2.2.2.2.2.1.last.r, AV.int .i64 q.2.2.2.2.2.1.last.g, AV.int .i64 q.2.2.2.2.2.1.last.b, AV.int .i64 q.2.2.2.2.2.1.last.a, AV.int .i64 q.2.2.2.2.2.1.from_.x, AV.int .i64 q.2.2.2.2.2.1.from_.y, AV.int .i64 q.2.2.2.2.2.1.to.x, AV.int .i64 q.2.2.2.2.2.1.to.y], Ob.box [AV.int .i64 q.2.2.2.2.2.2.1], Ob.arr 4 (List.map eColor r) false])
noncomputable def impl_Surface_paint_PaintMask_1_x : List AV → List Ob → Option (AV × List Ob) := xOf impl_Surface_paint_PaintMask_1_e (fun q => impl_Surface_paint_PaintMask_1 q.1 q.2.1 q.2.2.1 q.2.2.2.1 q.2.2.2.2.1 q.2.2.2.2.2.1 q.2.2.2.2.2.2.1 q.2.2.2.2.2.2.2) impl_Surface_paint_PaintMask_1_v
theorem impl_Surface_paint_PaintMask_1_i : ∀ a b, impl_Surface_paint_PaintMask_1_e a = impl_Surface_paint_PaintMask_1_e b → a = b := by rintro ⟨⟨x0, x1, x2, x3⟩, x4, x5, ⟨⟨x6, x7, x8, x9⟩, x10⟩, x11, ⟨x12, ⟨x13, x14, x15, x16⟩, ⟨x17, x18, x19, x20⟩, ⟨x21, x22⟩, ⟨x23, x24⟩⟩, x25, x26⟩ ⟨⟨y0, y1, y2, y3⟩, y4, y5, ⟨⟨y6, y7, y8, y9⟩, y10⟩, y11, ⟨y12, ⟨y13, y14, y15, y16⟩, ⟨y17, y18, y19, y20⟩, ⟨y21, y22⟩, ⟨y23, y24⟩⟩, y25, y26⟩ h; simp [impl_Surface_paint_PaintMask_1_e] at h; simp [h]
@[simp] theorem impl_Surface_paint_PaintMask_1_k (z0 : Int) (z1 : Int) (z2 : Int) (z3 : Int) (z4 : Int) (z5 : Int) (z6 : Int) (z7 : Int) (z8 : Int) (z9 : Int) (z10 : List Int) (z11 : Int) (z12 : Int) (z13 : Int) (z14 : Int) (z15 : Int) (z16 : Int) (z17 : Int) (z18 : Int) (z19 : Int) (z20 : Int) (z21 : Int) (z22 : Int) (z23 : Int) (z24 : Int) (z25 : Int) (z26 : List TColor) : impl_Surface_paint_PaintMask_1_x [AV.optr 0 0 3, AV.agg [AV.int .i64 z0, AV.int .i64 z1, AV.int .i64 z2, AV.int .i64 z3], AV.func (.func 117) [] [AV.optr 1 0 5, AV.optr 2 0 1, AV.optr 3 0 13, AV.optr 4 0 1]] [Ob.box [AV.int .i64 z4, AV.int .i64 z5, AV.osl 5 0 (List.length z26) (List.length z26)], Ob.box [AV.int .i64 z6, AV.int .i64 z7, AV.int .i64 z8, AV.int .i64 z9, AV.fsl (List.map (AV.int .i64) z10)], Ob.box [AV.int .i64 z11], Ob.box [AV.int .i64 z12, AV.int .i64 z13, AV.int .i64 z14, AV.int .i64 z15, AV.int .i64 z16, AV.int .i64 z17, AV.int .i64 z18, AV.int .i64 z19, AV.int .i64 z20, AV.int .i64 z21, AV.int .i64 z22, AV.int .i64 z23, AV.int .i64 z24], Ob.box [AV.int .i64 z25], Ob.arr 4 (List.map eColor z26) false] = mapR (impl_Surface_paint_PaintMask_1 ⟨z0, z1, z2, z3⟩ z4 z5 ⟨⟨z6, z7, z8, z9⟩, z10⟩ z11 ⟨z12, ⟨z13, z14, z15, z16⟩, ⟨z17, z18, z19, z20⟩, ⟨z21, z22⟩, ⟨z23, z24⟩⟩ z25 z26) (fun r => (AV.tup [], [Ob.box [AV.int .i64 z4, AV.int .i64 z5, AV.osl 5 0 (List.length r) (List.length r)], Ob.box [AV.int .i64 z6, AV.int .i64 z7, AV.int .i64 z8, AV.int .i64 z9, AV.fsl (List.map (AV.int .i64) z10)], Ob.box [AV.int .i64 z11], Ob.box [AV.int .i64 z12, AV.int .i64 z13, AV.int .i64 z14, AV.int .i64 z15, AV.int .i64 z16, AV.int .i64 z17, AV.int .i64 z18, AV.int .i64 z19, AV.int .i64 z20, AV.int .i64 z21, AV.int .i64 z22, AV.int .i64 z23, AV.int .i64 z24], Ob.box [AV.int .i64 z25], Ob.arr 4 (List.map eColor r) false])) :=
  xOf_eq impl_Surface_paint_PaintMask_1_i (⟨z0, z1, z2, z3⟩, z4, z5, ⟨⟨z6, z7, z8, z9⟩, z10⟩, z11, ⟨z12, ⟨z13, z14, z15, z16⟩, ⟨z17, z18, z19, z20⟩, ⟨z21, z22⟩, ⟨z23, z24⟩⟩, z25, z26)
/-! impl_PaintMask: function 39 -/
noncomputable def impl_PaintMask (a0 : TSurface) (a1 : TMask) (a2 : TPaint) (a3 : Int) (a4 : Int) : Option ((Int) × (Int) × (List TColor)) :=
  bnd (impl_copySurface a0) fun (w2, w3, w4) =>
  bnd (impl_SurfaceOk a0) fun v5 =>
  cnd v5 (
   bnd (impl_MaskOk a1) fun v6 =>
   cnd v6 (
    bnd (impl_PaintOk a2) fun v7 =>
    cnd v7 (
     bnd (impl_Surface_paint_PaintMask_1 a1.box w2 w3 a1 a3 a2 a4 w4) fun v8 =>
     some (w2, w3, v8)) (
     some (w2, w3, w4))) (
    some (w2, w3, w4))) (
   some (w2, w3, w4))
noncomputable def impl_PaintMask_e (q : (TSurface) × (TMask) × (TPaint) × (Int) × (Int)) : List AV × List Ob := ([AV.agg [AV.int .i64 q.1.w, AV.int .i64 q.1.h, AV.fsl (List.map eColor q.1.pix)], AV.agg [AV.int .i64 q.2.1.box.x0, AV.int .i64 q.2.1.box.y0, AV.int .i64 q.2.1.box.x1, AV.int .i64 q.2.1.box.y1, AV.fsl (List.map (AV.int .i64) q.2.1.bits)], AV.agg [AV.int .i64 q.2.2.1.kind, AV.int .i64 q.2.2.1.first.r, AV.int .i64 q.2.2.1.first.g, AV.int .i64 q.2.2.1.first.b, AV.int .i64 q.2.2.1.first.a, AV.int .i64 q.2.2.1.last.r, AV.int .i64 q.2.2.1.last.g, AV.int .i64 q.2.2.1.last.b, AV.int .i64 q.2.2.1.last.a, AV.int .i64 q.2.2.1.from_.x, AV.int .i64 q.2.2.1.from_.y, AV.int .i64 q.2.2.1.to.x, AV.int .i64 q.2.2.1.to.y], AV.int .i64 q.2.2.2.1, AV.int .i64 q.2.2.2.2], [])
noncomputable def impl_PaintMask_v (q : (TSurface) × (TMask) × (TPaint) × (Int) × (Int)) (r : (Int) × (Int) × (List TColor)) : AV × List Ob := (AV.agg [AV.int .i64 r.1, AV.int .i64 r.2.1, AV.osl 0 0 (List.length r.2.2) (List.length r.2.2)], [Ob.arr 4 (List.map eColor r.2.2) false])
noncomputable def impl_PaintMask_x : List AV → List Ob → Option (AV × List Ob) := xOf impl_PaintMask_e (fun q => impl_PaintMask q.1 q.2.1 q.2.2.1 q.2.2.2.1 q.2.2.2.2) impl_PaintMask_v
theorem impl_PaintMask_i : ∀ a b, impl_PaintMask_e a = impl_PaintMask_e b → a = b := by rintro ⟨⟨x0, x1, x2⟩, ⟨⟨x3, x4, x5, x6⟩, x7⟩, ⟨x8, ⟨x9, x10, x11, x12⟩, ⟨x13, x14, x15, x16⟩, ⟨x17, x18⟩, ⟨x19, x20⟩⟩, x21, x22⟩ ⟨⟨y0, y1, y2⟩, ⟨⟨y3, y4, y5, y6⟩, y7⟩, ⟨y8, ⟨y9, y10, y11, y12⟩, ⟨y13, y14, y15, y16⟩, ⟨y17, y18⟩, ⟨y19, y20⟩⟩, y21, y22⟩ h; simp [impl_PaintMask_e] at h; simp [h]
@[simp] theorem impl_PaintMask_k (z0 : Int) (z1 : Int) (z2 : List TColor) (z3 : Int) (z4 : Int) (z5 : Int) (z6 : Int) (z7 : List Int) (z8 : Int) (z9 : Int) (z10 : Int) (z11 : Int) (z12 : Int) (z13 : Int) (z14 : Int) (z15 : Int) (z16 : Int) (z17 : Int) (z18 : Int) (z19 : Int) (z20 : Int) (z21 : Int) (z22 : Int) : impl_PaintMask_x [AV.agg [AV.int .i64 z0, AV.int .i64 z1, AV.fsl (List.map eColor z2)], AV.agg [AV.int .i64 z3, AV.int .i64 z4, AV.int .i64 z5, AV.int .i64 z6, AV.fsl (List.map (AV.int .i64) z7)], AV.agg [AV.int .i64 z8, AV.int .i64 z9, AV.int .i64 z10, AV.int .i64 z11, AV.int .i64 z12, AV.int .i64 z13, AV.int .i64 z14, AV.int .i64 z15, AV.int .i64 z16, AV.int .i64 z17, AV.int .i64 z18, AV.int .i64 z19, AV.int .i64 z20], AV.int .i64 z21, AV.int .i64 z22] [] = mapR (impl_PaintMask ⟨z0, z1, z2⟩ ⟨⟨z3, z4, z5, z6⟩, z7⟩ ⟨z8, ⟨z9, z10, z11, z12⟩, ⟨z13, z14, z15, z16⟩, ⟨z17, z18⟩, ⟨z19, z20⟩⟩ z21 z22) (fun r => (AV.agg [AV.int .i64 r.1, AV.int .i64 r.2.1, AV.osl 0 0 (List.length r.2.2) (List.length r.2.2)], [Ob.arr 4 (List.map eColor r.2.2) false])) :=
  xOf_eq impl_PaintMask_i (⟨z0, z1, z2⟩, ⟨⟨z3, z4, z5, z6⟩, z7⟩, ⟨z8, ⟨z9, z10, z11, z12⟩, ⟨z13, z14, z15, z16⟩, ⟨z17, z18⟩, ⟨z19, z20⟩⟩, z21, z22)
/-! spec_BitsAt: function 40 -/
noncomputable def spec_BitsAt (a0 : TMask) (a1 : Int) (a2 : Int) : Option ((Int)) :=
  bnd (spec_MaskOk a0) fun v1 =>
  cnd v1 (
   bnd (spec_l11Bits a0 a1 a2) fun v2 =>
   some v2) (
   some 0)
noncomputable def spec_BitsAt_e (q : (TMask) × (Int) × (Int)) : List AV × List Ob := ([AV.agg [AV.int .i64 q.1.box.x0, AV.int .i64 q.1.box.y0, AV.int .i64 q.1.box.x1, AV.int .i64 q.1.box.y1, AV.fsl (List.map (AV.int .i64) q.1.bits)], AV.int .i64 q.2.1, AV.int .i64 q.2.2], [])
noncomputable def spec_BitsAt_v (q : (TMask) × (Int) × (Int)) (r : (Int)) : AV × List Ob := (AV.int .i64 r, [])
noncomputable def spec_BitsAt_x : List AV → List Ob → Option (AV × List Ob) := xOf spec_BitsAt_e (fun q => spec_BitsAt q.1 q.2.1 q.2.2) spec_BitsAt_v
theorem spec_BitsAt_i : ∀ a b, spec_BitsAt_e a = spec_BitsAt_e b → a = b := by rintro ⟨⟨⟨x0, x1, x2, x3⟩, x4⟩, x5, x6⟩ ⟨⟨⟨y0, y1, y2, y3⟩, y4⟩, y5, y6⟩ h; simp [spec_BitsAt_e] at h; simp [h]
@[simp] theorem spec_BitsAt_k (z0 : Int) (z1 : Int) (z2 : Int) (z3 : Int) (z4 : List Int) (z5 : Int) (z6 : Int) : spec_BitsAt_x [AV.agg [AV.int .i64 z0, AV.int .i64 z1, AV.int .i64 z2, AV.int .i64 z3, AV.fsl (List.map (AV.int .i64) z4)], AV.int .i64 z5, AV.int .i64 z6] [] = mapR (spec_BitsAt ⟨⟨z0, z1, z2, z3⟩, z4⟩ z5 z6) (fun r => (AV.int .i64 r, [])) :=
  xOf_eq spec_BitsAt_i (⟨⟨z0, z1, z2, z3⟩, z4⟩, z5, z6)
/-! impl_PixelAt: function 41 -/
noncomputable def impl_PixelAt (a0 : TSurface) (a1 : Int) (a2 : Int) : Option ((TColor)) :=
  bnd (impl_inRange a1 0 (IntKind.i64.wrap (a0.w - 1))) fun v1 =>
  cnd v1 (
   bnd (impl_inRange a2 0 (IntKind.i64.wrap (a0.h - 1))) fun v2 =>
   cnd v2 (
    bnd (impl_SurfaceOk a0) fun v3 =>
    cnd v3 (
     bnd (idx a0.pix (IntKind.i64.wrap ((IntKind.i64.wrap (a2 * a0.w)) + a1))) fun v4 =>
     some v4) (
     some (TColor.mk 0 0 0 0))) (
    some (TColor.mk 0 0 0 0))) (
   some (TColor.mk 0 0 0 0))
noncomputable def impl_PixelAt_e (q : (TSurface) × (Int) × (Int)) : List AV × List Ob := ([AV.agg [AV.int .i64 q.1.w, AV.int .i64 q.1.h, AV.fsl (List.map eColor q.1.pix)], AV.int .i64 q.2.1, AV.int .i64 q.2.2], [])
noncomputable def impl_PixelAt_v (q : (TSurface) × (Int) × (Int)) (r : (TColor)) : AV × List Ob := (AV.agg [AV.int .i64 r.r, AV.int .i64 r.g, AV.int .i64 r.b, AV.int .i64 r.a], [])
noncomputable def impl_PixelAt_x : List AV → List Ob → Option (AV × List Ob) := xOf impl_PixelAt_e (fun q => impl_PixelAt q.1 q.2.1 q.2.2) impl_PixelAt_v
theorem impl_PixelAt_i : ∀ a b, impl_PixelAt_e a = impl_PixelAt_e b → a = b := by rintro ⟨⟨x0, x1, x2⟩, x3, x4⟩ ⟨⟨y0, y1, y2⟩, y3, y4⟩ h; simp [impl_PixelAt_e] at h; simp [h]
@[simp] theorem impl_PixelAt_k (z0 : Int) (z1 : Int) (z2 : List TColor) (z3 : Int) (z4 : Int) : impl_PixelAt_x [AV.agg [AV.int .i64 z0, AV.int .i64 z1, AV.fsl (List.map eColor z2)], AV.int .i64 z3, AV.int .i64 z4] [] = mapR (impl_PixelAt ⟨z0, z1, z2⟩ z3 z4) (fun r => (AV.agg [AV.int .i64 r.r, AV.int .i64 r.g, AV.int .i64 r.b, AV.int .i64 r.a], [])) :=
  xOf_eq impl_PixelAt_i (⟨z0, z1, z2⟩, z3, z4)
/-! slices_Equal_Color: function 111 -/
noncomputable def slices_Equal_Color_l0 (a0 : List TColor) (a1 : List TColor) : ((Int)) → Option (((Int)) ⊕ ((Unit) ⊕ (Unit))) := fun x3 =>
  cnd (ile (List.length a0 : Int) x3) (
   some (.inr (.inl ()))) (
   bnd (idx a0 x3) fun v4 =>
   bnd (idx a1 x3) fun v5 =>
   cnd (andB (decide (v4.r = v5.r)) (andB (decide (v4.g = v5.g)) (andB (decide (v4.b = v5.b)) (andB (decide (v4.a = v5.a)) true)))) (
    some (.inl (IntKind.i64.wrap (x3 + 1)))) (
    some (.inr (.inr ()))))
noncomputable def slices_Equal_Color_l0_S (a0 : List TColor) (a1 : List TColor) : ((Int)) → St := fun x3 => ⟨[(0, AV.fsl (List.map eColor a0)), (1, AV.fsl (List.map eColor a1)), (12, AV.int .i64 (List.length a0 : Int)), (13, AV.int .i64 x3)], [], 0⟩
noncomputable def slices_Equal_Color_l0_X (a0 : List TColor) (a1 : List TColor) : ((Unit) ⊕ (Unit)) → Ex × St := fun q => match q with
  | .inl _ => ((.exit 0), ⟨[], [], 0⟩)
  | .inr _ => (.ret, ⟨[(4, AV.bool false)], [], 0⟩)
noncomputable def slices_Equal_Color (a0 : List TColor) (a1 : List TColor) : Option ((Bool)) :=
  cnd (ieq (List.length a0 : Int) (List.length a1 : Int)) (
   bnd (loopI (slices_Equal_Color_l0 a0 a1) 0) fun q => match q with
   | .inl () =>
    some true
   | .inr () =>
    some false) (
   some false)
noncomputable def slices_Equal_Color_e (q : (List TColor) × (List TColor)) : List AV × List Ob := ([AV.fsl (List.map eColor q.1), AV.fsl (List.map eColor q.2)], [])
noncomputable def slices_Equal_Color_v (q : (List TColor) × (List TColor)) (r : (Bool)) : AV × List Ob := (AV.bool r, [])
noncomputable def slices_Equal_Color_x : List AV → List Ob → Option (AV × List Ob) := xOf slices_Equal_Color_e (fun q => slices_Equal_Color q.1 q.2) slices_Equal_Color_v
theorem slices_Equal_Color_i : ∀ a b, slices_Equal_Color_e a = slices_Equal_Color_e b → a = b := by rintro ⟨x0, x1⟩ ⟨y0, y1⟩ h; simp [slices_Equal_Color_e] at h; simp [h]
@[simp] theorem slices_Equal_Color_k (z0 : List TColor) (z1 : List TColor) : slices_Equal_Color_x [AV.fsl (List.map eColor z0), AV.fsl (List.map eColor z1)] [] = mapR (slices_Equal_Color z0 z1) (fun r => (AV.bool r, [])) :=
  xOf_eq slices_Equal_Color_i (z0, z1)
/-! impl_SameSurface: function 33 -/
noncomputable def impl_SameSurface (a0 : TSurface) (a1 : TSurface) : Option ((Bool)) :=
  cnd (ieq a0.w a1.w) (
   cnd (ieq a0.h a1.h) (
    bnd (slices_Equal_Color a0.pix a1.pix) fun v1 =>
    some v1) (
    some false)) (
   some false)
noncomputable def impl_SameSurface_e (q : (TSurface) × (TSurface)) : List AV × List Ob := ([AV.agg [AV.int .i64 q.1.w, AV.int .i64 q.1.h, AV.fsl (List.map eColor q.1.pix)], AV.agg [AV.int .i64 q.2.w, AV.int .i64 q.2.h, AV.fsl (List.map eColor q.2.pix)]], [])
noncomputable def impl_SameSurface_v (q : (TSurface) × (TSurface)) (r : (Bool)) : AV × List Ob := (AV.bool r, [])
noncomputable def impl_SameSurface_x : List AV → List Ob → Option (AV × List Ob) := xOf impl_SameSurface_e (fun q => impl_SameSurface q.1 q.2) impl_SameSurface_v
theorem impl_SameSurface_i : ∀ a b, impl_SameSurface_e a = impl_SameSurface_e b → a = b := by rintro ⟨⟨x0, x1, x2⟩, ⟨x3, x4, x5⟩⟩ ⟨⟨y0, y1, y2⟩, ⟨y3, y4, y5⟩⟩ h; simp [impl_SameSurface_e] at h; simp [h]
@[simp] theorem impl_SameSurface_k (z0 : Int) (z1 : Int) (z2 : List TColor) (z3 : Int) (z4 : Int) (z5 : List TColor) : impl_SameSurface_x [AV.agg [AV.int .i64 z0, AV.int .i64 z1, AV.fsl (List.map eColor z2)], AV.agg [AV.int .i64 z3, AV.int .i64 z4, AV.fsl (List.map eColor z5)]] [] = mapR (impl_SameSurface ⟨z0, z1, z2⟩ ⟨z3, z4, z5⟩) (fun r => (AV.bool r, [])) :=
  xOf_eq impl_SameSurface_i (⟨z0, z1, z2⟩, ⟨z3, z4, z5⟩)
/-! laws_FnPaintsOn: function 7 -/
noncomputable def laws_FnPaintsOn_l0 (v2 : TSurface) (v6 : TPaint) (v8 : Int) (v9 : Int) (w4 : TMask) (w11 : Int) (w12 : Int) (w13 : List TColor) (x35 : Int) : ((Int)) → Option (((Int)) ⊕ ((Unit) ⊕ (Unit))) := fun x45 =>
  cnd (ile v2.w x45) (
   some (.inr (.inl ()))) (
   bnd (spec_BitsAt w4 x45 x35) fun v46 =>
   bnd (impl_PixelAt v2 x45 x35) fun v47 =>
   cnd (ieq v46 0) (
    bnd (impl_PixelAt (TSurface.mk w11 w12 w13) x45 x35) fun v48 =>
    cnd (andB (decide (v48.r = v47.r)) (andB (decide (v48.g = v47.g)) (andB (decide (v48.b = v47.b)) (andB (decide (v48.a = v47.a)) true)))) (
     some (.inl (IntKind.i64.wrap (x45 + 1)))) (
     some (.inr (.inr ())))) (
    bnd (spec_ColorAt v6 x45 x35) fun v49 =>
    bnd (spec_CountOf v46) fun v50 =>
    bnd (spec_Thin v49 v50) fun v51 =>
    bnd (spec_Fade v51 (Int.tmod v9 256)) fun v52 =>
    bnd (spec_Blend (IntKind.i64.wrap (1 + (Int.tmod v8 5))) v52 v47) fun v53 =>
    bnd (impl_PixelAt (TSurface.mk w11 w12 w13) x45 x35) fun v54 =>
    cnd (andB (decide (v54.r = v53.r)) (andB (decide (v54.g = v53.g)) (andB (decide (v54.b = v53.b)) (andB (decide (v54.a = v53.a)) true)))) (
     some (.inl (IntKind.i64.wrap (x45 + 1)))) (
     some (.inr (.inr ())))))
noncomputable def laws_FnPaintsOn_l0_S (v2 : TSurface) (v6 : TPaint) (v8 : Int) (v9 : Int) (w4 : TMask) (w11 : Int) (w12 : Int) (w13 : List TColor) (x35 : Int) : ((Int)) → St := fun x45 => ⟨[(3, AV.optr 0 0 3), (4, AV.optr 1 0 5), (6, AV.optr 2 0 13), (8, AV.int .i64 (IntKind.i64.wrap (1 + (Int.tmod v8 5)))), (9, AV.int .i64 (Int.tmod v9 256)), (10, AV.optr 3 0 3), (11, AV.int .i64 x35), (12, AV.int .i64 x45)], [(0, Ob.box [AV.int .i64 v2.w, AV.int .i64 v2.h, AV.fsl (List.map eColor v2.pix)]), (1, Ob.box [AV.int .i64 w4.box.x0, AV.int .i64 w4.box.y0, AV.int .i64 w4.box.x1, AV.int .i64 w4.box.y1, AV.fsl (List.map (AV.int .i64) w4.bits)]), (2, Ob.box [AV.int .i64 v6.kind, AV.int .i64 v6.first.r, AV.int .i64 v6.first.g, AV.int .i64 v6.first.b, AV.int .i64 v6.first.a, AV.int .i64 v6.last.r, AV.int .i64 v6.last.g, AV.int .i64 v6.last.b, AV.int .i64 v6.last.a, AV.int .i64 v6.from_.x, AV.int .i64 v6.from_.y, AV.int .i64 v6.to.x, AV.int .i64 v6.to.y]), (3, Ob.box [AV.int .i64 w11, AV.int .i64 w12, AV.osl 4 0 (List.length w13) (List.length w13)]), (4, Ob.arr 4 (List.map eColor w13) false)], 5⟩
noncomputable def laws_FnPaintsOn_l0_X (v2 : TSurface) (v6 : TPaint) (v8 : Int) (v9 : Int) (w4 : TMask) (w11 : Int) (w12 : Int) (w13 : List TColor) (x35 : Int) : ((Unit) ⊕ (Unit)) → Ex × St := fun q => match q with
  | .inl _ => ((.exit 2), ⟨[(3, AV.optr 0 0 3), (4, AV.optr 1 0 5), (6, AV.optr 2 0 13), (8, AV.int .i64 (IntKind.i64.wrap (1 + (Int.tmod v8 5)))), (9, AV.int .i64 (Int.tmod v9 256)), (10, AV.optr 3 0 3), (11, AV.int .i64 x35)], [(0, Ob.box [AV.int .i64 v2.w, AV.int .i64 v2.h, AV.fsl (List.map eColor v2.pix)]), (1, Ob.box [AV.int .i64 w4.box.x0, AV.int .i64 w4.box.y0, AV.int .i64 w4.box.x1, AV.int .i64 w4.box.y1, AV.fsl (List.map (AV.int .i64) w4.bits)]), (2, Ob.box [AV.int .i64 v6.kind, AV.int .i64 v6.first.r, AV.int .i64 v6.first.g, AV.int .i64 v6.first.b, AV.int .i64 v6.first.a, AV.int .i64 v6.last.r, AV.int .i64 v6.last.g, AV.int .i64 v6.last.b, AV.int .i64 v6.last.a, AV.int .i64 v6.from_.x, AV.int .i64 v6.from_.y, AV.int .i64 v6.to.x, AV.int .i64 v6.to.y]), (3, Ob.box [AV.int .i64 w11, AV.int .i64 w12, AV.osl 4 0 (List.length w13) (List.length w13)]), (4, Ob.arr 4 (List.map eColor w13) false)], 5⟩)
  | .inr _ => (.ret, ⟨[(2, AV.bool false)], [], 0⟩)
noncomputable def laws_FnPaintsOn_l1 (v2 : TSurface) (v6 : TPaint) (v8 : Int) (v9 : Int) (w4 : TMask) (w11 : Int) (w12 : Int) (w13 : List TColor) : ((Int)) → Option (((Int)) ⊕ ((Unit) ⊕ (Unit))) := fun x35 =>
  cnd (ile v2.h x35) (
   some (.inr (.inl ()))) (
   bnd (loopI (laws_FnPaintsOn_l0 v2 v6 v8 v9 w4 w11 w12 w13 x35) 0) fun q => match q with
   | .inl () =>
    some (.inl (IntKind.i64.wrap (x35 + 1)))
   | .inr () =>
    some (.inr (.inr ())))
noncomputable def laws_FnPaintsOn_l1_S (v2 : TSurface) (v6 : TPaint) (v8 : Int) (v9 : Int) (w4 : TMask) (w11 : Int) (w12 : Int) (w13 : List TColor) : ((Int)) → St := fun x35 => ⟨[(3, AV.optr 0 0 3), (4, AV.optr 1 0 5), (6, AV.optr 2 0 13), (8, AV.int .i64 (IntKind.i64.wrap (1 + (Int.tmod v8 5)))), (9, AV.int .i64 (Int.tmod v9 256)), (10, AV.optr 3 0 3), (11, AV.int .i64 x35)], [(0, Ob.box [AV.int .i64 v2.w, AV.int .i64 v2.h, AV.fsl (List.map eColor v2.pix)]), (1, Ob.box [AV.int .i64 w4.box.x0, AV.int .i64 w4.box.y0, AV.int .i64 w4.box.x1, AV.int .i64 w4.box.y1, AV.fsl (List.map (AV.int .i64) w4.bits)]), (2, Ob.box [AV.int .i64 v6.kind, AV.int .i64 v6.first.r, AV.int .i64 v6.first.g, AV.int .i64 v6.first.b, AV.int .i64 v6.first.a, AV.int .i64 v6.last.r, AV.int .i64 v6.last.g, AV.int .i64 v6.last.b, AV.int .i64 v6.last.a, AV.int .i64 v6.from_.x, AV.int .i64 v6.from_.y, AV.int .i64 v6.to.x, AV.int .i64 v6.to.y]), (3, Ob.box [AV.int .i64 w11, AV.int .i64 w12, AV.osl 4 0 (List.length w13) (List.length w13)]), (4, Ob.arr 4 (List.map eColor w13) false)], 5⟩
noncomputable def laws_FnPaintsOn_l1_X (v2 : TSurface) (v6 : TPaint) (v8 : Int) (v9 : Int) (w4 : TMask) (w11 : Int) (w12 : Int) (w13 : List TColor) : ((Unit) ⊕ (Unit)) → Ex × St := fun q => match q with
  | .inl _ => ((.exit 0), ⟨[(3, AV.optr 0 0 3)], [(0, Ob.box [AV.int .i64 v2.w, AV.int .i64 v2.h, AV.fsl (List.map eColor v2.pix)])], 1⟩)
  | .inr _ => (.ret, ⟨[(2, AV.bool false)], [], 0⟩)
noncomputable def laws_FnPaintsOn (a0 : List Int) : Option ((Bool)) :=
  bnd (laws_big a0) fun v1 =>
  cnd v1 (
   some true) (
   bnd (spec_DrawRightSurface a0) fun v2 =>
   bnd (spec_DrawMasks a0) fun (w4, w5) =>
   bnd (spec_DrawSlope a0) fun v6 =>
   bnd (spec_DrawPlaces a0) fun v7 =>
   bnd (idx v7 0) fun v8 =>
   bnd (idx v7 1) fun v9 =>
   bnd (impl_PaintMask v2 w4 v6 (IntKind.i64.wrap (1 + (Int.tmod v8 5))) (Int.tmod v9 256)) fun (w11, w12, w13) =>
   bnd (impl_SurfaceOk (TSurface.mk w11 w12 w13)) fun v14 =>
   cnd v14 (
    bnd (impl_SurfaceOk v2) fun v15 =>
    cnd v15 (
     cnd (ieq w11 v2.w) (
      cnd (ieq w12 v2.h) (
       bnd (loopI (laws_FnPaintsOn_l1 v2 v6 v8 v9 w4 w11 w12 w13) 0) fun q => match q with
       | .inl () =>
        bnd (impl_SameSurface v2 v2) fun v55 =>
        cnd v55 (
         bnd (impl_PixelAt v2 (-1) 0) fun v56 =>
         bnd (impl_PixelAt v2 v2.w 0) fun v57 =>
         some (andB (decide (v56.r = v57.r)) (andB (decide (v56.g = v57.g)) (andB (decide (v56.b = v57.b)) (andB (decide (v56.a = v57.a)) true))))) (
         some false)
       | .inr () =>
        some false) (
       some false)) (
      some false)) (
     some false)) (
    some false))
noncomputable def laws_FnPaintsOn_e (q : (List Int)) : List AV × List Ob := ([AV.fsl (List.map (AV.int .u8) q)], [])
noncomputable def laws_FnPaintsOn_v (q : (List Int)) (r : (Bool)) : AV × List Ob := (AV.bool r, [])
noncomputable def laws_FnPaintsOn_x : List AV → List Ob → Option (AV × List Ob) := xOf laws_FnPaintsOn_e (fun q => laws_FnPaintsOn q) laws_FnPaintsOn_v
theorem laws_FnPaintsOn_i : ∀ a b, laws_FnPaintsOn_e a = laws_FnPaintsOn_e b → a = b := by rintro x0 y0 h; simp [laws_FnPaintsOn_e] at h; simp [h]
@[simp] theorem laws_FnPaintsOn_k (z0 : List Int) : laws_FnPaintsOn_x [AV.fsl (List.map (AV.int .u8) z0)] [] = mapR (laws_FnPaintsOn z0) (fun r => (AV.bool r, [])) :=
  xOf_eq laws_FnPaintsOn_i z0
end Go.Proofs.Ytoafihhhdnmliaa.Am
