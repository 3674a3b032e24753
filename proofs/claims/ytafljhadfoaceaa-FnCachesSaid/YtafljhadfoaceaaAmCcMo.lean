import Derived.Test.YtafljhadfoaceaaAmCcTy
set_option linter.unusedVariables false
set_option linter.unusedSimpArgs false
set_option linter.unusedSectionVars false
namespace Go.Proofs.Ytafljhadfoaceaa.Am
open Go Go.Proofs
set_option maxRecDepth 100000
set_option linter.unusedSimpArgs false
set_option linter.unusedVariables false
set_option maxHeartbeats 4000000
/-! laws_big: function 38 -/
noncomputable def laws_big (a0 : List Int) : Option ((Bool)) :=
  some (!(ile (List.length a0 : Int) 1048576))
noncomputable def laws_big_e (q : (List Int)) : List AV × List Ob := ([AV.fsl (List.map (AV.int .u8) q)], [])
noncomputable def laws_big_v (q : (List Int)) (r : (Bool)) : AV × List Ob := (AV.bool r, [])
noncomputable def laws_big_x : List AV → List Ob → Option (AV × List Ob) := xOf laws_big_e (fun q => laws_big q) laws_big_v
theorem laws_big_i : ∀ a b, laws_big_e a = laws_big_e b → a = b := by rintro x0 y0 h; simp [laws_big_e] at h; simp [h]
@[simp] theorem laws_big_k (z0 : List Int) : laws_big_x [AV.fsl (List.map (AV.int .u8) z0)] [] = mapR (laws_big z0) (fun r => (AV.bool r, [])) :=
  xOf_eq laws_big_i z0
/-! spec_l01New: function 104 -/
noncomputable def spec_l01New_l0 (a0 : List Int) : ((Int) × (Int)) → Option (((Int) × (Int)) ⊕ ((Int))) := fun (x2, x3) =>
  cnd (ile (List.length a0 : Int) x3) (
   some (.inr x2)) (
   cnd (ile 4000 x3) (
    some (.inr x2)) (
    bnd (idx a0 x3) fun v4 =>
    some (.inl ((andI .i64 (IntKind.i64.wrap ((IntKind.i64.wrap ((IntKind.i64.wrap (x2 * 131)) + (IntKind.i64.wrap v4))) + 7)) 1073741823), (IntKind.i64.wrap (x3 + 1))))))
noncomputable def spec_l01New_l0_S (a0 : List Int) : ((Int) × (Int)) → St := fun (x2, x3) => ⟨[(0, AV.fsl (List.map (AV.int .u8) a0)), (3, AV.int .i64 x2), (4, AV.int .i64 x3)], [], 0⟩
noncomputable def spec_l01New_l0_X (a0 : List Int) : ((Int)) → Ex × St := fun y5 => ((.exit 0), ⟨[(0, AV.fsl (List.map (AV.int .u8) a0)), (3, AV.int .i64 y5)], [], 0⟩)
noncomputable def spec_l01New (a0 : List Int) : Option ((TL01Cur)) :=
  bnd (loopI (spec_l01New_l0 a0) ((IntKind.i64.wrap (28001 + (List.length a0 : Int))), 0)) fun y5 =>
  some (TL01Cur.mk a0 0 y5)
noncomputable def spec_l01New_e (q : (List Int)) : List AV × List Ob := ([AV.fsl (List.map (AV.int .u8) q)], [])
noncomputable def spec_l01New_v (q : (List Int)) (r : (TL01Cur)) : AV × List Ob := (AV.optr 0 0 3, [Ob.box [AV.fsl (List.map (AV.int .u8) r.b), AV.int .i64 r.i, AV.int .i64 r.h]])
noncomputable def spec_l01New_x : List AV → List Ob → Option (AV × List Ob) := xOf spec_l01New_e (fun q => spec_l01New q) spec_l01New_v
theorem spec_l01New_i : ∀ a b, spec_l01New_e a = spec_l01New_e b → a = b := by rintro x0 y0 h; simp [spec_l01New_e] at h; simp [h]
@[simp] theorem spec_l01New_k (z0 : List Int) : spec_l01New_x [AV.fsl (List.map (AV.int .u8) z0)] [] = mapR (spec_l01New z0) (fun r => (AV.optr 0 0 3, [Ob.box [AV.fsl (List.map (AV.int .u8) r.b), AV.int .i64 r.i, AV.int .i64 r.h]])) :=
  xOf_eq spec_l01New_i z0
/-! spec_l01Byte: function 106 -/
noncomputable def spec_l01Byte (a0 : TL01Cur) : Option ((Int) × (TL01Cur)) :=
  cnd (ile (List.length a0.b : Int) a0.i) (
   some ((andI .i64 (xorI .i64 (shrI .i64 (IntKind.i64.wrap ((IntKind.i64.wrap (a0.h * 6364136223846793005)) + 1442695040888963407)) 33) (shrI .i64 (IntKind.i64.wrap ((IntKind.i64.wrap (a0.h * 6364136223846793005)) + 1442695040888963407)) 45)) 255), (TL01Cur.mk a0.b a0.i (IntKind.i64.wrap ((IntKind.i64.wrap (a0.h * 6364136223846793005)) + 1442695040888963407))))) (
   bnd (idx a0.b a0.i) fun v1 =>
   some ((andI .i64 (IntKind.i64.wrap ((andI .i64 (xorI .i64 (shrI .i64 (IntKind.i64.wrap ((IntKind.i64.wrap (a0.h * 6364136223846793005)) + 1442695040888963407)) 33) (shrI .i64 (IntKind.i64.wrap ((IntKind.i64.wrap (a0.h * 6364136223846793005)) + 1442695040888963407)) 45)) 255) + (IntKind.i64.wrap v1))) 255), (TL01Cur.mk a0.b (IntKind.i64.wrap (a0.i + 1)) (IntKind.i64.wrap ((IntKind.i64.wrap (a0.h * 6364136223846793005)) + 1442695040888963407)))))
noncomputable def spec_l01Byte_e (q : (TL01Cur)) : List AV × List Ob := ([AV.optr 0 0 3], [Ob.box [AV.fsl (List.map (AV.int .u8) q.b), AV.int .i64 q.i, AV.int .i64 q.h]])
noncomputable def spec_l01Byte_v (q : (TL01Cur)) (r : (Int) × (TL01Cur)) : AV × List Ob := (AV.int .i64 r.1, [Ob.box [AV.fsl (List.map (AV.int .u8) r.2.b), AV.int .i64 r.2.i, AV.int .i64 r.2.h]])
noncomputable def spec_l01Byte_x : List AV → List Ob → Option (AV × List Ob) := xOf spec_l01Byte_e (fun q => spec_l01Byte q) spec_l01Byte_v
theorem spec_l01Byte_i : ∀ a b, spec_l01Byte_e a = spec_l01Byte_e b → a = b := by rintro ⟨x0, x1, x2⟩ ⟨y0, y1, y2⟩ h; simp [spec_l01Byte_e] at h; simp [h]
@[simp] theorem spec_l01Byte_k (z0 : List Int) (z1 : Int) (z2 : Int) : spec_l01Byte_x [AV.optr 0 0 3] [Ob.box [AV.fsl (List.map (AV.int .u8) z0), AV.int .i64 z1, AV.int .i64 z2]] = mapR (spec_l01Byte ⟨z0, z1, z2⟩) (fun r => (AV.int .i64 r.1, [Ob.box [AV.fsl (List.map (AV.int .u8) r.2.b), AV.int .i64 r.2.i, AV.int .i64 r.2.h]])) :=
  xOf_eq spec_l01Byte_i ⟨z0, z1, z2⟩
/-! spec_l01Below: function 107 -/
noncomputable def spec_l01Below (a0 : Int) (a1 : TL01Cur) : Option ((Int) × (TL01Cur)) :=
  cnd (ile a0 0) (
   some (0, a1)) (
   cnd (ile a0 256) (
    bnd (spec_l01Byte a1) fun (w2, w3) =>
    chkP (¬ a0 = 0) (
    some ((Int.tmod w2 a0), w3))) (
    bnd (spec_l01Byte a1) fun (w5, w6) =>
    bnd (spec_l01Byte w6) fun (w8, w9) =>
    bnd (spec_l01Byte w9) fun (w11, w12) =>
    bnd (spec_l01Byte w12) fun (w14, w15) =>
    chkP (¬ a0 = 0) (
    some ((Int.tmod (IntKind.i64.wrap ((IntKind.i64.wrap ((IntKind.i64.wrap ((IntKind.i64.wrap (w5 * 16777216)) + (IntKind.i64.wrap (w8 * 65536)))) + (IntKind.i64.wrap (w11 * 256)))) + w14)) a0), w15))))
noncomputable def spec_l01Below_e (q : (Int) × (TL01Cur)) : List AV × List Ob := ([AV.optr 0 0 3, AV.int .i64 q.1], [Ob.box [AV.fsl (List.map (AV.int .u8) q.2.b), AV.int .i64 q.2.i, AV.int .i64 q.2.h]])
noncomputable def spec_l01Below_v (q : (Int) × (TL01Cur)) (r : (Int) × (TL01Cur)) : AV × List Ob := (AV.int .i64 r.1, [Ob.box [AV.fsl (List.map (AV.int .u8) r.2.b), AV.int .i64 r.2.i, AV.int .i64 r.2.h]])
noncomputable def spec_l01Below_x : List AV → List Ob → Option (AV × List Ob) := xOf spec_l01Below_e (fun q => spec_l01Below q.1 q.2) spec_l01Below_v
theorem spec_l01Below_i : ∀ a b, spec_l01Below_e a = spec_l01Below_e b → a = b := by rintro ⟨x0, ⟨x1, x2, x3⟩⟩ ⟨y0, ⟨y1, y2, y3⟩⟩ h; simp [spec_l01Below_e] at h; simp [h]
@[simp] theorem spec_l01Below_k (z0 : Int) (z1 : List Int) (z2 : Int) (z3 : Int) : spec_l01Below_x [AV.optr 0 0 3, AV.int .i64 z0] [Ob.box [AV.fsl (List.map (AV.int .u8) z1), AV.int .i64 z2, AV.int .i64 z3]] = mapR (spec_l01Below z0 ⟨z1, z2, z3⟩) (fun r => (AV.int .i64 r.1, [Ob.box [AV.fsl (List.map (AV.int .u8) r.2.b), AV.int .i64 r.2.i, AV.int .i64 r.2.h]])) :=
  xOf_eq spec_l01Below_i (z0, ⟨z1, z2, z3⟩)
/-! spec_l01Once: function 170 -/
noncomputable def spec_l01Once (a0 : Int) (a1 : TL01Cur) : Option ((Bool) × (TL01Cur)) :=
  bnd (spec_l01Below a0 a1) fun (w2, w3) =>
  some ((ieq w2 0), w3)
noncomputable def spec_l01Once_e (q : (Int) × (TL01Cur)) : List AV × List Ob := ([AV.optr 0 0 3, AV.int .i64 q.1], [Ob.box [AV.fsl (List.map (AV.int .u8) q.2.b), AV.int .i64 q.2.i, AV.int .i64 q.2.h]])
noncomputable def spec_l01Once_v (q : (Int) × (TL01Cur)) (r : (Bool) × (TL01Cur)) : AV × List Ob := (AV.bool r.1, [Ob.box [AV.fsl (List.map (AV.int .u8) r.2.b), AV.int .i64 r.2.i, AV.int .i64 r.2.h]])
noncomputable def spec_l01Once_x : List AV → List Ob → Option (AV × List Ob) := xOf spec_l01Once_e (fun q => spec_l01Once q.1 q.2) spec_l01Once_v
theorem spec_l01Once_i : ∀ a b, spec_l01Once_e a = spec_l01Once_e b → a = b := by rintro ⟨x0, ⟨x1, x2, x3⟩⟩ ⟨y0, ⟨y1, y2, y3⟩⟩ h; simp [spec_l01Once_e] at h; simp [h]
@[simp] theorem spec_l01Once_k (z0 : Int) (z1 : List Int) (z2 : Int) (z3 : Int) : spec_l01Once_x [AV.optr 0 0 3, AV.int .i64 z0] [Ob.box [AV.fsl (List.map (AV.int .u8) z1), AV.int .i64 z2, AV.int .i64 z3]] = mapR (spec_l01Once z0 ⟨z1, z2, z3⟩) (fun r => (AV.bool r.1, [Ob.box [AV.fsl (List.map (AV.int .u8) r.2.b), AV.int .i64 r.2.i, AV.int .i64 r.2.h]])) :=
  xOf_eq spec_l01Once_i (z0, ⟨z1, z2, z3⟩)
/-! spec_Empty: function 205 -/
noncomputable def spec_Empty (a0 : TBox) : Option ((Bool)) :=
  cnd (ile a0.x1 a0.x0) (
   some true) (
   some (ile a0.y1 a0.y0))
noncomputable def spec_Empty_e (q : (TBox)) : List AV × List Ob := ([AV.agg [AV.int .i64 q.x0, AV.int .i64 q.y0, AV.int .i64 q.x1, AV.int .i64 q.y1]], [])
noncomputable def spec_Empty_v (q : (TBox)) (r : (Bool)) : AV × List Ob := (AV.bool r, [])
noncomputable def spec_Empty_x : List AV → List Ob → Option (AV × List Ob) := xOf spec_Empty_e (fun q => spec_Empty q) spec_Empty_v
theorem spec_Empty_i : ∀ a b, spec_Empty_e a = spec_Empty_e b → a = b := by rintro ⟨x0, x1, x2, x3⟩ ⟨y0, y1, y2, y3⟩ h; simp [spec_Empty_e] at h; simp [h]
@[simp] theorem spec_Empty_k (z0 : Int) (z1 : Int) (z2 : Int) (z3 : Int) : spec_Empty_x [AV.agg [AV.int .i64 z0, AV.int .i64 z1, AV.int .i64 z2, AV.int .i64 z3]] [] = mapR (spec_Empty ⟨z0, z1, z2, z3⟩) (fun r => (AV.bool r, [])) :=
  xOf_eq spec_Empty_i ⟨z0, z1, z2, z3⟩
/-! spec_l01In: function 91 -/
noncomputable def spec_l01In (a0 : Int) (a1 : Int) (a2 : Int) : Option ((Bool)) :=
  cnd (ile a1 a0) (
   some (ile a0 a2)) (
   some false)
noncomputable def spec_l01In_e (q : (Int) × (Int) × (Int)) : List AV × List Ob := ([AV.int .i64 q.1, AV.int .i64 q.2.1, AV.int .i64 q.2.2], [])
noncomputable def spec_l01In_v (q : (Int) × (Int) × (Int)) (r : (Bool)) : AV × List Ob := (AV.bool r, [])
noncomputable def spec_l01In_x : List AV → List Ob → Option (AV × List Ob) := xOf spec_l01In_e (fun q => spec_l01In q.1 q.2.1 q.2.2) spec_l01In_v
theorem spec_l01In_i : ∀ a b, spec_l01In_e a = spec_l01In_e b → a = b := by rintro ⟨x0, x1, x2⟩ ⟨y0, y1, y2⟩ h; simp [spec_l01In_e] at h; simp [h]
@[simp] theorem spec_l01In_k (z0 : Int) (z1 : Int) (z2 : Int) : spec_l01In_x [AV.int .i64 z0, AV.int .i64 z1, AV.int .i64 z2] [] = mapR (spec_l01In z0 z1 z2) (fun r => (AV.bool r, [])) :=
  xOf_eq spec_l01In_i (z0, z1, z2)
/-! spec_PointOk: function 222 -/
noncomputable def spec_PointOk (a0 : TPoint) : Option ((Bool)) :=
  bnd (spec_l01In a0.x (-8388608) 8388608) fun v1 =>
  cnd v1 (
   bnd (spec_l01In a0.y (-8388608) 8388608) fun v2 =>
   some v2) (
   some false)
noncomputable def spec_PointOk_e (q : (TPoint)) : List AV × List Ob := ([AV.agg [AV.int .i64 q.x, AV.int .i64 q.y]], [])
noncomputable def spec_PointOk_v (q : (TPoint)) (r : (Bool)) : AV × List Ob := (AV.bool r, [])
noncomputable def spec_PointOk_x : List AV → List Ob → Option (AV × List Ob) := xOf spec_PointOk_e (fun q => spec_PointOk q) spec_PointOk_v
theorem spec_PointOk_i : ∀ a b, spec_PointOk_e a = spec_PointOk_e b → a = b := by rintro ⟨x0, x1⟩ ⟨y0, y1⟩ h; simp [spec_PointOk_e] at h; simp [h]
@[simp] theorem spec_PointOk_k (z0 : Int) (z1 : Int) : spec_PointOk_x [AV.agg [AV.int .i64 z0, AV.int .i64 z1]] [] = mapR (spec_PointOk ⟨z0, z1⟩) (fun r => (AV.bool r, [])) :=
  xOf_eq spec_PointOk_i ⟨z0, z1⟩
/-! spec_RectPath: function 213 -/
noncomputable def spec_RectPath (a0 : TBox) : Option ((TPath)) :=
  bnd (spec_Empty a0) fun v1 =>
  cnd v1 (
   some (TPath.mk [] [])) (
   bnd (spec_PointOk (TPoint.mk ((TPoint.mk a0.x0 a0.y0).x) ((TPoint.mk a0.x0 a0.y0).y))) fun v2 =>
   cnd v2 (
    bnd (spec_PointOk (TPoint.mk ((TPoint.mk a0.x1 a0.y1).x) ((TPoint.mk a0.x1 a0.y1).y))) fun v3 =>
    cnd v3 (
     some (TPath.mk [1, 2, 2, 2, 5] [(TPoint.mk a0.x0 a0.y0), (TPoint.mk a0.x1 a0.y0), (TPoint.mk a0.x1 a0.y1), (TPoint.mk a0.x0 a0.y1)])) (
     some (TPath.mk [] []))) (
    some (TPath.mk [] [])))
noncomputable def spec_RectPath_e (q : (TBox)) : List AV × List Ob := ([AV.agg [AV.int .i64 q.x0, AV.int .i64 q.y0, AV.int .i64 q.x1, AV.int .i64 q.y1]], [])
noncomputable def spec_RectPath_v (q : (TBox)) (r : (TPath)) : AV × List Ob := (AV.agg [AV.fsl (List.map (AV.int .i64) r.verbs), AV.fsl (List.map ePoint r.points)], [])
noncomputable def spec_RectPath_x : List AV → List Ob → Option (AV × List Ob) := xOf spec_RectPath_e (fun q => spec_RectPath q) spec_RectPath_v
theorem spec_RectPath_i : ∀ a b, spec_RectPath_e a = spec_RectPath_e b → a = b := by rintro ⟨x0, x1, x2, x3⟩ ⟨y0, y1, y2, y3⟩ h; simp [spec_RectPath_e] at h; simp [h]
@[simp] theorem spec_RectPath_k (z0 : Int) (z1 : Int) (z2 : Int) (z3 : Int) : spec_RectPath_x [AV.agg [AV.int .i64 z0, AV.int .i64 z1, AV.int .i64 z2, AV.int .i64 z3]] [] = mapR (spec_RectPath ⟨z0, z1, z2, z3⟩) (fun r => (AV.agg [AV.fsl (List.map (AV.int .i64) r.verbs), AV.fsl (List.map ePoint r.points)], [])) :=
  xOf_eq spec_RectPath_i ⟨z0, z1, z2, z3⟩
/-! spec_l01PickInt: function 171 -/
noncomputable def spec_l01PickInt (a0 : TL01Cur) (a1 : List Int) : Option ((Int) × (TL01Cur)) :=
  bnd (spec_l01Below (List.length a1 : Int) a0) fun (w2, w3) =>
  bnd (idx a1 w2) fun v4 =>
  some (v4, w3)
noncomputable def spec_l01PickInt_e (q : (TL01Cur) × (List Int)) : List AV × List Ob := ([AV.optr 0 0 3, AV.osl 1 0 (List.length q.2) (List.length q.2)], [Ob.box [AV.fsl (List.map (AV.int .u8) q.1.b), AV.int .i64 q.1.i, AV.int .i64 q.1.h], Ob.arr 1 (List.map (AV.int .i64) q.2) false])
noncomputable def spec_l01PickInt_v (q : (TL01Cur) × (List Int)) (r : (Int) × (TL01Cur)) : AV × List Ob := (AV.int .i64 r.1, [Ob.box [AV.fsl (List.map (AV.int .u8) r.2.b), AV.int .i64 r.2.i, AV.int .i64 r.2.h], Ob.arr 1 (List.map (AV.int .i64) q.2) false])
noncomputable def spec_l01PickInt_x : List AV → List Ob → Option (AV × List Ob) := xOf spec_l01PickInt_e (fun q => spec_l01PickInt q.1 q.2) spec_l01PickInt_v
theorem spec_l01PickInt_i : ∀ a b, spec_l01PickInt_e a = spec_l01PickInt_e b → a = b := by rintro ⟨⟨x0, x1, x2⟩, x3⟩ ⟨⟨y0, y1, y2⟩, y3⟩ h; simp [spec_l01PickInt_e] at h; simp [h]
@[simp] theorem spec_l01PickInt_k (z0 : List Int) (z1 : Int) (z2 : Int) (z3 : List Int) : spec_l01PickInt_x [AV.optr 0 0 3, AV.osl 1 0 (List.length z3) (List.length z3)] [Ob.box [AV.fsl (List.map (AV.int .u8) z0), AV.int .i64 z1, AV.int .i64 z2], Ob.arr 1 (List.map (AV.int .i64) z3) false] = mapR (spec_l01PickInt ⟨z0, z1, z2⟩ z3) (fun r => (AV.int .i64 r.1, [Ob.box [AV.fsl (List.map (AV.int .u8) r.2.b), AV.int .i64 r.2.i, AV.int .i64 r.2.h], Ob.arr 1 (List.map (AV.int .i64) z3) false])) :=
  xOf_eq spec_l01PickInt_i (⟨z0, z1, z2⟩, z3)
/-! spec_NeedOf: function 212 -/
noncomputable def spec_NeedOf (a0 : Int) : Option ((Int)) :=
  bnd (spec_l01In a0 1 5) fun v1 =>
  cnd v1 (
   bnd (idx [1, 1, 2, 3, 0] (IntKind.i64.wrap (a0 - 1))) fun v2 =>
   some v2) (
   some (-1))
noncomputable def spec_NeedOf_e (q : (Int)) : List AV × List Ob := ([AV.int .i64 q], [])
noncomputable def spec_NeedOf_v (q : (Int)) (r : (Int)) : AV × List Ob := (AV.int .i64 r, [])
noncomputable def spec_NeedOf_x : List AV → List Ob → Option (AV × List Ob) := xOf spec_NeedOf_e (fun q => spec_NeedOf q) spec_NeedOf_v
theorem spec_NeedOf_i : ∀ a b, spec_NeedOf_e a = spec_NeedOf_e b → a = b := by rintro x0 y0 h; simp [spec_NeedOf_e] at h; simp [h]
@[simp] theorem spec_NeedOf_k (z0 : Int) : spec_NeedOf_x [AV.int .i64 z0] [] = mapR (spec_NeedOf z0) (fun r => (AV.int .i64 r, [])) :=
  xOf_eq spec_NeedOf_i z0
/-! spec_l04Point: function 214 -/
noncomputable def spec_l04Point (a0 : TL01Cur) : Option ((TPoint) × (TL01Cur)) :=
  bnd (spec_l01Below 3600 a0) fun (w2, w3) =>
  bnd (spec_l01Below 3600 w3) fun (w5, w6) =>
  some ((TPoint.mk (IntKind.i64.wrap (w2 - 300)) (IntKind.i64.wrap (w5 - 300))), w6)
noncomputable def spec_l04Point_e (q : (TL01Cur)) : List AV × List Ob := ([AV.optr 0 0 3], [Ob.box [AV.fsl (List.map (AV.int .u8) q.b), AV.int .i64 q.i, AV.int .i64 q.h]])
noncomputable def spec_l04Point_v (q : (TL01Cur)) (r : (TPoint) × (TL01Cur)) : AV × List Ob := (AV.agg [AV.int .i64 r.1.x, AV.int .i64 r.1.y], [Ob.box [AV.fsl (List.map (AV.int .u8) r.2.b), AV.int .i64 r.2.i, AV.int .i64 r.2.h]])
noncomputable def spec_l04Point_x : List AV → List Ob → Option (AV × List Ob) := xOf spec_l04Point_e (fun q => spec_l04Point q) spec_l04Point_v
theorem spec_l04Point_i : ∀ a b, spec_l04Point_e a = spec_l04Point_e b → a = b := by rintro ⟨x0, x1, x2⟩ ⟨y0, y1, y2⟩ h; simp [spec_l04Point_e] at h; simp [h]
@[simp] theorem spec_l04Point_k (z0 : List Int) (z1 : Int) (z2 : Int) : spec_l04Point_x [AV.optr 0 0 3] [Ob.box [AV.fsl (List.map (AV.int .u8) z0), AV.int .i64 z1, AV.int .i64 z2]] = mapR (spec_l04Point ⟨z0, z1, z2⟩) (fun r => (AV.agg [AV.int .i64 r.1.x, AV.int .i64 r.1.y], [Ob.box [AV.fsl (List.map (AV.int .u8) r.2.b), AV.int .i64 r.2.i, AV.int .i64 r.2.h]])) :=
  xOf_eq spec_l04Point_i ⟨z0, z1, z2⟩
/-! spec_l06Path: function 169 -/
noncomputable def spec_l06Path_l0 (l55 : List Int) (x42 : Int) : ((Int) × (List Int) × (Int) × (Int) × (List TPoint)) → Option (((Int) × (List Int) × (Int) × (Int) × (List TPoint)) ⊕ ((List Int) × (Int) × (Int) × (List TPoint))) := fun (x61, x62, x63, x64, x65) =>
  bnd (spec_NeedOf 1) fun v66 =>
  cnd (ile v66 x61) (
   some (.inr (x62, x63, x64, x65))) (
   bnd (spec_l04Point (TL01Cur.mk x62 x63 x64)) fun (w68, w69) =>
   chkP ((List.length x65 + 1) * 16 ≤ 17592186044416) (
   nam ((x65 ++ [w68]) : List TPoint) fun l70 =>
   some (.inl ((IntKind.i64.wrap (x61 + 1)), w69.b, w69.i, w69.h, l70))))
noncomputable def spec_l06Path_l0_S (l55 : List Int) (x42 : Int) : ((Int) × (List Int) × (Int) × (Int) × (List TPoint)) → St := fun (x61, x62, x63, x64, x65) => ⟨[(0, AV.optr 0 0 3), (2, AV.optr 1 0 2), (5, AV.optr 2 0 2), (6, AV.int .i64 x42), (7, AV.int .i64 1), (8, AV.int .i64 x61)], [(0, Ob.box [AV.fsl (List.map (AV.int .u8) x62), AV.int .i64 x63, AV.int .i64 x64]), (1, Ob.box [AV.nilsl, AV.nilsl]), (2, Ob.box [AV.osl 3 0 (List.length l55) (List.length l55), AV.osl 4 0 (List.length x65) (List.length x65)]), (3, Ob.arr 1 (List.map (AV.int .i64) l55) false), (4, Ob.arr 2 (List.map ePoint x65) false)], 5⟩
noncomputable def spec_l06Path_l0_X (l55 : List Int) (x42 : Int) : ((List Int) × (Int) × (Int) × (List TPoint)) → Ex × St := fun (y71, y72, y73, y74) => ((.exit 2), ⟨[(0, AV.optr 0 0 3), (2, AV.optr 1 0 2), (5, AV.optr 2 0 2), (6, AV.int .i64 x42)], [(0, Ob.box [AV.fsl (List.map (AV.int .u8) y71), AV.int .i64 y72, AV.int .i64 y73]), (1, Ob.box [AV.nilsl, AV.nilsl]), (2, Ob.box [AV.osl 3 0 (List.length l55) (List.length l55), AV.osl 4 0 (List.length y74) (List.length y74)]), (3, Ob.arr 1 (List.map (AV.int .i64) l55) false), (4, Ob.arr 2 (List.map ePoint y74) false)], 5⟩)
noncomputable def spec_l06Path_l1 (l77 : List Int) (x42 : Int) : ((Int) × (List Int) × (Int) × (Int) × (List TPoint)) → Option (((Int) × (List Int) × (Int) × (Int) × (List TPoint)) ⊕ ((List Int) × (Int) × (Int) × (List TPoint))) := fun (x83, x84, x85, x86, x87) =>
  bnd (spec_NeedOf 1) fun v88 =>
  cnd (ile v88 x83) (
   some (.inr (x84, x85, x86, x87))) (
   bnd (spec_l04Point (TL01Cur.mk x84 x85 x86)) fun (w90, w91) =>
   chkP ((List.length x87 + 1) * 16 ≤ 17592186044416) (
   nam ((x87 ++ [w90]) : List TPoint) fun l92 =>
   some (.inl ((IntKind.i64.wrap (x83 + 1)), w91.b, w91.i, w91.h, l92))))
noncomputable def spec_l06Path_l1_S (l77 : List Int) (x42 : Int) : ((Int) × (List Int) × (Int) × (Int) × (List TPoint)) → St := fun (x83, x84, x85, x86, x87) => ⟨[(0, AV.optr 0 0 3), (2, AV.optr 1 0 2), (5, AV.optr 2 0 2), (6, AV.int .i64 x42), (7, AV.int .i64 1), (8, AV.int .i64 x83)], [(0, Ob.box [AV.fsl (List.map (AV.int .u8) x84), AV.int .i64 x85, AV.int .i64 x86]), (1, Ob.box [AV.nilsl, AV.nilsl]), (2, Ob.box [AV.osl 3 0 (List.length l77) (List.length l77), AV.osl 4 0 (List.length x87) (List.length x87)]), (3, Ob.arr 1 (List.map (AV.int .i64) l77) false), (4, Ob.arr 2 (List.map ePoint x87) false)], 5⟩
noncomputable def spec_l06Path_l1_X (l77 : List Int) (x42 : Int) : ((List Int) × (Int) × (Int) × (List TPoint)) → Ex × St := fun (y93, y94, y95, y96) => ((.exit 2), ⟨[(0, AV.optr 0 0 3), (2, AV.optr 1 0 2), (5, AV.optr 2 0 2), (6, AV.int .i64 x42)], [(0, Ob.box [AV.fsl (List.map (AV.int .u8) y93), AV.int .i64 y94, AV.int .i64 y95]), (1, Ob.box [AV.nilsl, AV.nilsl]), (2, Ob.box [AV.osl 3 0 (List.length l77) (List.length l77), AV.osl 4 0 (List.length y96) (List.length y96)]), (3, Ob.arr 1 (List.map (AV.int .i64) l77) false), (4, Ob.arr 2 (List.map ePoint y96) false)], 5⟩)
noncomputable def spec_l06Path_l2 (l98 : List Int) (w52 : Int) (x42 : Int) : ((Int) × (List Int) × (Int) × (Int) × (List TPoint)) → Option (((Int) × (List Int) × (Int) × (Int) × (List TPoint)) ⊕ ((List Int) × (Int) × (Int) × (List TPoint))) := fun (x104, x105, x106, x107, x108) =>
  bnd (spec_NeedOf w52) fun v109 =>
  cnd (ile v109 x104) (
   some (.inr (x105, x106, x107, x108))) (
   bnd (spec_l04Point (TL01Cur.mk x105 x106 x107)) fun (w111, w112) =>
   chkP ((List.length x108 + 1) * 16 ≤ 17592186044416) (
   nam ((x108 ++ [w111]) : List TPoint) fun l113 =>
   some (.inl ((IntKind.i64.wrap (x104 + 1)), w112.b, w112.i, w112.h, l113))))
noncomputable def spec_l06Path_l2_S (l98 : List Int) (w52 : Int) (x42 : Int) : ((Int) × (List Int) × (Int) × (Int) × (List TPoint)) → St := fun (x104, x105, x106, x107, x108) => ⟨[(0, AV.optr 0 0 3), (2, AV.optr 1 0 2), (5, AV.optr 2 0 2), (6, AV.int .i64 x42), (7, AV.int .i64 w52), (8, AV.int .i64 x104)], [(0, Ob.box [AV.fsl (List.map (AV.int .u8) x105), AV.int .i64 x106, AV.int .i64 x107]), (1, Ob.box [AV.nilsl, AV.nilsl]), (2, Ob.box [AV.osl 3 0 (List.length l98) (List.length l98), AV.osl 4 0 (List.length x108) (List.length x108)]), (3, Ob.arr 1 (List.map (AV.int .i64) l98) false), (4, Ob.arr 2 (List.map ePoint x108) false)], 5⟩
noncomputable def spec_l06Path_l2_X (l98 : List Int) (w52 : Int) (x42 : Int) : ((List Int) × (Int) × (Int) × (List TPoint)) → Ex × St := fun (y114, y115, y116, y117) => ((.exit 2), ⟨[(0, AV.optr 0 0 3), (2, AV.optr 1 0 2), (5, AV.optr 2 0 2), (6, AV.int .i64 x42)], [(0, Ob.box [AV.fsl (List.map (AV.int .u8) y114), AV.int .i64 y115, AV.int .i64 y116]), (1, Ob.box [AV.nilsl, AV.nilsl]), (2, Ob.box [AV.osl 3 0 (List.length l98) (List.length l98), AV.osl 4 0 (List.length y117) (List.length y117)]), (3, Ob.arr 1 (List.map (AV.int .i64) l98) false), (4, Ob.arr 2 (List.map ePoint y117) false)], 5⟩)
noncomputable def spec_l06Path_l3  : ((Int) × (List Int) × (Int) × (Int) × (List Int) × (List TPoint)) → Option (((Int) × (List Int) × (Int) × (Int) × (List Int) × (List TPoint)) ⊕ (((List Int) × (Int) × (Int) × (List Int) × (List TPoint)) ⊕ ((List Int) × (Int) × (Int) × (List Int) × (List TPoint)))) := fun (x42, x43, x44, x45, x46, x47) =>
  bnd (spec_l01Below 6 (TL01Cur.mk x43 x44 x45)) fun (w49, w50) =>
  cnd (ile (IntKind.i64.wrap (1 + w49)) x42) (
   some (.inr (.inl (w50.b, w50.i, w50.h, x46, x47)))) (
   bnd (spec_l01PickInt w50 [2, 2, 2, 3, 4, 5, 1]) fun (w52, w53) =>
   cnd (ieq x42 0) (
    bnd (spec_NeedOf 1) fun v54 =>
    cnd (ile (IntKind.i64.wrap ((List.length x47 : Int) + v54)) 24) (
     chkP ((List.length x46 + 1) * 8 ≤ 17592186044416) (
     nam ((x46 ++ [1]) : List Int) fun l55 =>
     bnd (loopI (spec_l06Path_l0 l55 x42) (0, w53.b, w53.i, w53.h, x47)) fun (y71, y72, y73, y74) =>
     some (.inl ((IntKind.i64.wrap (x42 + 1)), y71, y72, y73, l55, y74)))) (
     some (.inr (.inr (w53.b, w53.i, w53.h, x46, x47))))) (
    bnd (idx x46 (IntKind.i64.wrap (x42 - 1))) fun v75 =>
    cnd (ieq v75 5) (
     bnd (spec_NeedOf 1) fun v76 =>
     cnd (ile (IntKind.i64.wrap ((List.length x47 : Int) + v76)) 24) (
      chkP ((List.length x46 + 1) * 8 ≤ 17592186044416) (
      nam ((x46 ++ [1]) : List Int) fun l77 =>
      bnd (loopI (spec_l06Path_l1 l77 x42) (0, w53.b, w53.i, w53.h, x47)) fun (y93, y94, y95, y96) =>
      some (.inl ((IntKind.i64.wrap (x42 + 1)), y93, y94, y95, l77, y96)))) (
      some (.inr (.inr (w53.b, w53.i, w53.h, x46, x47))))) (
     bnd (spec_NeedOf w52) fun v97 =>
     cnd (ile (IntKind.i64.wrap ((List.length x47 : Int) + v97)) 24) (
      chkP ((List.length x46 + 1) * 8 ≤ 17592186044416) (
      nam ((x46 ++ [w52]) : List Int) fun l98 =>
      bnd (loopI (spec_l06Path_l2 l98 w52 x42) (0, w53.b, w53.i, w53.h, x47)) fun (y114, y115, y116, y117) =>
      some (.inl ((IntKind.i64.wrap (x42 + 1)), y114, y115, y116, l98, y117)))) (
      some (.inr (.inr (w53.b, w53.i, w53.h, x46, x47)))))))
noncomputable def spec_l06Path_l3_S  : ((Int) × (List Int) × (Int) × (Int) × (List Int) × (List TPoint)) → St := fun (x42, x43, x44, x45, x46, x47) => ⟨[(0, AV.optr 0 0 3), (2, AV.optr 1 0 2), (5, AV.optr 2 0 2), (6, AV.int .i64 x42)], [(0, Ob.box [AV.fsl (List.map (AV.int .u8) x43), AV.int .i64 x44, AV.int .i64 x45]), (1, Ob.box [AV.nilsl, AV.nilsl]), (2, Ob.box [AV.osl 3 0 (List.length x46) (List.length x46), AV.osl 4 0 (List.length x47) (List.length x47)]), (3, Ob.arr 1 (List.map (AV.int .i64) x46) false), (4, Ob.arr 2 (List.map ePoint x47) false)], 5⟩
noncomputable def spec_l06Path_l3_X  : (((List Int) × (Int) × (Int) × (List Int) × (List TPoint)) ⊕ ((List Int) × (Int) × (Int) × (List Int) × (List TPoint))) → Ex × St := fun q => match q with
  | .inl (y118, y119, y120, y121, y122) => ((.exit 0), ⟨[(2, AV.optr 1 0 2), (5, AV.optr 2 0 2)], [(0, Ob.box [AV.fsl (List.map (AV.int .u8) y118), AV.int .i64 y119, AV.int .i64 y120]), (1, Ob.box [AV.nilsl, AV.nilsl]), (2, Ob.box [AV.osl 3 0 (List.length y121) (List.length y121), AV.osl 4 0 (List.length y122) (List.length y122)]), (3, Ob.arr 1 (List.map (AV.int .i64) y121) false), (4, Ob.arr 2 (List.map ePoint y122) false)], 5⟩)
  | .inr (y123, y124, y125, y126, y127) => (.ret, ⟨[(2, AV.optr 1 0 2)], [(0, Ob.box [AV.fsl (List.map (AV.int .u8) y123), AV.int .i64 y124, AV.int .i64 y125]), (1, Ob.box [AV.osl 2 0 (List.length y126) (List.length y126), AV.osl 3 0 (List.length y127) (List.length y127)]), (2, Ob.arr 1 (List.map (AV.int .i64) y126) false), (3, Ob.arr 2 (List.map ePoint y127) false)], 4⟩)
noncomputable def spec_l06Path (a0 : TL01Cur) : Option ((TPath) × (TL01Cur)) :=
  bnd (spec_l01Once 2 a0) fun (w2, w3) =>
  cnd w2 (
   bnd (spec_l01Below 2400 w3) fun (w5, w6) =>
   bnd (spec_l01Below 2400 w6) fun (w8, w9) =>
   bnd (spec_l01Below 1500 w9) fun (w11, w12) =>
   bnd (spec_l01Below 1500 w12) fun (w14, w15) =>
   bnd (spec_RectPath (TBox.mk w5 w8 (IntKind.i64.wrap ((IntKind.i64.wrap (w5 + 1)) + w11)) (IntKind.i64.wrap ((IntKind.i64.wrap (w8 + 1)) + w14)))) fun v16 =>
   some (v16, w15)) (
   bnd (loopI spec_l06Path_l3 (0, w3.b, w3.i, w3.h, [], [])) fun q => match q with
   | .inl (y118, y119, y120, y121, y122) =>
    some ((TPath.mk y121 y122), (TL01Cur.mk y118 y119 y120))
   | .inr (y123, y124, y125, y126, y127) =>
    some ((TPath.mk y126 y127), (TL01Cur.mk y123 y124 y125)))
noncomputable def spec_l06Path_e (q : (TL01Cur)) : List AV × List Ob := ([AV.optr 0 0 3], [Ob.box [AV.fsl (List.map (AV.int .u8) q.b), AV.int .i64 q.i, AV.int .i64 q.h]])
noncomputable def spec_l06Path_v (q : (TL01Cur)) (r : (TPath) × (TL01Cur)) : AV × List Ob := (AV.agg [AV.fsl (List.map (AV.int .i64) r.1.verbs), AV.fsl (List.map ePoint r.1.points)], [Ob.box [AV.fsl (List.map (AV.int .u8) r.2.b), AV.int .i64 r.2.i, AV.int .i64 r.2.h]])
noncomputable def spec_l06Path_x : List AV → List Ob → Option (AV × List Ob) := xOf spec_l06Path_e (fun q => spec_l06Path q) spec_l06Path_v
theorem spec_l06Path_i : ∀ a b, spec_l06Path_e a = spec_l06Path_e b → a = b := by rintro ⟨x0, x1, x2⟩ ⟨y0, y1, y2⟩ h; simp [spec_l06Path_e] at h; simp [h]
@[simp] theorem spec_l06Path_k (z0 : List Int) (z1 : Int) (z2 : Int) : spec_l06Path_x [AV.optr 0 0 3] [Ob.box [AV.fsl (List.map (AV.int .u8) z0), AV.int .i64 z1, AV.int .i64 z2]] = mapR (spec_l06Path ⟨z0, z1, z2⟩) (fun r => (AV.agg [AV.fsl (List.map (AV.int .i64) r.1.verbs), AV.fsl (List.map ePoint r.1.points)], [Ob.box [AV.fsl (List.map (AV.int .u8) r.2.b), AV.int .i64 r.2.i, AV.int .i64 r.2.h]])) :=
  xOf_eq spec_l06Path_i ⟨z0, z1, z2⟩
/-! spec_PathOk: function 184 -/
noncomputable def spec_PathOk_l0 (a0 : TPath) : ((Int) × (Int)) → Option (((Int) × (Int)) ⊕ (((Int)) ⊕ (Unit))) := fun (x3, x4) =>
  cnd (ile (List.length a0.verbs : Int) x4) (
   some (.inr (.inl x3))) (
   bnd (idx a0.verbs x4) fun v5 =>
   bnd (spec_NeedOf v5) fun v6 =>
   cnd (ile 0 v6) (
    cnd (ieq x4 0) (
     cnd (ieq v5 1) (
      some (.inl ((IntKind.i64.wrap (x3 + v6)), (IntKind.i64.wrap (x4 + 1))))) (
      some (.inr (.inr ())))) (
     bnd (idx a0.verbs (IntKind.i64.wrap (x4 - 1))) fun v7 =>
     cnd (ieq v7 5) (
      cnd (ieq v5 1) (
       some (.inl ((IntKind.i64.wrap (x3 + v6)), (IntKind.i64.wrap (x4 + 1))))) (
       some (.inr (.inr ())))) (
      some (.inl ((IntKind.i64.wrap (x3 + v6)), (IntKind.i64.wrap (x4 + 1))))))) (
    some (.inr (.inr ()))))
noncomputable def spec_PathOk_l0_S (a0 : TPath) : ((Int) × (Int)) → St := fun (x3, x4) => ⟨[(1, AV.optr 0 0 2), (3, AV.int .i64 x3), (4, AV.int .i64 x4)], [(0, Ob.box [AV.fsl (List.map (AV.int .i64) a0.verbs), AV.fsl (List.map ePoint a0.points)])], 1⟩
noncomputable def spec_PathOk_l0_X (a0 : TPath) : (((Int)) ⊕ (Unit)) → Ex × St := fun q => match q with
  | .inl y8 => ((.exit 0), ⟨[(1, AV.optr 0 0 2), (3, AV.int .i64 y8)], [(0, Ob.box [AV.fsl (List.map (AV.int .i64) a0.verbs), AV.fsl (List.map ePoint a0.points)])], 1⟩)
  | .inr _ => (.ret, ⟨[(2, AV.bool false)], [], 0⟩)
noncomputable def spec_PathOk_l1 (a0 : TPath) (y8 : Int) : ((Int)) → Option (((Int)) ⊕ ((Unit) ⊕ (Unit))) := fun x11 =>
  cnd (ile (List.length a0.points : Int) x11) (
   some (.inr (.inl ()))) (
   bnd (idx a0.points x11) fun v12 =>
   bnd (spec_PointOk v12) fun v13 =>
   cnd v13 (
    some (.inl (IntKind.i64.wrap (x11 + 1)))) (
    some (.inr (.inr ()))))
noncomputable def spec_PathOk_l1_S (a0 : TPath) (y8 : Int) : ((Int)) → St := fun x11 => ⟨[(1, AV.optr 0 0 2), (3, AV.int .i64 y8), (6, AV.int .i64 x11)], [(0, Ob.box [AV.fsl (List.map (AV.int .i64) a0.verbs), AV.fsl (List.map ePoint a0.points)])], 1⟩
noncomputable def spec_PathOk_l1_X (a0 : TPath) (y8 : Int) : ((Unit) ⊕ (Unit)) → Ex × St := fun q => match q with
  | .inl _ => ((.exit 2), ⟨[(1, AV.optr 0 0 2), (3, AV.int .i64 y8)], [(0, Ob.box [AV.fsl (List.map (AV.int .i64) a0.verbs), AV.fsl (List.map ePoint a0.points)])], 1⟩)
  | .inr _ => (.ret, ⟨[(2, AV.bool false)], [], 0⟩)
noncomputable def spec_PathOk (a0 : TPath) : Option ((Bool)) :=
  cnd (ile (List.length a0.points : Int) 24) (
   cnd (ile (List.length a0.verbs : Int) 24) (
    bnd (loopI (spec_PathOk_l0 a0) (0, 0)) fun q => match q with
    | .inl y8 =>
     bnd (loopI (spec_PathOk_l1 a0 y8) 0) fun q => match q with
     | .inl () =>
      some (ieq y8 (List.length a0.points : Int))
     | .inr () =>
      some false
    | .inr () =>
     some false) (
    some false)) (
   some false)
noncomputable def spec_PathOk_e (q : (TPath)) : List AV × List Ob := ([AV.agg [AV.fsl (List.map (AV.int .i64) q.verbs), AV.fsl (List.map ePoint q.points)]], [])
noncomputable def spec_PathOk_v (q : (TPath)) (r : (Bool)) : AV × List Ob := (AV.bool r, [])
noncomputable def spec_PathOk_x : List AV → List Ob → Option (AV × List Ob) := xOf spec_PathOk_e (fun q => spec_PathOk q) spec_PathOk_v
theorem spec_PathOk_i : ∀ a b, spec_PathOk_e a = spec_PathOk_e b → a = b := by rintro ⟨x0, x1⟩ ⟨y0, y1⟩ h; simp [spec_PathOk_e] at h; simp [h]
@[simp] theorem spec_PathOk_k (z0 : List Int) (z1 : List TPoint) : spec_PathOk_x [AV.agg [AV.fsl (List.map (AV.int .i64) z0), AV.fsl (List.map ePoint z1)]] [] = mapR (spec_PathOk ⟨z0, z1⟩) (fun r => (AV.bool r, [])) :=
  xOf_eq spec_PathOk_i ⟨z0, z1⟩
/-! spec_Clamp: function 228 -/
noncomputable def spec_Clamp (a0 : Int) (a1 : Int) (a2 : Int) : Option ((Int)) :=
  cnd (ile a1 a0) (
   cnd (ile a0 a2) (
    some a0) (
    some a2)) (
   some a1)
noncomputable def spec_Clamp_e (q : (Int) × (Int) × (Int)) : List AV × List Ob := ([AV.int .i64 q.1, AV.int .i64 q.2.1, AV.int .i64 q.2.2], [])
noncomputable def spec_Clamp_v (q : (Int) × (Int) × (Int)) (r : (Int)) : AV × List Ob := (AV.int .i64 r, [])
noncomputable def spec_Clamp_x : List AV → List Ob → Option (AV × List Ob) := xOf spec_Clamp_e (fun q => spec_Clamp q.1 q.2.1 q.2.2) spec_Clamp_v
theorem spec_Clamp_i : ∀ a b, spec_Clamp_e a = spec_Clamp_e b → a = b := by rintro ⟨x0, x1, x2⟩ ⟨y0, y1, y2⟩ h; simp [spec_Clamp_e] at h; simp [h]
@[simp] theorem spec_Clamp_k (z0 : Int) (z1 : Int) (z2 : Int) : spec_Clamp_x [AV.int .i64 z0, AV.int .i64 z1, AV.int .i64 z2] [] = mapR (spec_Clamp z0 z1 z2) (fun r => (AV.int .i64 r, [])) :=
  xOf_eq spec_Clamp_i (z0, z1, z2)
/-! spec_FloorDiv: function 234 -/
noncomputable def spec_FloorDiv (a0 : Int) (a1 : Int) : Option ((Int)) :=
  cnd (ile 1 a1) (
   chkP (¬ a1 = 0) (
   cnd (ile 0 (Int.tmod a0 a1)) (
    some (IntKind.i64.wrap (Int.tdiv a0 a1))) (
    some (IntKind.i64.wrap ((IntKind.i64.wrap (Int.tdiv a0 a1)) - 1))))) (
   some 0)
noncomputable def spec_FloorDiv_e (q : (Int) × (Int)) : List AV × List Ob := ([AV.int .i64 q.1, AV.int .i64 q.2], [])
noncomputable def spec_FloorDiv_v (q : (Int) × (Int)) (r : (Int)) : AV × List Ob := (AV.int .i64 r, [])
noncomputable def spec_FloorDiv_x : List AV → List Ob → Option (AV × List Ob) := xOf spec_FloorDiv_e (fun q => spec_FloorDiv q.1 q.2) spec_FloorDiv_v
theorem spec_FloorDiv_i : ∀ a b, spec_FloorDiv_e a = spec_FloorDiv_e b → a = b := by rintro ⟨x0, x1⟩ ⟨y0, y1⟩ h; simp [spec_FloorDiv_e] at h; simp [h]
@[simp] theorem spec_FloorDiv_k (z0 : Int) (z1 : Int) : spec_FloorDiv_x [AV.int .i64 z0, AV.int .i64 z1] [] = mapR (spec_FloorDiv z0 z1) (fun r => (AV.int .i64 r, [])) :=
  xOf_eq spec_FloorDiv_i (z0, z1)
/-! spec_RoundDiv: function 229 -/
noncomputable def spec_RoundDiv (a0 : Int) (a1 : Int) : Option ((Int)) :=
  cnd (ile 1 a1) (
   bnd (spec_FloorDiv a0 a1) fun v1 =>
   cnd (ile (IntKind.i64.wrap (a1 - (IntKind.i64.wrap (a0 - (IntKind.i64.wrap (v1 * a1)))))) (IntKind.i64.wrap (a0 - (IntKind.i64.wrap (v1 * a1))))) (
    some (IntKind.i64.wrap (v1 + 1))) (
    some v1)) (
   some 0)
noncomputable def spec_RoundDiv_e (q : (Int) × (Int)) : List AV × List Ob := ([AV.int .i64 q.1, AV.int .i64 q.2], [])
noncomputable def spec_RoundDiv_v (q : (Int) × (Int)) (r : (Int)) : AV × List Ob := (AV.int .i64 r, [])
noncomputable def spec_RoundDiv_x : List AV → List Ob → Option (AV × List Ob) := xOf spec_RoundDiv_e (fun q => spec_RoundDiv q.1 q.2) spec_RoundDiv_v
theorem spec_RoundDiv_i : ∀ a b, spec_RoundDiv_e a = spec_RoundDiv_e b → a = b := by rintro ⟨x0, x1⟩ ⟨y0, y1⟩ h; simp [spec_RoundDiv_e] at h; simp [h]
@[simp] theorem spec_RoundDiv_k (z0 : Int) (z1 : Int) : spec_RoundDiv_x [AV.int .i64 z0, AV.int .i64 z1] [] = mapR (spec_RoundDiv z0 z1) (fun r => (AV.int .i64 r, [])) :=
  xOf_eq spec_RoundDiv_i (z0, z1)
/-! spec_QuadAt: function 210 -/
noncomputable def spec_QuadAt (a0 : TPoint) (a1 : TPoint) (a2 : TPoint) (a3 : Int) : Option ((TPoint)) :=
  bnd (spec_PointOk a0) fun v1 =>
  cnd v1 (
   bnd (spec_PointOk a1) fun v2 =>
   cnd v2 (
    bnd (spec_PointOk a2) fun v3 =>
    cnd v3 (
     bnd (spec_Clamp a3 0 4) fun v4 =>
     bnd (spec_RoundDiv (IntKind.i64.wrap ((IntKind.i64.wrap ((IntKind.i64.wrap ((IntKind.i64.wrap ((IntKind.i64.wrap (4 - v4)) * (IntKind.i64.wrap (4 - v4)))) * a0.x)) + (IntKind.i64.wrap ((IntKind.i64.wrap ((IntKind.i64.wrap (2 * v4)) * (IntKind.i64.wrap (4 - v4)))) * a1.x)))) + (IntKind.i64.wrap ((IntKind.i64.wrap (v4 * v4)) * a2.x)))) 16) fun v5 =>
     bnd (spec_RoundDiv (IntKind.i64.wrap ((IntKind.i64.wrap ((IntKind.i64.wrap ((IntKind.i64.wrap ((IntKind.i64.wrap (4 - v4)) * (IntKind.i64.wrap (4 - v4)))) * a0.y)) + (IntKind.i64.wrap ((IntKind.i64.wrap ((IntKind.i64.wrap (2 * v4)) * (IntKind.i64.wrap (4 - v4)))) * a1.y)))) + (IntKind.i64.wrap ((IntKind.i64.wrap (v4 * v4)) * a2.y)))) 16) fun v6 =>
     some (TPoint.mk v5 v6)) (
     some (TPoint.mk 0 0))) (
    some (TPoint.mk 0 0))) (
   some (TPoint.mk 0 0))
noncomputable def spec_QuadAt_e (q : (TPoint) × (TPoint) × (TPoint) × (Int)) : List AV × List Ob := ([AV.agg [AV.int .i64 q.1.x, AV.int .i64 q.1.y], AV.agg [AV.int .i64 q.2.1.x, AV.int .i64 q.2.1.y], AV.agg [AV.int .i64 q.2.2.1.x, AV.int .i64 q.2.2.1.y], AV.int .i64 q.2.2.2], [])
noncomputable def spec_QuadAt_v (q : (TPoint) × (TPoint) × (TPoint) × (Int)) (r : (TPoint)) : AV × List Ob := (AV.agg [AV.int .i64 r.x, AV.int .i64 r.y], [])
noncomputable def spec_QuadAt_x : List AV → List Ob → Option (AV × List Ob) := xOf spec_QuadAt_e (fun q => spec_QuadAt q.1 q.2.1 q.2.2.1 q.2.2.2) spec_QuadAt_v
theorem spec_QuadAt_i : ∀ a b, spec_QuadAt_e a = spec_QuadAt_e b → a = b := by rintro ⟨⟨x0, x1⟩, ⟨x2, x3⟩, ⟨x4, x5⟩, x6⟩ ⟨⟨y0, y1⟩, ⟨y2, y3⟩, ⟨y4, y5⟩, y6⟩ h; simp [spec_QuadAt_e] at h; simp [h]
@[simp] theorem spec_QuadAt_k (z0 : Int) (z1 : Int) (z2 : Int) (z3 : Int) (z4 : Int) (z5 : Int) (z6 : Int) : spec_QuadAt_x [AV.agg [AV.int .i64 z0, AV.int .i64 z1], AV.agg [AV.int .i64 z2, AV.int .i64 z3], AV.agg [AV.int .i64 z4, AV.int .i64 z5], AV.int .i64 z6] [] = mapR (spec_QuadAt ⟨z0, z1⟩ ⟨z2, z3⟩ ⟨z4, z5⟩ z6) (fun r => (AV.agg [AV.int .i64 r.x, AV.int .i64 r.y], [])) :=
  xOf_eq spec_QuadAt_i (⟨z0, z1⟩, ⟨z2, z3⟩, ⟨z4, z5⟩, z6)
/-! spec_CubicAt: function 211 -/
noncomputable def spec_CubicAt (a0 : TPoint) (a1 : TPoint) (a2 : TPoint) (a3 : TPoint) (a4 : Int) : Option ((TPoint)) :=
  bnd (spec_PointOk a0) fun v1 =>
  cnd v1 (
   bnd (spec_PointOk a1) fun v2 =>
   cnd v2 (
    bnd (spec_PointOk a2) fun v3 =>
    cnd v3 (
     bnd (spec_PointOk a3) fun v4 =>
     cnd v4 (
      bnd (spec_Clamp a4 0 8) fun v5 =>
      bnd (spec_RoundDiv (IntKind.i64.wrap ((IntKind.i64.wrap ((IntKind.i64.wrap ((IntKind.i64.wrap ((IntKind.i64.wrap ((IntKind.i64.wrap ((IntKind.i64.wrap (8 - v5)) * (IntKind.i64.wrap (8 - v5)))) * (IntKind.i64.wrap (8 - v5)))) * a0.x)) + (IntKind.i64.wrap ((IntKind.i64.wrap ((IntKind.i64.wrap ((IntKind.i64.wrap (3 * v5)) * (IntKind.i64.wrap (8 - v5)))) * (IntKind.i64.wrap (8 - v5)))) * a1.x)))) + (IntKind.i64.wrap ((IntKind.i64.wrap ((IntKind.i64.wrap ((IntKind.i64.wrap (3 * v5)) * v5)) * (IntKind.i64.wrap (8 - v5)))) * a2.x)))) + (IntKind.i64.wrap ((IntKind.i64.wrap ((IntKind.i64.wrap (v5 * v5)) * v5)) * a3.x)))) 512) fun v6 =>
      bnd (spec_RoundDiv (IntKind.i64.wrap ((IntKind.i64.wrap ((IntKind.i64.wrap ((IntKind.i64.wrap ((IntKind.i64.wrap ((IntKind.i64.wrap ((IntKind.i64.wrap (8 - v5)) * (IntKind.i64.wrap (8 - v5)))) * (IntKind.i64.wrap (8 - v5)))) * a0.y)) + (IntKind.i64.wrap ((IntKind.i64.wrap ((IntKind.i64.wrap ((IntKind.i64.wrap (3 * v5)) * (IntKind.i64.wrap (8 - v5)))) * (IntKind.i64.wrap (8 - v5)))) * a1.y)))) + (IntKind.i64.wrap ((IntKind.i64.wrap ((IntKind.i64.wrap ((IntKind.i64.wrap (3 * v5)) * v5)) * (IntKind.i64.wrap (8 - v5)))) * a2.y)))) + (IntKind.i64.wrap ((IntKind.i64.wrap ((IntKind.i64.wrap (v5 * v5)) * v5)) * a3.y)))) 512) fun v7 =>
      some (TPoint.mk v6 v7)) (
      some (TPoint.mk 0 0))) (
     some (TPoint.mk 0 0))) (
    some (TPoint.mk 0 0))) (
   some (TPoint.mk 0 0))
noncomputable def spec_CubicAt_e (q : (TPoint) × (TPoint) × (TPoint) × (TPoint) × (Int)) : List AV × List Ob := ([AV.agg [AV.int .i64 q.1.x, AV.int .i64 q.1.y], AV.agg [AV.int .i64 q.2.1.x, AV.int .i64 q.2.1.y], AV.agg [AV.int .i64 q.2.2.1.x, AV.int .i64 q.2.2.1.y], AV.agg [AV.int .i64 q.2.2.2.1.x, AV.int .i64 q.2.2.2.1.y], AV.int .i64 q.2.2.2.2], [])
noncomputable def spec_CubicAt_v (q : (TPoint) × (TPoint) × (TPoint) × (TPoint) × (Int)) (r : (TPoint)) : AV × List Ob := (AV.agg [AV.int .i64 r.x, AV.int .i64 r.y], [])
noncomputable def spec_CubicAt_x : List AV → List Ob → Option (AV × List Ob) := xOf spec_CubicAt_e (fun q => spec_CubicAt q.1 q.2.1 q.2.2.1 q.2.2.2.1 q.2.2.2.2) spec_CubicAt_v
theorem spec_CubicAt_i : ∀ a b, spec_CubicAt_e a = spec_CubicAt_e b → a = b := by rintro ⟨⟨x0, x1⟩, ⟨x2, x3⟩, ⟨x4, x5⟩, ⟨x6, x7⟩, x8⟩ ⟨⟨y0, y1⟩, ⟨y2, y3⟩, ⟨y4, y5⟩, ⟨y6, y7⟩, y8⟩ h; simp [spec_CubicAt_e] at h; simp [h]
@[simp] theorem spec_CubicAt_k (z0 : Int) (z1 : Int) (z2 : Int) (z3 : Int) (z4 : Int) (z5 : Int) (z6 : Int) (z7 : Int) (z8 : Int) : spec_CubicAt_x [AV.agg [AV.int .i64 z0, AV.int .i64 z1], AV.agg [AV.int .i64 z2, AV.int .i64 z3], AV.agg [AV.int .i64 z4, AV.int .i64 z5], AV.agg [AV.int .i64 z6, AV.int .i64 z7], AV.int .i64 z8] [] = mapR (spec_CubicAt ⟨z0, z1⟩ ⟨z2, z3⟩ ⟨z4, z5⟩ ⟨z6, z7⟩ z8) (fun r => (AV.agg [AV.int .i64 r.x, AV.int .i64 r.y], [])) :=
  xOf_eq spec_CubicAt_i (⟨z0, z1⟩, ⟨z2, z3⟩, ⟨z4, z5⟩, ⟨z6, z7⟩, z8)
/-! spec_FlatOf: function 168 -/
noncomputable def spec_FlatOf_l0 (a0 : TPath) (v89 : TPoint) (x34 : Int) (x35 : Int) (x79 : List (List TPoint)) : ((Int) × (List TPoint)) → Option (((Int) × (List TPoint)) ⊕ ((List TPoint))) := fun (x94, x95) =>
  cnd (ile x94 4) (
   bnd (idx a0.points x34) fun v96 =>
   bnd (idx a0.points (IntKind.i64.wrap (x34 + 1))) fun v97 =>
   bnd (spec_QuadAt v89 v96 v97 x94) fun v98 =>
   chkP ((List.length x95 + 1) * 16 ≤ 17592186044416) (
   nam ((x95 ++ [v98]) : List TPoint) fun l99 =>
   some (.inl ((IntKind.i64.wrap (x94 + 1)), l99)))) (
   some (.inr x95))
noncomputable def spec_FlatOf_l0_S (a0 : TPath) (v89 : TPoint) (x34 : Int) (x35 : Int) (x79 : List (List TPoint)) : ((Int) × (List TPoint)) → St := fun (x94, x95) => ⟨[(1, AV.optr 0 0 2), (3, AV.osl 1 0 (List.length x79) (List.length x79)), (4, AV.osl 2 0 (List.length x95) (List.length x95)), (5, AV.int .i64 x34), (6, AV.int .i64 x35), (7, AV.optr 3 0 2), (8, AV.int .i64 x94)], [(0, Ob.box [AV.fsl (List.map (AV.int .i64) a0.verbs), AV.fsl (List.map ePoint a0.points)]), (1, Ob.arr 1 (List.map (eSl ePoint) x79) false), (2, Ob.arr 2 (List.map ePoint x95) false), (3, Ob.box [AV.int .i64 v89.x, AV.int .i64 v89.y])], 4⟩
noncomputable def spec_FlatOf_l0_X (a0 : TPath) (v89 : TPoint) (x34 : Int) (x35 : Int) (x79 : List (List TPoint)) : ((List TPoint)) → Ex × St := fun y100 => ((.exit 3), ⟨[(1, AV.optr 0 0 2), (3, AV.osl 1 0 (List.length x79) (List.length x79)), (4, AV.osl 2 0 (List.length y100) (List.length y100)), (5, AV.int .i64 x34), (6, AV.int .i64 x35)], [(0, Ob.box [AV.fsl (List.map (AV.int .i64) a0.verbs), AV.fsl (List.map ePoint a0.points)]), (1, Ob.arr 1 (List.map (eSl ePoint) x79) false), (2, Ob.arr 2 (List.map ePoint y100) false)], 3⟩)
noncomputable def spec_FlatOf_l1 (a0 : TPath) (v102 : TPoint) (x34 : Int) (x35 : Int) (x79 : List (List TPoint)) : ((Int) × (List TPoint)) → Option (((Int) × (List TPoint)) ⊕ ((List TPoint))) := fun (x108, x109) =>
  cnd (ile x108 8) (
   bnd (idx a0.points x34) fun v110 =>
   bnd (idx a0.points (IntKind.i64.wrap (x34 + 1))) fun v111 =>
   bnd (idx a0.points (IntKind.i64.wrap (x34 + 2))) fun v112 =>
   bnd (spec_CubicAt v102 v110 v111 v112 x108) fun v113 =>
   chkP ((List.length x109 + 1) * 16 ≤ 17592186044416) (
   nam ((x109 ++ [v113]) : List TPoint) fun l114 =>
   some (.inl ((IntKind.i64.wrap (x108 + 1)), l114)))) (
   some (.inr x109))
noncomputable def spec_FlatOf_l1_S (a0 : TPath) (v102 : TPoint) (x34 : Int) (x35 : Int) (x79 : List (List TPoint)) : ((Int) × (List TPoint)) → St := fun (x108, x109) => ⟨[(1, AV.optr 0 0 2), (3, AV.osl 1 0 (List.length x79) (List.length x79)), (4, AV.osl 2 0 (List.length x109) (List.length x109)), (5, AV.int .i64 x34), (6, AV.int .i64 x35), (9, AV.optr 3 0 2), (10, AV.int .i64 x108)], [(0, Ob.box [AV.fsl (List.map (AV.int .i64) a0.verbs), AV.fsl (List.map ePoint a0.points)]), (1, Ob.arr 1 (List.map (eSl ePoint) x79) false), (2, Ob.arr 2 (List.map ePoint x109) false), (3, Ob.box [AV.int .i64 v102.x, AV.int .i64 v102.y])], 4⟩
noncomputable def spec_FlatOf_l1_X (a0 : TPath) (v102 : TPoint) (x34 : Int) (x35 : Int) (x79 : List (List TPoint)) : ((List TPoint)) → Ex × St := fun y115 => ((.exit 5), ⟨[(1, AV.optr 0 0 2), (3, AV.osl 1 0 (List.length x79) (List.length x79)), (4, AV.osl 2 0 (List.length y115) (List.length y115)), (5, AV.int .i64 x34), (6, AV.int .i64 x35)], [(0, Ob.box [AV.fsl (List.map (AV.int .i64) a0.verbs), AV.fsl (List.map ePoint a0.points)]), (1, Ob.arr 1 (List.map (eSl ePoint) x79) false), (2, Ob.arr 2 (List.map ePoint y115) false)], 3⟩)
noncomputable def spec_FlatOf_l2 (a0 : TPath) : ((Int) × (Int) × (List TPoint) × (List (List TPoint))) → Option (((Int) × (Int) × (List TPoint) × (List (List TPoint))) ⊕ ((List (List TPoint)) × (List TPoint))) := fun (x34, x35, x36, x79) =>
  cnd (ile (List.length a0.verbs : Int) x35) (
   some (.inr (x79, x36))) (
   bnd (idx a0.verbs x35) fun v80 =>
   cnd (ieq v80 1) (
    cnd (ile x35 0) (
     bnd (idx a0.points x34) fun v81 =>
     bnd (spec_NeedOf v80) fun v82 =>
     some (.inl ((IntKind.i64.wrap (x34 + v82)), (IntKind.i64.wrap (x35 + 1)), [v81], x79))) (
     chkP ((List.length x79 + 1) * 24 ≤ 17592186044416) (
     nam ((x79 ++ [x36]) : List (List TPoint)) fun l83 =>
     bnd (idx a0.points x34) fun v84 =>
     bnd (spec_NeedOf v80) fun v85 =>
     some (.inl ((IntKind.i64.wrap (x34 + v85)), (IntKind.i64.wrap (x35 + 1)), [v84], l83))))) (
    cnd (ieq v80 2) (
     bnd (idx a0.points x34) fun v86 =>
     chkP ((List.length x36 + 1) * 16 ≤ 17592186044416) (
     nam ((x36 ++ [v86]) : List TPoint) fun l87 =>
     bnd (spec_NeedOf v80) fun v88 =>
     some (.inl ((IntKind.i64.wrap (x34 + v88)), (IntKind.i64.wrap (x35 + 1)), l87, x79)))) (
     cnd (ieq v80 3) (
      bnd (idx x36 (IntKind.i64.wrap ((List.length x36 : Int) - 1))) fun v89 =>
      bnd (loopI (spec_FlatOf_l0 a0 v89 x34 x35 x79) (1, x36)) fun y100 =>
      bnd (spec_NeedOf v80) fun v101 =>
      some (.inl ((IntKind.i64.wrap (x34 + v101)), (IntKind.i64.wrap (x35 + 1)), y100, x79))) (
      cnd (ieq v80 4) (
       bnd (idx x36 (IntKind.i64.wrap ((List.length x36 : Int) - 1))) fun v102 =>
       bnd (loopI (spec_FlatOf_l1 a0 v102 x34 x35 x79) (1, x36)) fun y115 =>
       bnd (spec_NeedOf v80) fun v116 =>
       some (.inl ((IntKind.i64.wrap (x34 + v116)), (IntKind.i64.wrap (x35 + 1)), y115, x79))) (
       cnd (ieq v80 5) (
        bnd (idx x36 0) fun v117 =>
        bnd (idx x36 (IntKind.i64.wrap ((List.length x36 : Int) - 1))) fun v118 =>
        cnd (andB (decide (v117.x = v118.x)) (andB (decide (v117.y = v118.y)) true)) (
         bnd (spec_NeedOf v80) fun v119 =>
         some (.inl ((IntKind.i64.wrap (x34 + v119)), (IntKind.i64.wrap (x35 + 1)), x36, x79))) (
         chkP ((List.length x36 + 1) * 16 ≤ 17592186044416) (
         nam ((x36 ++ [v117]) : List TPoint) fun l120 =>
         bnd (spec_NeedOf v80) fun v121 =>
         some (.inl ((IntKind.i64.wrap (x34 + v121)), (IntKind.i64.wrap (x35 + 1)), l120, x79))))) (
        bnd (spec_NeedOf v80) fun v122 =>
        some (.inl ((IntKind.i64.wrap (x34 + v122)), (IntKind.i64.wrap (x35 + 1)), x36, x79))))))))
noncomputable def spec_FlatOf_l2_S (a0 : TPath) : ((Int) × (Int) × (List TPoint) × (List (List TPoint))) → St := fun (x34, x35, x36, x79) => ⟨[(1, AV.optr 0 0 2), (3, AV.osl 1 0 (List.length x79) (List.length x79)), (4, AV.osl 2 0 (List.length x36) (List.length x36)), (5, AV.int .i64 x34), (6, AV.int .i64 x35)], [(0, Ob.box [AV.fsl (List.map (AV.int .i64) a0.verbs), AV.fsl (List.map ePoint a0.points)]), (1, Ob.arr 1 (List.map (eSl ePoint) x79) false), (2, Ob.arr 2 (List.map ePoint x36) false)], 3⟩
noncomputable def spec_FlatOf_l2_X (a0 : TPath) : ((List (List TPoint)) × (List TPoint)) → Ex × St := fun (y123, y124) => ((.exit 0), ⟨[(3, AV.osl 0 0 (List.length y123) (List.length y123)), (4, AV.osl 1 0 (List.length y124) (List.length y124))], [(0, Ob.arr 1 (List.map (eSl ePoint) y123) false), (1, Ob.arr 2 (List.map ePoint y124) false)], 2⟩)
noncomputable def spec_FlatOf (a0 : TPath) : Option ((List (List TPoint))) :=
  bnd (spec_PathOk a0) fun v1 =>
  cnd v1 (
   bnd (loopI (spec_FlatOf_l2 a0) (0, 0, [], [])) fun (y123, y124) =>
   cnd (ile (List.length y124 : Int) 0) (
    some y123) (
    chkP ((List.length y123 + 1) * 24 ≤ 17592186044416) (
    nam ((y123 ++ [y124]) : List (List TPoint)) fun l125 =>
    some l125))) (
   some [])
noncomputable def spec_FlatOf_e (q : (TPath)) : List AV × List Ob := ([AV.agg [AV.fsl (List.map (AV.int .i64) q.verbs), AV.fsl (List.map ePoint q.points)]], [])
noncomputable def spec_FlatOf_v (q : (TPath)) (r : (List (List TPoint))) : AV × List Ob := (AV.fsl (List.map (eSl ePoint) r), [])
noncomputable def spec_FlatOf_x : List AV → List Ob → Option (AV × List Ob) := xOf spec_FlatOf_e (fun q => spec_FlatOf q) spec_FlatOf_v
theorem spec_FlatOf_i : ∀ a b, spec_FlatOf_e a = spec_FlatOf_e b → a = b := by rintro ⟨x0, x1⟩ ⟨y0, y1⟩ h; simp [spec_FlatOf_e] at h; simp [h]
@[simp] theorem spec_FlatOf_k (z0 : List Int) (z1 : List TPoint) : spec_FlatOf_x [AV.agg [AV.fsl (List.map (AV.int .i64) z0), AV.fsl (List.map ePoint z1)]] [] = mapR (spec_FlatOf ⟨z0, z1⟩) (fun r => (AV.fsl (List.map (eSl ePoint) r), [])) :=
  xOf_eq spec_FlatOf_i ⟨z0, z1⟩
/-! spec_l11Box: function 161 -/
noncomputable def spec_l11Box (a0 : TBox) : Option ((Bool)) :=
  bnd (spec_Empty a0) fun v1 =>
  cnd v1 (
   some false) (
   bnd (spec_l01In a0.x0 (-2000) 2000) fun v2 =>
   cnd v2 (
    bnd (spec_l01In a0.y0 (-2000) 2000) fun v3 =>
    cnd v3 (
     bnd (spec_l01In a0.x1 (-2000) 2000) fun v4 =>
     cnd v4 (
      bnd (spec_l01In a0.y1 (-2000) 2000) fun v5 =>
      cnd v5 (
       cnd (ile (IntKind.i64.wrap (a0.x1 - a0.x0)) 60) (
        some (ile (IntKind.i64.wrap (a0.y1 - a0.y0)) 60)) (
        some false)) (
       some false)) (
      some false)) (
     some false)) (
    some false))
noncomputable def spec_l11Box_e (q : (TBox)) : List AV × List Ob := ([AV.agg [AV.int .i64 q.x0, AV.int .i64 q.y0, AV.int .i64 q.x1, AV.int .i64 q.y1]], [])
noncomputable def spec_l11Box_v (q : (TBox)) (r : (Bool)) : AV × List Ob := (AV.bool r, [])
noncomputable def spec_l11Box_x : List AV → List Ob → Option (AV × List Ob) := xOf spec_l11Box_e (fun q => spec_l11Box q) spec_l11Box_v
theorem spec_l11Box_i : ∀ a b, spec_l11Box_e a = spec_l11Box_e b → a = b := by rintro ⟨x0, x1, x2, x3⟩ ⟨y0, y1, y2, y3⟩ h; simp [spec_l11Box_e] at h; simp [h]
@[simp] theorem spec_l11Box_k (z0 : Int) (z1 : Int) (z2 : Int) (z3 : Int) : spec_l11Box_x [AV.agg [AV.int .i64 z0, AV.int .i64 z1, AV.int .i64 z2, AV.int .i64 z3]] [] = mapR (spec_l11Box ⟨z0, z1, z2, z3⟩) (fun r => (AV.bool r, [])) :=
  xOf_eq spec_l11Box_i ⟨z0, z1, z2, z3⟩
/-! spec_l10Near: function 235 -/
noncomputable def spec_l10Near (a0 : TPoint) : Option ((Bool)) :=
  bnd (spec_l01In a0.x (-33554432) 33554432) fun v1 =>
  cnd v1 (
   bnd (spec_l01In a0.y (-33554432) 33554432) fun v2 =>
   some v2) (
   some false)
noncomputable def spec_l10Near_e (q : (TPoint)) : List AV × List Ob := ([AV.agg [AV.int .i64 q.x, AV.int .i64 q.y]], [])
noncomputable def spec_l10Near_v (q : (TPoint)) (r : (Bool)) : AV × List Ob := (AV.bool r, [])
noncomputable def spec_l10Near_x : List AV → List Ob → Option (AV × List Ob) := xOf spec_l10Near_e (fun q => spec_l10Near q) spec_l10Near_v
theorem spec_l10Near_i : ∀ a b, spec_l10Near_e a = spec_l10Near_e b → a = b := by rintro ⟨x0, x1⟩ ⟨y0, y1⟩ h; simp [spec_l10Near_e] at h; simp [h]
@[simp] theorem spec_l10Near_k (z0 : Int) (z1 : Int) : spec_l10Near_x [AV.agg [AV.int .i64 z0, AV.int .i64 z1]] [] = mapR (spec_l10Near ⟨z0, z1⟩) (fun r => (AV.bool r, [])) :=
  xOf_eq spec_l10Near_i ⟨z0, z1⟩
/-! spec_WindOf: function 233 -/
noncomputable def spec_WindOf_l0 (a0 : List TPoint) (a1 : TPoint) : ((Int) × (Int)) → Option (((Int) × (Int)) ⊕ (((Int)) ⊕ (Unit))) := fun (x6, x7) =>
  cnd (ile (List.length a0 : Int) x6) (
   some (.inr (.inl x7))) (
   bnd (idx a0 x6) fun v8 =>
   chkP (¬ (List.length a0 : Int) = 0) (
   bnd (idx a0 (Int.tmod (IntKind.i64.wrap (x6 + 1)) (List.length a0 : Int))) fun v9 =>
   bnd (spec_l10Near v8) fun v10 =>
   cnd v10 (
    bnd (spec_l10Near v9) fun v11 =>
    cnd v11 (
     cnd (ile v8.y a1.y) (
      cnd (ile v9.y a1.y) (
       some (.inl ((IntKind.i64.wrap (x6 + 1)), x7))) (
       cnd (ile (IntKind.i64.wrap ((IntKind.i64.wrap ((IntKind.i64.wrap (v9.x - v8.x)) * (IntKind.i64.wrap (a1.y - v8.y)))) - (IntKind.i64.wrap ((IntKind.i64.wrap (a1.x - v8.x)) * (IntKind.i64.wrap (v9.y - v8.y)))))) 0) (
        some (.inl ((IntKind.i64.wrap (x6 + 1)), x7))) (
        some (.inl ((IntKind.i64.wrap (x6 + 1)), (IntKind.i64.wrap (x7 + 1))))))) (
      cnd (ile v9.y a1.y) (
       cnd (ile 0 (IntKind.i64.wrap ((IntKind.i64.wrap ((IntKind.i64.wrap (v9.x - v8.x)) * (IntKind.i64.wrap (a1.y - v8.y)))) - (IntKind.i64.wrap ((IntKind.i64.wrap (a1.x - v8.x)) * (IntKind.i64.wrap (v9.y - v8.y))))))) (
        some (.inl ((IntKind.i64.wrap (x6 + 1)), x7))) (
        some (.inl ((IntKind.i64.wrap (x6 + 1)), (IntKind.i64.wrap (x7 - 1)))))) (
       some (.inl ((IntKind.i64.wrap (x6 + 1)), x7))))) (
     some (.inr (.inr ())))) (
    some (.inr (.inr ())))))
noncomputable def spec_WindOf_l0_S (a0 : List TPoint) (a1 : TPoint) : ((Int) × (Int)) → St := fun (x6, x7) => ⟨[(0, AV.fsl (List.map ePoint a0)), (3, AV.optr 0 0 2), (5, AV.int .i64 x7), (6, AV.int .i64 x6)], [(0, Ob.box [AV.int .i64 a1.x, AV.int .i64 a1.y])], 1⟩
noncomputable def spec_WindOf_l0_X (a0 : List TPoint) (a1 : TPoint) : (((Int)) ⊕ (Unit)) → Ex × St := fun q => match q with
  | .inl y12 => ((.exit 0), ⟨[(5, AV.int .i64 y12)], [], 0⟩)
  | .inr _ => (.ret, ⟨[(4, AV.int .i64 0)], [], 0⟩)
noncomputable def spec_WindOf (a0 : List TPoint) (a1 : TPoint) : Option ((Int)) :=
  bnd (spec_l10Near a1) fun v1 =>
  cnd v1 (
   bnd (loopI (spec_WindOf_l0 a0 a1) (0, 0)) fun q => match q with
   | .inl y12 =>
    some y12
   | .inr () =>
    some 0) (
   some 0)
noncomputable def spec_WindOf_e (q : (List TPoint) × (TPoint)) : List AV × List Ob := ([AV.fsl (List.map ePoint q.1), AV.agg [AV.int .i64 q.2.x, AV.int .i64 q.2.y]], [])
noncomputable def spec_WindOf_v (q : (List TPoint) × (TPoint)) (r : (Int)) : AV × List Ob := (AV.int .i64 r, [])
noncomputable def spec_WindOf_x : List AV → List Ob → Option (AV × List Ob) := xOf spec_WindOf_e (fun q => spec_WindOf q.1 q.2) spec_WindOf_v
theorem spec_WindOf_i : ∀ a b, spec_WindOf_e a = spec_WindOf_e b → a = b := by rintro ⟨x0, ⟨x1, x2⟩⟩ ⟨y0, ⟨y1, y2⟩⟩ h; simp [spec_WindOf_e] at h; simp [h]
@[simp] theorem spec_WindOf_k (z0 : List TPoint) (z1 : Int) (z2 : Int) : spec_WindOf_x [AV.fsl (List.map ePoint z0), AV.agg [AV.int .i64 z1, AV.int .i64 z2]] [] = mapR (spec_WindOf z0 ⟨z1, z2⟩) (fun r => (AV.int .i64 r, [])) :=
  xOf_eq spec_WindOf_i (z0, ⟨z1, z2⟩)
/-! spec_Covers: function 227 -/
noncomputable def spec_Covers_l0 (a0 : List (List TPoint)) (a1 : Bool) (a2 : TPoint) : ((Int) × (Int)) → Option (((Int) × (Int)) ⊕ ((Int))) := fun (x3, x4) =>
  cnd (ile (List.length a0 : Int) x4) (
   some (.inr x3)) (
   bnd (idx a0 x4) fun v5 =>
   bnd (spec_WindOf v5 a2) fun v6 =>
   some (.inl ((IntKind.i64.wrap (x3 + v6)), (IntKind.i64.wrap (x4 + 1)))))
noncomputable def spec_Covers_l0_S (a0 : List (List TPoint)) (a1 : Bool) (a2 : TPoint) : ((Int) × (Int)) → St := fun (x3, x4) => ⟨[(0, AV.fsl (List.map (eSl ePoint) a0)), (1, AV.bool a1), (5, AV.optr 0 0 2), (7, AV.int .i64 x3), (8, AV.int .i64 x4)], [(0, Ob.box [AV.int .i64 a2.x, AV.int .i64 a2.y])], 1⟩
noncomputable def spec_Covers_l0_X (a0 : List (List TPoint)) (a1 : Bool) (a2 : TPoint) : ((Int)) → Ex × St := fun y7 => ((.exit 0), ⟨[(1, AV.bool a1), (7, AV.int .i64 y7)], [], 0⟩)
noncomputable def spec_Covers (a0 : List (List TPoint)) (a1 : Bool) (a2 : TPoint) : Option ((Bool)) :=
  bnd (loopI (spec_Covers_l0 a0 a1 a2) (0, 0)) fun y7 =>
  cnd a1 (
   some (!(ieq (Int.tmod y7 2) 0))) (
   some (!(ieq y7 0)))
noncomputable def spec_Covers_e (q : (List (List TPoint)) × (Bool) × (TPoint)) : List AV × List Ob := ([AV.fsl (List.map (eSl ePoint) q.1), AV.bool q.2.1, AV.agg [AV.int .i64 q.2.2.x, AV.int .i64 q.2.2.y]], [])
noncomputable def spec_Covers_v (q : (List (List TPoint)) × (Bool) × (TPoint)) (r : (Bool)) : AV × List Ob := (AV.bool r, [])
noncomputable def spec_Covers_x : List AV → List Ob → Option (AV × List Ob) := xOf spec_Covers_e (fun q => spec_Covers q.1 q.2.1 q.2.2) spec_Covers_v
theorem spec_Covers_i : ∀ a b, spec_Covers_e a = spec_Covers_e b → a = b := by rintro ⟨x0, x1, ⟨x2, x3⟩⟩ ⟨y0, y1, ⟨y2, y3⟩⟩ h; simp [spec_Covers_e] at h; simp [h]
@[simp] theorem spec_Covers_k (z0 : List (List TPoint)) (z1 : Bool) (z2 : Int) (z3 : Int) : spec_Covers_x [AV.fsl (List.map (eSl ePoint) z0), AV.bool z1, AV.agg [AV.int .i64 z2, AV.int .i64 z3]] [] = mapR (spec_Covers z0 z1 ⟨z2, z3⟩) (fun r => (AV.bool r, [])) :=
  xOf_eq spec_Covers_i (z0, z1, ⟨z2, z3⟩)
/-! spec_MaskAt: function 209 -/
noncomputable def spec_MaskAt_l0 (a0 : List (List TPoint)) (a1 : Bool) (a2 : Int) (a3 : Int) : ((Int) × (Int)) → Option (((Int) × (Int)) ⊕ ((Int))) := fun (x4, x5) =>
  cnd (ile 4 x5) (
   some (.inr x4)) (
   bnd (spec_Covers a0 a1 (TPoint.mk (IntKind.i64.wrap ((IntKind.i64.wrap ((IntKind.i64.wrap (256 * a2)) + 64)) + (IntKind.i64.wrap (128 * (Int.tmod x5 2))))) (IntKind.i64.wrap ((IntKind.i64.wrap ((IntKind.i64.wrap (256 * a3)) + 64)) + (IntKind.i64.wrap (128 * (IntKind.i64.wrap (Int.tdiv x5 2)))))))) fun v6 =>
   cnd v6 (
    bnd (idx [1, 2, 4, 8] x5) fun v7 =>
    some (.inl ((IntKind.i64.wrap (x4 + v7)), (IntKind.i64.wrap (x5 + 1))))) (
    some (.inl (x4, (IntKind.i64.wrap (x5 + 1))))))
noncomputable def spec_MaskAt_l0_S (a0 : List (List TPoint)) (a1 : Bool) (a2 : Int) (a3 : Int) : ((Int) × (Int)) → St := fun (x4, x5) => ⟨[(0, AV.fsl (List.map (eSl ePoint) a0)), (1, AV.bool a1), (2, AV.int .i64 a2), (3, AV.int .i64 a3), (9, AV.int .i64 x4), (10, AV.int .i64 x5)], [], 0⟩
noncomputable def spec_MaskAt_l0_X (a0 : List (List TPoint)) (a1 : Bool) (a2 : Int) (a3 : Int) : ((Int)) → Ex × St := fun y8 => ((.exit 0), ⟨[(9, AV.int .i64 y8)], [], 0⟩)
noncomputable def spec_MaskAt (a0 : List (List TPoint)) (a1 : Bool) (a2 : Int) (a3 : Int) : Option ((Int)) :=
  bnd (spec_l01In a2 (-2000) 2000) fun v1 =>
  cnd v1 (
   bnd (spec_l01In a3 (-2000) 2000) fun v2 =>
   cnd v2 (
    bnd (loopI (spec_MaskAt_l0 a0 a1 a2 a3) (0, 0)) fun y8 =>
    some y8) (
    some 0)) (
   some 0)
noncomputable def spec_MaskAt_e (q : (List (List TPoint)) × (Bool) × (Int) × (Int)) : List AV × List Ob := ([AV.fsl (List.map (eSl ePoint) q.1), AV.bool q.2.1, AV.int .i64 q.2.2.1, AV.int .i64 q.2.2.2], [])
noncomputable def spec_MaskAt_v (q : (List (List TPoint)) × (Bool) × (Int) × (Int)) (r : (Int)) : AV × List Ob := (AV.int .i64 r, [])
noncomputable def spec_MaskAt_x : List AV → List Ob → Option (AV × List Ob) := xOf spec_MaskAt_e (fun q => spec_MaskAt q.1 q.2.1 q.2.2.1 q.2.2.2) spec_MaskAt_v
theorem spec_MaskAt_i : ∀ a b, spec_MaskAt_e a = spec_MaskAt_e b → a = b := by rintro ⟨x0, x1, x2, x3⟩ ⟨y0, y1, y2, y3⟩ h; simp [spec_MaskAt_e] at h; simp [h]
@[simp] theorem spec_MaskAt_k (z0 : List (List TPoint)) (z1 : Bool) (z2 : Int) (z3 : Int) : spec_MaskAt_x [AV.fsl (List.map (eSl ePoint) z0), AV.bool z1, AV.int .i64 z2, AV.int .i64 z3] [] = mapR (spec_MaskAt z0 z1 z2 z3) (fun r => (AV.int .i64 r, [])) :=
  xOf_eq spec_MaskAt_i (z0, z1, z2, z3)
/-! spec_MaskOf: function 167 -/
noncomputable def spec_MaskOf_l0 (a0 : List (List TPoint)) (a1 : Bool) (a2 : TBox) (x8 : Int) : ((Int) × (List Int)) → Option (((Int) × (List Int)) ⊕ ((List Int))) := fun (x12, x13) =>
  cnd (ile a2.x1 x12) (
   some (.inr x13)) (
   bnd (spec_MaskAt a0 a1 x12 x8) fun v14 =>
   chkP ((List.length x13 + 1) * 8 ≤ 17592186044416) (
   nam ((x13 ++ [v14]) : List Int) fun l15 =>
   some (.inl ((IntKind.i64.wrap (x12 + 1)), l15))))
noncomputable def spec_MaskOf_l0_S (a0 : List (List TPoint)) (a1 : Bool) (a2 : TBox) (x8 : Int) : ((Int) × (List Int)) → St := fun (x12, x13) => ⟨[(0, AV.fsl (List.map (eSl ePoint) a0)), (1, AV.bool a1), (5, AV.optr 0 0 4), (6, AV.optr 1 0 5), (7, AV.optr 2 0 5), (8, AV.int .i64 x8), (9, AV.int .i64 x12)], [(0, Ob.box [AV.int .i64 a2.x0, AV.int .i64 a2.y0, AV.int .i64 a2.x1, AV.int .i64 a2.y1]), (1, Ob.box [AV.int .i64 0, AV.int .i64 0, AV.int .i64 0, AV.int .i64 0, AV.nilsl]), (2, Ob.box [AV.int .i64 a2.x0, AV.int .i64 a2.y0, AV.int .i64 a2.x1, AV.int .i64 a2.y1, AV.osl 3 0 (List.length x13) (List.length x13)]), (3, Ob.arr 1 (List.map (AV.int .i64) x13) false)], 4⟩
noncomputable def spec_MaskOf_l0_X (a0 : List (List TPoint)) (a1 : Bool) (a2 : TBox) (x8 : Int) : ((List Int)) → Ex × St := fun y16 => ((.exit 2), ⟨[(0, AV.fsl (List.map (eSl ePoint) a0)), (1, AV.bool a1), (5, AV.optr 0 0 4), (6, AV.optr 1 0 5), (7, AV.optr 2 0 5), (8, AV.int .i64 x8)], [(0, Ob.box [AV.int .i64 a2.x0, AV.int .i64 a2.y0, AV.int .i64 a2.x1, AV.int .i64 a2.y1]), (1, Ob.box [AV.int .i64 0, AV.int .i64 0, AV.int .i64 0, AV.int .i64 0, AV.nilsl]), (2, Ob.box [AV.int .i64 a2.x0, AV.int .i64 a2.y0, AV.int .i64 a2.x1, AV.int .i64 a2.y1, AV.osl 3 0 (List.length y16) (List.length y16)]), (3, Ob.arr 1 (List.map (AV.int .i64) y16) false)], 4⟩)
noncomputable def spec_MaskOf_l1 (a0 : List (List TPoint)) (a1 : Bool) (a2 : TBox) : ((Int) × (List Int)) → Option (((Int) × (List Int)) ⊕ ((List Int))) := fun (x8, x9) =>
  cnd (ile a2.y1 x8) (
   some (.inr x9)) (
   bnd (loopI (spec_MaskOf_l0 a0 a1 a2 x8) (a2.x0, x9)) fun y16 =>
   some (.inl ((IntKind.i64.wrap (x8 + 1)), y16)))
noncomputable def spec_MaskOf_l1_S (a0 : List (List TPoint)) (a1 : Bool) (a2 : TBox) : ((Int) × (List Int)) → St := fun (x8, x9) => ⟨[(0, AV.fsl (List.map (eSl ePoint) a0)), (1, AV.bool a1), (5, AV.optr 0 0 4), (6, AV.optr 1 0 5), (7, AV.optr 2 0 5), (8, AV.int .i64 x8)], [(0, Ob.box [AV.int .i64 a2.x0, AV.int .i64 a2.y0, AV.int .i64 a2.x1, AV.int .i64 a2.y1]), (1, Ob.box [AV.int .i64 0, AV.int .i64 0, AV.int .i64 0, AV.int .i64 0, AV.nilsl]), (2, Ob.box [AV.int .i64 a2.x0, AV.int .i64 a2.y0, AV.int .i64 a2.x1, AV.int .i64 a2.y1, AV.osl 3 0 (List.length x9) (List.length x9)]), (3, Ob.arr 1 (List.map (AV.int .i64) x9) false)], 4⟩
noncomputable def spec_MaskOf_l1_X (a0 : List (List TPoint)) (a1 : Bool) (a2 : TBox) : ((List Int)) → Ex × St := fun y17 => ((.exit 0), ⟨[(6, AV.optr 0 0 5), (7, AV.optr 1 0 5)], [(0, Ob.box [AV.int .i64 0, AV.int .i64 0, AV.int .i64 0, AV.int .i64 0, AV.nilsl]), (1, Ob.box [AV.int .i64 a2.x0, AV.int .i64 a2.y0, AV.int .i64 a2.x1, AV.int .i64 a2.y1, AV.osl 2 0 (List.length y17) (List.length y17)]), (2, Ob.arr 1 (List.map (AV.int .i64) y17) false)], 3⟩)
noncomputable def spec_MaskOf (a0 : List (List TPoint)) (a1 : Bool) (a2 : TBox) : Option ((TBox) × (List Int)) :=
  bnd (spec_l11Box a2) fun v1 =>
  cnd v1 (
   bnd (loopI (spec_MaskOf_l1 a0 a1 a2) (a2.y0, [])) fun y17 =>
   some (a2, y17)) (
   some ((TBox.mk 0 0 0 0), []))
noncomputable def spec_MaskOf_e (q : (List (List TPoint)) × (Bool) × (TBox)) : List AV × List Ob := ([AV.fsl (List.map (eSl ePoint) q.1), AV.bool q.2.1, AV.agg [AV.int .i64 q.2.2.x0, AV.int .i64 q.2.2.y0, AV.int .i64 q.2.2.x1, AV.int .i64 q.2.2.y1]], [])
noncomputable def spec_MaskOf_v (q : (List (List TPoint)) × (Bool) × (TBox)) (r : (TBox) × (List Int)) : AV × List Ob := (AV.agg [AV.int .i64 r.1.x0, AV.int .i64 r.1.y0, AV.int .i64 r.1.x1, AV.int .i64 r.1.y1, AV.osl 0 0 (List.length r.2) (List.length r.2)], [Ob.arr 1 (List.map (AV.int .i64) r.2) false])
noncomputable def spec_MaskOf_x : List AV → List Ob → Option (AV × List Ob) := xOf spec_MaskOf_e (fun q => spec_MaskOf q.1 q.2.1 q.2.2) spec_MaskOf_v
theorem spec_MaskOf_i : ∀ a b, spec_MaskOf_e a = spec_MaskOf_e b → a = b := by rintro ⟨x0, x1, ⟨x2, x3, x4, x5⟩⟩ ⟨y0, y1, ⟨y2, y3, y4, y5⟩⟩ h; simp [spec_MaskOf_e] at h; simp [h]
@[simp] theorem spec_MaskOf_k (z0 : List (List TPoint)) (z1 : Bool) (z2 : Int) (z3 : Int) (z4 : Int) (z5 : Int) : spec_MaskOf_x [AV.fsl (List.map (eSl ePoint) z0), AV.bool z1, AV.agg [AV.int .i64 z2, AV.int .i64 z3, AV.int .i64 z4, AV.int .i64 z5]] [] = mapR (spec_MaskOf z0 z1 ⟨z2, z3, z4, z5⟩) (fun r => (AV.agg [AV.int .i64 r.1.x0, AV.int .i64 r.1.y0, AV.int .i64 r.1.x1, AV.int .i64 r.1.y1, AV.osl 0 0 (List.length r.2) (List.length r.2)], [Ob.arr 1 (List.map (AV.int .i64) r.2) false])) :=
  xOf_eq spec_MaskOf_i (z0, z1, ⟨z2, z3, z4, z5⟩)
/-! spec_l11Mask: function 105 -/
noncomputable def spec_l11Mask_l0 (w18 : TBox) : ((Int) × (List Int) × (Int) × (Int) × (List Int)) → Option (((Int) × (List Int) × (Int) × (Int) × (List Int)) ⊕ ((List Int) × (Int) × (Int) × (List Int))) := fun (x28, x29, x30, x31, x32) =>
  cnd (ile (List.length x32 : Int) x28) (
   some (.inr (x29, x30, x31, x32))) (
   bnd (spec_l01PickInt (TL01Cur.mk x29 x30 x31) [0, 0, 15, 15, 3, 8]) fun (w34, w35) =>
   bnd (idx x32 x28) fun v36 =>
   nam ((List.set x32 (Int.toNat x28) w34) : List Int) fun l37 =>
   some (.inl ((IntKind.i64.wrap (x28 + 1)), w35.b, w35.i, w35.h, l37)))
noncomputable def spec_l11Mask_l0_S (w18 : TBox) : ((Int) × (List Int) × (Int) × (Int) × (List Int)) → St := fun (x28, x29, x30, x31, x32) => ⟨[(0, AV.optr 0 0 3), (2, AV.optr 1 0 5), (4, AV.optr 2 0 5), (5, AV.int .i64 x28)], [(0, Ob.box [AV.fsl (List.map (AV.int .u8) x29), AV.int .i64 x30, AV.int .i64 x31]), (1, Ob.box [AV.int .i64 0, AV.int .i64 0, AV.int .i64 0, AV.int .i64 0, AV.nilsl]), (2, Ob.box [AV.int .i64 w18.x0, AV.int .i64 w18.y0, AV.int .i64 w18.x1, AV.int .i64 w18.y1, AV.osl 3 0 (List.length x32) (List.length x32)]), (3, Ob.arr 1 (List.map (AV.int .i64) x32) false)], 4⟩
noncomputable def spec_l11Mask_l0_X (w18 : TBox) : ((List Int) × (Int) × (Int) × (List Int)) → Ex × St := fun (y38, y39, y40, y41) => ((.exit 0), ⟨[(2, AV.optr 1 0 5), (4, AV.optr 2 0 5)], [(0, Ob.box [AV.fsl (List.map (AV.int .u8) y38), AV.int .i64 y39, AV.int .i64 y40]), (1, Ob.box [AV.int .i64 0, AV.int .i64 0, AV.int .i64 0, AV.int .i64 0, AV.nilsl]), (2, Ob.box [AV.int .i64 w18.x0, AV.int .i64 w18.y0, AV.int .i64 w18.x1, AV.int .i64 w18.y1, AV.osl 3 0 (List.length y41) (List.length y41)]), (3, Ob.arr 1 (List.map (AV.int .i64) y41) false)], 4⟩)
noncomputable def spec_l11Mask (a0 : TL01Cur) : Option ((TMask) × (TL01Cur)) :=
  bnd (spec_l01Below 8 a0) fun (w2, w3) =>
  bnd (spec_l01Below 8 w3) fun (w5, w6) =>
  bnd (spec_l01Below 6 w6) fun (w8, w9) =>
  bnd (spec_l01Below 6 w9) fun (w11, w12) =>
  bnd (spec_l06Path w12) fun (w14, w15) =>
  bnd (spec_FlatOf w14) fun v16 =>
  bnd (spec_MaskOf v16 false (TBox.mk (IntKind.i64.wrap (w2 - 2)) (IntKind.i64.wrap (w5 - 2)) (IntKind.i64.wrap ((IntKind.i64.wrap ((IntKind.i64.wrap (w2 - 2)) + 1)) + w8)) (IntKind.i64.wrap ((IntKind.i64.wrap ((IntKind.i64.wrap (w5 - 2)) + 1)) + w11)))) fun (w18, w19) =>
  bnd (spec_l01Once 3 w15) fun (w21, w22) =>
  cnd w21 (
   bnd (loopI (spec_l11Mask_l0 w18) (0, w22.b, w22.i, w22.h, w19)) fun (y38, y39, y40, y41) =>
   some ((TMask.mk w18 y41), (TL01Cur.mk y38 y39 y40))) (
   some ((TMask.mk w18 w19), w22))
noncomputable def spec_l11Mask_e (q : (TL01Cur)) : List AV × List Ob := ([AV.optr 0 0 3], [Ob.box [AV.fsl (List.map (AV.int .u8) q.b), AV.int .i64 q.i, AV.int .i64 q.h]])
noncomputable def spec_l11Mask_v (q : (TL01Cur)) (r : (TMask) × (TL01Cur)) : AV × List Ob := (AV.agg [AV.int .i64 r.1.box.x0, AV.int .i64 r.1.box.y0, AV.int .i64 r.1.box.x1, AV.int .i64 r.1.box.y1, AV.fsl (List.map (AV.int .i64) r.1.bits)], [Ob.box [AV.fsl (List.map (AV.int .u8) r.2.b), AV.int .i64 r.2.i, AV.int .i64 r.2.h]])
noncomputable def spec_l11Mask_x : List AV → List Ob → Option (AV × List Ob) := xOf spec_l11Mask_e (fun q => spec_l11Mask q) spec_l11Mask_v
theorem spec_l11Mask_i : ∀ a b, spec_l11Mask_e a = spec_l11Mask_e b → a = b := by rintro ⟨x0, x1, x2⟩ ⟨y0, y1, y2⟩ h; simp [spec_l11Mask_e] at h; simp [h]
@[simp] theorem spec_l11Mask_k (z0 : List Int) (z1 : Int) (z2 : Int) : spec_l11Mask_x [AV.optr 0 0 3] [Ob.box [AV.fsl (List.map (AV.int .u8) z0), AV.int .i64 z1, AV.int .i64 z2]] = mapR (spec_l11Mask ⟨z0, z1, z2⟩) (fun r => (AV.agg [AV.int .i64 r.1.box.x0, AV.int .i64 r.1.box.y0, AV.int .i64 r.1.box.x1, AV.int .i64 r.1.box.y1, AV.fsl (List.map (AV.int .i64) r.1.bits)], [Ob.box [AV.fsl (List.map (AV.int .u8) r.2.b), AV.int .i64 r.2.i, AV.int .i64 r.2.h]])) :=
  xOf_eq spec_l11Mask_i ⟨z0, z1, z2⟩
/-! spec_MaskOk: function 92 -/
noncomputable def spec_MaskOk_l0 (a0 : TMask) : ((Int)) → Option (((Int)) ⊕ ((Unit) ⊕ (Unit))) := fun x4 =>
  cnd (ile (List.length a0.bits : Int) x4) (
   some (.inr (.inl ()))) (
   bnd (idx a0.bits x4) fun v5 =>
   bnd (spec_l01In v5 0 15) fun v6 =>
   cnd v6 (
    some (.inl (IntKind.i64.wrap (x4 + 1)))) (
    some (.inr (.inr ()))))
noncomputable def spec_MaskOk_l0_S (a0 : TMask) : ((Int)) → St := fun x4 => ⟨[(1, AV.optr 0 0 5), (3, AV.int .i64 x4)], [(0, Ob.box [AV.int .i64 a0.box.x0, AV.int .i64 a0.box.y0, AV.int .i64 a0.box.x1, AV.int .i64 a0.box.y1, AV.fsl (List.map (AV.int .i64) a0.bits)])], 1⟩
noncomputable def spec_MaskOk_l0_X (a0 : TMask) : ((Unit) ⊕ (Unit)) → Ex × St := fun q => match q with
  | .inl _ => ((.exit 0), ⟨[], [], 0⟩)
  | .inr _ => (.ret, ⟨[(2, AV.bool false)], [], 0⟩)
noncomputable def spec_MaskOk (a0 : TMask) : Option ((Bool)) :=
  cnd (ieq (List.length a0.bits : Int) 0) (
   some (andB (decide (a0.box.x0 = 0)) (andB (decide (a0.box.y0 = 0)) (andB (decide (a0.box.x1 = 0)) (andB (decide (a0.box.y1 = 0)) true))))) (
   bnd (spec_l11Box a0.box) fun v1 =>
   cnd v1 (
    cnd (ieq (List.length a0.bits : Int) (IntKind.i64.wrap ((IntKind.i64.wrap (a0.box.x1 - a0.box.x0)) * (IntKind.i64.wrap (a0.box.y1 - a0.box.y0))))) (
     bnd (loopI (spec_MaskOk_l0 a0) 0) fun q => match q with
     | .inl () =>
      some true
     | .inr () =>
      some false) (
     some false)) (
    some false))
noncomputable def spec_MaskOk_e (q : (TMask)) : List AV × List Ob := ([AV.agg [AV.int .i64 q.box.x0, AV.int .i64 q.box.y0, AV.int .i64 q.box.x1, AV.int .i64 q.box.y1, AV.fsl (List.map (AV.int .i64) q.bits)]], [])
noncomputable def spec_MaskOk_v (q : (TMask)) (r : (Bool)) : AV × List Ob := (AV.bool r, [])
noncomputable def spec_MaskOk_x : List AV → List Ob → Option (AV × List Ob) := xOf spec_MaskOk_e (fun q => spec_MaskOk q) spec_MaskOk_v
theorem spec_MaskOk_i : ∀ a b, spec_MaskOk_e a = spec_MaskOk_e b → a = b := by rintro ⟨⟨x0, x1, x2, x3⟩, x4⟩ ⟨⟨y0, y1, y2, y3⟩, y4⟩ h; simp [spec_MaskOk_e] at h; simp [h]
@[simp] theorem spec_MaskOk_k (z0 : Int) (z1 : Int) (z2 : Int) (z3 : Int) (z4 : List Int) : spec_MaskOk_x [AV.agg [AV.int .i64 z0, AV.int .i64 z1, AV.int .i64 z2, AV.int .i64 z3, AV.fsl (List.map (AV.int .i64) z4)]] [] = mapR (spec_MaskOk ⟨⟨z0, z1, z2, z3⟩, z4⟩) (fun r => (AV.bool r, [])) :=
  xOf_eq spec_MaskOk_i ⟨⟨z0, z1, z2, z3⟩, z4⟩
/-! spec_CacheOk: function 90 -/
noncomputable def spec_CacheOk_l0 (a0 : TCache) (x5 : Int) : ((Int)) → Option (((Int)) ⊕ ((Unit) ⊕ (Unit))) := fun x11 =>
  cnd (ile x5 x11) (
   some (.inr (.inl ()))) (
   bnd (idx a0.list x11) fun v12 =>
   bnd (idx a0.list x5) fun v13 =>
   cnd (ieq v12.id v13.id) (
    some (.inr (.inr ()))) (
    some (.inl (IntKind.i64.wrap (x11 + 1)))))
noncomputable def spec_CacheOk_l0_S (a0 : TCache) (x5 : Int) : ((Int)) → St := fun x11 => ⟨[(1, AV.optr 0 0 2), (3, AV.int .i64 x5), (4, AV.int .i64 x11)], [(0, Ob.box [AV.int .i64 a0.most, AV.fsl (List.map eKept a0.list)])], 1⟩
noncomputable def spec_CacheOk_l0_X (a0 : TCache) (x5 : Int) : ((Unit) ⊕ (Unit)) → Ex × St := fun q => match q with
  | .inl _ => ((.exit 2), ⟨[(1, AV.optr 0 0 2), (3, AV.int .i64 x5)], [(0, Ob.box [AV.int .i64 a0.most, AV.fsl (List.map eKept a0.list)])], 1⟩)
  | .inr _ => (.ret, ⟨[(2, AV.bool false)], [], 0⟩)
noncomputable def spec_CacheOk_l1 (a0 : TCache) : ((Int)) → Option (((Int)) ⊕ ((Unit) ⊕ (Unit))) := fun x5 =>
  cnd (ile (List.length a0.list : Int) x5) (
   some (.inr (.inl ()))) (
   bnd (idx a0.list x5) fun v6 =>
   bnd (spec_l01In v6.id 1 99) fun v7 =>
   cnd v7 (
    bnd (spec_MaskOk v6.mask) fun v8 =>
    cnd v8 (
     bnd (loopI (spec_CacheOk_l0 a0 x5) 0) fun q => match q with
     | .inl () =>
      some (.inl (IntKind.i64.wrap (x5 + 1)))
     | .inr () =>
      some (.inr (.inr ()))) (
     some (.inr (.inr ())))) (
    some (.inr (.inr ()))))
noncomputable def spec_CacheOk_l1_S (a0 : TCache) : ((Int)) → St := fun x5 => ⟨[(1, AV.optr 0 0 2), (3, AV.int .i64 x5)], [(0, Ob.box [AV.int .i64 a0.most, AV.fsl (List.map eKept a0.list)])], 1⟩
noncomputable def spec_CacheOk_l1_X (a0 : TCache) : ((Unit) ⊕ (Unit)) → Ex × St := fun q => match q with
  | .inl _ => ((.exit 0), ⟨[], [], 0⟩)
  | .inr _ => (.ret, ⟨[(2, AV.bool false)], [], 0⟩)
noncomputable def spec_CacheOk (a0 : TCache) : Option ((Bool)) :=
  bnd (spec_l01In a0.most 1 8) fun v1 =>
  cnd v1 (
   cnd (ile (List.length a0.list : Int) a0.most) (
    bnd (loopI (spec_CacheOk_l1 a0) 0) fun q => match q with
    | .inl () =>
     some true
    | .inr () =>
     some false) (
    some false)) (
   some false)
noncomputable def spec_CacheOk_e (q : (TCache)) : List AV × List Ob := ([AV.agg [AV.int .i64 q.most, AV.fsl (List.map eKept q.list)]], [])
noncomputable def spec_CacheOk_v (q : (TCache)) (r : (Bool)) : AV × List Ob := (AV.bool r, [])
noncomputable def spec_CacheOk_x : List AV → List Ob → Option (AV × List Ob) := xOf spec_CacheOk_e (fun q => spec_CacheOk q) spec_CacheOk_v
theorem spec_CacheOk_i : ∀ a b, spec_CacheOk_e a = spec_CacheOk_e b → a = b := by rintro ⟨x0, x1⟩ ⟨y0, y1⟩ h; simp [spec_CacheOk_e] at h; simp [h]
@[simp] theorem spec_CacheOk_k (z0 : Int) (z1 : List TKept) : spec_CacheOk_x [AV.agg [AV.int .i64 z0, AV.fsl (List.map eKept z1)]] [] = mapR (spec_CacheOk ⟨z0, z1⟩) (fun r => (AV.bool r, [])) :=
  xOf_eq spec_CacheOk_i ⟨z0, z1⟩
/-! spec_l21CopyMask: function 100 -/
noncomputable def spec_l21CopyMask (a0 : TMask) : Option ((TMask)) :=
  chkP ((0 + List.length a0.bits) * 8 ≤ 17592186044416) (
  nam (([] ++ a0.bits) : List Int) fun l1 =>
  some (TMask.mk a0.box l1))
noncomputable def spec_l21CopyMask_e (q : (TMask)) : List AV × List Ob := ([AV.agg [AV.int .i64 q.box.x0, AV.int .i64 q.box.y0, AV.int .i64 q.box.x1, AV.int .i64 q.box.y1, AV.fsl (List.map (AV.int .i64) q.bits)]], [])
noncomputable def spec_l21CopyMask_v (q : (TMask)) (r : (TMask)) : AV × List Ob := (AV.agg [AV.int .i64 r.box.x0, AV.int .i64 r.box.y0, AV.int .i64 r.box.x1, AV.int .i64 r.box.y1, AV.fsl (List.map (AV.int .i64) r.bits)], [])
noncomputable def spec_l21CopyMask_x : List AV → List Ob → Option (AV × List Ob) := xOf spec_l21CopyMask_e (fun q => spec_l21CopyMask q) spec_l21CopyMask_v
theorem spec_l21CopyMask_i : ∀ a b, spec_l21CopyMask_e a = spec_l21CopyMask_e b → a = b := by rintro ⟨⟨x0, x1, x2, x3⟩, x4⟩ ⟨⟨y0, y1, y2, y3⟩, y4⟩ h; simp [spec_l21CopyMask_e] at h; simp [h]
@[simp] theorem spec_l21CopyMask_k (z0 : Int) (z1 : Int) (z2 : Int) (z3 : Int) (z4 : List Int) : spec_l21CopyMask_x [AV.agg [AV.int .i64 z0, AV.int .i64 z1, AV.int .i64 z2, AV.int .i64 z3, AV.fsl (List.map (AV.int .i64) z4)]] [] = mapR (spec_l21CopyMask ⟨⟨z0, z1, z2, z3⟩, z4⟩) (fun r => (AV.agg [AV.int .i64 r.box.x0, AV.int .i64 r.box.y0, AV.int .i64 r.box.x1, AV.int .i64 r.box.y1, AV.fsl (List.map (AV.int .i64) r.bits)], [])) :=
  xOf_eq spec_l21CopyMask_i ⟨⟨z0, z1, z2, z3⟩, z4⟩
/-! spec_l21Copy: function 80 -/
noncomputable def spec_l21Copy_l0 (a0 : TCache) : ((Int) × (List TKept)) → Option (((Int) × (List TKept)) ⊕ ((List TKept))) := fun (x3, x4) =>
  cnd (ile (List.length a0.list : Int) x3) (
   some (.inr x4)) (
   bnd (idx a0.list x3) fun v5 =>
   bnd (spec_l21CopyMask v5.mask) fun v6 =>
   chkP ((List.length x4 + 1) * 64 ≤ 17592186044416) (
   nam ((x4 ++ [(TKept.mk v5.id v6)]) : List TKept) fun l7 =>
   some (.inl ((IntKind.i64.wrap (x3 + 1)), l7))))
noncomputable def spec_l21Copy_l0_S (a0 : TCache) : ((Int) × (List TKept)) → St := fun (x3, x4) => ⟨[(1, AV.optr 0 0 2), (2, AV.optr 1 0 2), (3, AV.optr 2 0 2), (4, AV.int .i64 x3)], [(0, Ob.box [AV.int .i64 a0.most, AV.fsl (List.map eKept a0.list)]), (1, Ob.box [AV.int .i64 0, AV.nilsl]), (2, Ob.box [AV.int .i64 a0.most, AV.osl 3 0 (List.length x4) (List.length x4)]), (3, Ob.arr 6 (List.map eKept x4) false)], 4⟩
noncomputable def spec_l21Copy_l0_X (a0 : TCache) : ((List TKept)) → Ex × St := fun y8 => ((.exit 0), ⟨[(2, AV.optr 0 0 2), (3, AV.optr 1 0 2)], [(0, Ob.box [AV.int .i64 0, AV.nilsl]), (1, Ob.box [AV.int .i64 a0.most, AV.osl 2 0 (List.length y8) (List.length y8)]), (2, Ob.arr 6 (List.map eKept y8) false)], 3⟩)
noncomputable def spec_l21Copy (a0 : TCache) : Option ((TCache)) :=
  bnd (loopI (spec_l21Copy_l0 a0) (0, [])) fun y8 =>
  some (TCache.mk a0.most y8)
noncomputable def spec_l21Copy_e (q : (TCache)) : List AV × List Ob := ([AV.agg [AV.int .i64 q.most, AV.fsl (List.map eKept q.list)]], [])
noncomputable def spec_l21Copy_v (q : (TCache)) (r : (TCache)) : AV × List Ob := (AV.agg [AV.int .i64 r.most, AV.fsl (List.map eKept r.list)], [])
noncomputable def spec_l21Copy_x : List AV → List Ob → Option (AV × List Ob) := xOf spec_l21Copy_e (fun q => spec_l21Copy q) spec_l21Copy_v
theorem spec_l21Copy_i : ∀ a b, spec_l21Copy_e a = spec_l21Copy_e b → a = b := by rintro ⟨x0, x1⟩ ⟨y0, y1⟩ h; simp [spec_l21Copy_e] at h; simp [h]
@[simp] theorem spec_l21Copy_k (z0 : Int) (z1 : List TKept) : spec_l21Copy_x [AV.agg [AV.int .i64 z0, AV.fsl (List.map eKept z1)]] [] = mapR (spec_l21Copy ⟨z0, z1⟩) (fun r => (AV.agg [AV.int .i64 r.most, AV.fsl (List.map eKept r.list)], [])) :=
  xOf_eq spec_l21Copy_i ⟨z0, z1⟩
/-! spec_l21First: function 93 -/
noncomputable def spec_l21First_l0 (a0 : TCache) (a1 : Int) : ((Int) × (List TKept)) → Option (((Int) × (List TKept)) ⊕ ((List TKept))) := fun (x2, x3) =>
  cnd (ile (List.length a0.list : Int) x2) (
   some (.inr x3)) (
   bnd (idx a0.list x2) fun v4 =>
   cnd (ieq v4.id a1) (
    some (.inl ((IntKind.i64.wrap (x2 + 1)), x3))) (
    cnd (ile a0.most (List.length x3 : Int)) (
     some (.inl ((IntKind.i64.wrap (x2 + 1)), x3))) (
     chkP ((List.length x3 + 1) * 64 ≤ 17592186044416) (
     nam ((x3 ++ [v4]) : List TKept) fun l5 =>
     some (.inl ((IntKind.i64.wrap (x2 + 1)), l5))))))
noncomputable def spec_l21First_l0_S (a0 : TCache) (a1 : Int) : ((Int) × (List TKept)) → St := fun (x2, x3) => ⟨[(1, AV.int .i64 a1), (3, AV.optr 0 0 2), (6, AV.optr 1 0 2), (7, AV.optr 2 0 2), (8, AV.int .i64 x2)], [(0, Ob.box [AV.int .i64 a0.most, AV.fsl (List.map eKept a0.list)]), (1, Ob.box [AV.int .i64 0, AV.nilsl]), (2, Ob.box [AV.int .i64 a0.most, AV.osl 3 0 (List.length x3) (List.length x3)]), (3, Ob.arr 6 (List.map eKept x3) false)], 4⟩
noncomputable def spec_l21First_l0_X (a0 : TCache) (a1 : Int) : ((List TKept)) → Ex × St := fun y6 => ((.exit 0), ⟨[(6, AV.optr 0 0 2), (7, AV.optr 1 0 2)], [(0, Ob.box [AV.int .i64 0, AV.nilsl]), (1, Ob.box [AV.int .i64 a0.most, AV.osl 2 0 (List.length y6) (List.length y6)]), (2, Ob.arr 6 (List.map eKept y6) false)], 3⟩)
noncomputable def spec_l21First (a0 : TCache) (a1 : Int) (a2 : TMask) : Option ((TCache)) :=
  bnd (loopI (spec_l21First_l0 a0 a1) (0, [(TKept.mk a1 a2)])) fun y6 =>
  bnd (spec_l21Copy (TCache.mk a0.most y6)) fun v7 =>
  some v7
noncomputable def spec_l21First_e (q : (TCache) × (Int) × (TMask)) : List AV × List Ob := ([AV.agg [AV.int .i64 q.1.most, AV.fsl (List.map eKept q.1.list)], AV.int .i64 q.2.1, AV.agg [AV.int .i64 q.2.2.box.x0, AV.int .i64 q.2.2.box.y0, AV.int .i64 q.2.2.box.x1, AV.int .i64 q.2.2.box.y1, AV.fsl (List.map (AV.int .i64) q.2.2.bits)]], [])
noncomputable def spec_l21First_v (q : (TCache) × (Int) × (TMask)) (r : (TCache)) : AV × List Ob := (AV.agg [AV.int .i64 r.most, AV.fsl (List.map eKept r.list)], [])
noncomputable def spec_l21First_x : List AV → List Ob → Option (AV × List Ob) := xOf spec_l21First_e (fun q => spec_l21First q.1 q.2.1 q.2.2) spec_l21First_v
theorem spec_l21First_i : ∀ a b, spec_l21First_e a = spec_l21First_e b → a = b := by rintro ⟨⟨x0, x1⟩, x2, ⟨⟨x3, x4, x5, x6⟩, x7⟩⟩ ⟨⟨y0, y1⟩, y2, ⟨⟨y3, y4, y5, y6⟩, y7⟩⟩ h; simp [spec_l21First_e] at h; simp [h]
@[simp] theorem spec_l21First_k (z0 : Int) (z1 : List TKept) (z2 : Int) (z3 : Int) (z4 : Int) (z5 : Int) (z6 : Int) (z7 : List Int) : spec_l21First_x [AV.agg [AV.int .i64 z0, AV.fsl (List.map eKept z1)], AV.int .i64 z2, AV.agg [AV.int .i64 z3, AV.int .i64 z4, AV.int .i64 z5, AV.int .i64 z6, AV.fsl (List.map (AV.int .i64) z7)]] [] = mapR (spec_l21First ⟨z0, z1⟩ z2 ⟨⟨z3, z4, z5, z6⟩, z7⟩) (fun r => (AV.agg [AV.int .i64 r.most, AV.fsl (List.map eKept r.list)], [])) :=
  xOf_eq spec_l21First_i (⟨z0, z1⟩, z2, ⟨⟨z3, z4, z5, z6⟩, z7⟩)
/-! spec_Remember: function 30 -/
noncomputable def spec_Remember (a0 : TCache) (a1 : Int) (a2 : TMask) : Option ((TCache)) :=
  bnd (spec_CacheOk a0) fun v1 =>
  cnd v1 (
   bnd (spec_l01In a1 1 99) fun v2 =>
   cnd v2 (
    bnd (spec_MaskOk a2) fun v3 =>
    cnd v3 (
     bnd (spec_l21First a0 a1 a2) fun v4 =>
     some v4) (
     bnd (spec_l21Copy a0) fun v5 =>
     some v5)) (
    bnd (spec_l21Copy a0) fun v6 =>
    some v6)) (
   bnd (spec_l21Copy a0) fun v7 =>
   some v7)
noncomputable def spec_Remember_e (q : (TCache) × (Int) × (TMask)) : List AV × List Ob := ([AV.agg [AV.int .i64 q.1.most, AV.fsl (List.map eKept q.1.list)], AV.int .i64 q.2.1, AV.agg [AV.int .i64 q.2.2.box.x0, AV.int .i64 q.2.2.box.y0, AV.int .i64 q.2.2.box.x1, AV.int .i64 q.2.2.box.y1, AV.fsl (List.map (AV.int .i64) q.2.2.bits)]], [])
noncomputable def spec_Remember_v (q : (TCache) × (Int) × (TMask)) (r : (TCache)) : AV × List Ob := (AV.agg [AV.int .i64 r.most, AV.fsl (List.map eKept r.list)], [])
noncomputable def spec_Remember_x : List AV → List Ob → Option (AV × List Ob) := xOf spec_Remember_e (fun q => spec_Remember q.1 q.2.1 q.2.2) spec_Remember_v
theorem spec_Remember_i : ∀ a b, spec_Remember_e a = spec_Remember_e b → a = b := by rintro ⟨⟨x0, x1⟩, x2, ⟨⟨x3, x4, x5, x6⟩, x7⟩⟩ ⟨⟨y0, y1⟩, y2, ⟨⟨y3, y4, y5, y6⟩, y7⟩⟩ h; simp [spec_Remember_e] at h; simp [h]
@[simp] theorem spec_Remember_k (z0 : Int) (z1 : List TKept) (z2 : Int) (z3 : Int) (z4 : Int) (z5 : Int) (z6 : Int) (z7 : List Int) : spec_Remember_x [AV.agg [AV.int .i64 z0, AV.fsl (List.map eKept z1)], AV.int .i64 z2, AV.agg [AV.int .i64 z3, AV.int .i64 z4, AV.int .i64 z5, AV.int .i64 z6, AV.fsl (List.map (AV.int .i64) z7)]] [] = mapR (spec_Remember ⟨z0, z1⟩ z2 ⟨⟨z3, z4, z5, z6⟩, z7⟩) (fun r => (AV.agg [AV.int .i64 r.most, AV.fsl (List.map eKept r.list)], [])) :=
  xOf_eq spec_Remember_i (⟨z0, z1⟩, z2, ⟨⟨z3, z4, z5, z6⟩, z7⟩)
/-! spec_l21Cache: function 103 -/
noncomputable def spec_l21Cache_l0  : ((Int) × (List Int) × (Int) × (Int) × (Int) × (List TKept)) → Option (((Int) × (List Int) × (Int) × (Int) × (Int) × (List TKept)) ⊕ ((List Int) × (Int) × (Int) × (Int) × (List TKept))) := fun (x14, x15, x16, x17, x18, x19) =>
  bnd (spec_l01Below 6 (TL01Cur.mk x15 x16 x17)) fun (w21, w22) =>
  cnd (ile w21 x14) (
   some (.inr (w22.b, w22.i, w22.h, x18, x19))) (
   bnd (spec_l01Below 6 w22) fun (w24, w25) =>
   bnd (spec_l11Mask w25) fun (w27, w28) =>
   bnd (spec_Remember (TCache.mk x18 x19) (IntKind.i64.wrap (1 + w24)) w27) fun v29 =>
   some (.inl ((IntKind.i64.wrap (x14 + 1)), w28.b, w28.i, w28.h, v29.most, v29.list)))
noncomputable def spec_l21Cache_l0_S  : ((Int) × (List Int) × (Int) × (Int) × (Int) × (List TKept)) → St := fun (x14, x15, x16, x17, x18, x19) => ⟨[(0, AV.optr 0 0 3), (2, AV.optr 1 0 2), (3, AV.optr 2 0 2), (4, AV.int .i64 x14)], [(0, Ob.box [AV.fsl (List.map (AV.int .u8) x15), AV.int .i64 x16, AV.int .i64 x17]), (1, Ob.box [AV.int .i64 0, AV.nilsl]), (2, Ob.box [AV.int .i64 x18, AV.fsl (List.map eKept x19)])], 3⟩
noncomputable def spec_l21Cache_l0_X  : ((List Int) × (Int) × (Int) × (Int) × (List TKept)) → Ex × St := fun (y30, y31, y32, y33, y34) => ((.exit 0), ⟨[(2, AV.optr 1 0 2), (3, AV.optr 2 0 2)], [(0, Ob.box [AV.fsl (List.map (AV.int .u8) y30), AV.int .i64 y31, AV.int .i64 y32]), (1, Ob.box [AV.int .i64 0, AV.nilsl]), (2, Ob.box [AV.int .i64 y33, AV.fsl (List.map eKept y34)])], 3⟩)
noncomputable def spec_l21Cache (a0 : TL01Cur) : Option ((TCache) × (TL01Cur)) :=
  bnd (spec_l01Below 4 a0) fun (w2, w3) =>
  bnd (loopI spec_l21Cache_l0 (0, w3.b, w3.i, w3.h, (IntKind.i64.wrap (1 + w2)), [])) fun (y30, y31, y32, y33, y34) =>
  some ((TCache.mk y33 y34), (TL01Cur.mk y30 y31 y32))
noncomputable def spec_l21Cache_e (q : (TL01Cur)) : List AV × List Ob := ([AV.optr 0 0 3], [Ob.box [AV.fsl (List.map (AV.int .u8) q.b), AV.int .i64 q.i, AV.int .i64 q.h]])
noncomputable def spec_l21Cache_v (q : (TL01Cur)) (r : (TCache) × (TL01Cur)) : AV × List Ob := (AV.agg [AV.int .i64 r.1.most, AV.fsl (List.map eKept r.1.list)], [Ob.box [AV.fsl (List.map (AV.int .u8) r.2.b), AV.int .i64 r.2.i, AV.int .i64 r.2.h]])
noncomputable def spec_l21Cache_x : List AV → List Ob → Option (AV × List Ob) := xOf spec_l21Cache_e (fun q => spec_l21Cache q) spec_l21Cache_v
theorem spec_l21Cache_i : ∀ a b, spec_l21Cache_e a = spec_l21Cache_e b → a = b := by rintro ⟨x0, x1, x2⟩ ⟨y0, y1, y2⟩ h; simp [spec_l21Cache_e] at h; simp [h]
@[simp] theorem spec_l21Cache_k (z0 : List Int) (z1 : Int) (z2 : Int) : spec_l21Cache_x [AV.optr 0 0 3] [Ob.box [AV.fsl (List.map (AV.int .u8) z0), AV.int .i64 z1, AV.int .i64 z2]] = mapR (spec_l21Cache ⟨z0, z1, z2⟩) (fun r => (AV.agg [AV.int .i64 r.1.most, AV.fsl (List.map eKept r.1.list)], [Ob.box [AV.fsl (List.map (AV.int .u8) r.2.b), AV.int .i64 r.2.i, AV.int .i64 r.2.h]])) :=
  xOf_eq spec_l21Cache_i ⟨z0, z1, z2⟩
/-! spec_DrawRightCache: function 39 -/
noncomputable def spec_DrawRightCache (a0 : List Int) : Option ((TCache)) :=
  bnd (spec_l01New a0) fun v1 =>
  bnd (spec_l21Cache v1) fun (w3, w4) =>
  some w3
noncomputable def spec_DrawRightCache_e (q : (List Int)) : List AV × List Ob := ([AV.fsl (List.map (AV.int .u8) q)], [])
noncomputable def spec_DrawRightCache_v (q : (List Int)) (r : (TCache)) : AV × List Ob := (AV.agg [AV.int .i64 r.most, AV.fsl (List.map eKept r.list)], [])
noncomputable def spec_DrawRightCache_x : List AV → List Ob → Option (AV × List Ob) := xOf spec_DrawRightCache_e (fun q => spec_DrawRightCache q) spec_DrawRightCache_v
theorem spec_DrawRightCache_i : ∀ a b, spec_DrawRightCache_e a = spec_DrawRightCache_e b → a = b := by rintro x0 y0 h; simp [spec_DrawRightCache_e] at h; simp [h]
@[simp] theorem spec_DrawRightCache_k (z0 : List Int) : spec_DrawRightCache_x [AV.fsl (List.map (AV.int .u8) z0)] [] = mapR (spec_DrawRightCache z0) (fun r => (AV.agg [AV.int .i64 r.most, AV.fsl (List.map eKept r.list)], [])) :=
  xOf_eq spec_DrawRightCache_i z0
/-! spec_DrawMasks: function 40 -/
noncomputable def spec_DrawMasks (a0 : List Int) : Option ((TMask) × (TMask)) :=
  bnd (spec_l01New a0) fun v1 =>
  bnd (spec_l11Mask v1) fun (w3, w4) =>
  bnd (spec_l11Mask w4) fun (w6, w7) =>
  some (w3, w6)
noncomputable def spec_DrawMasks_e (q : (List Int)) : List AV × List Ob := ([AV.fsl (List.map (AV.int .u8) q)], [])
noncomputable def spec_DrawMasks_v (q : (List Int)) (r : (TMask) × (TMask)) : AV × List Ob := (AV.tup [AV.agg [AV.int .i64 r.1.box.x0, AV.int .i64 r.1.box.y0, AV.int .i64 r.1.box.x1, AV.int .i64 r.1.box.y1, AV.fsl (List.map (AV.int .i64) r.1.bits)], AV.agg [AV.int .i64 r.2.box.x0, AV.int .i64 r.2.box.y0, AV.int .i64 r.2.box.x1, AV.int .i64 r.2.box.y1, AV.fsl (List.map (AV.int .i64) r.2.bits)]], [])
noncomputable def spec_DrawMasks_x : List AV → List Ob → Option (AV × List Ob) := xOf spec_DrawMasks_e (fun q => spec_DrawMasks q) spec_DrawMasks_v
theorem spec_DrawMasks_i : ∀ a b, spec_DrawMasks_e a = spec_DrawMasks_e b → a = b := by rintro x0 y0 h; simp [spec_DrawMasks_e] at h; simp [h]
@[simp] theorem spec_DrawMasks_k (z0 : List Int) : spec_DrawMasks_x [AV.fsl (List.map (AV.int .u8) z0)] [] = mapR (spec_DrawMasks z0) (fun r => (AV.tup [AV.agg [AV.int .i64 r.1.box.x0, AV.int .i64 r.1.box.y0, AV.int .i64 r.1.box.x1, AV.int .i64 r.1.box.y1, AV.fsl (List.map (AV.int .i64) r.1.bits)], AV.agg [AV.int .i64 r.2.box.x0, AV.int .i64 r.2.box.y0, AV.int .i64 r.2.box.x1, AV.int .i64 r.2.box.y1, AV.fsl (List.map (AV.int .i64) r.2.bits)]], [])) :=
  xOf_eq spec_DrawMasks_i z0
/-! spec_DrawPlaces: function 41 -/
noncomputable def spec_DrawPlaces_l0  : ((Int) × (List Int) × (Int) × (Int) × (List Int)) → Option (((Int) × (List Int) × (Int) × (Int) × (List Int)) ⊕ ((List Int))) := fun (x8, x9, x10, x11, x12) =>
  cnd (ile 12 x8) (
   some (.inr x12)) (
   bnd (spec_l01Below 10000 (TL01Cur.mk x9 x10 x11)) fun (w14, w15) =>
   chkP ((List.length x12 + 1) * 8 ≤ 17592186044416) (
   nam ((x12 ++ [w14]) : List Int) fun l16 =>
   some (.inl ((IntKind.i64.wrap (x8 + 1)), w15.b, w15.i, w15.h, l16))))
noncomputable def spec_DrawPlaces_l0_S  : ((Int) × (List Int) × (Int) × (Int) × (List Int)) → St := fun (x8, x9, x10, x11, x12) => ⟨[(3, AV.optr 0 0 3), (4, AV.osl 1 0 (List.length x12) (List.length x12)), (5, AV.int .i64 x8)], [(0, Ob.box [AV.fsl (List.map (AV.int .u8) x9), AV.int .i64 x10, AV.int .i64 x11]), (1, Ob.arr 1 (List.map (AV.int .i64) x12) false)], 2⟩
noncomputable def spec_DrawPlaces_l0_X  : ((List Int)) → Ex × St := fun y17 => ((.exit 0), ⟨[(4, AV.osl 0 0 (List.length y17) (List.length y17))], [(0, Ob.arr 1 (List.map (AV.int .i64) y17) false)], 1⟩)
noncomputable def spec_DrawPlaces (a0 : List Int) : Option ((List Int)) :=
  bnd (spec_l01New a0) fun v1 =>
  bnd (spec_l01Byte v1) fun (w3, w4) =>
  bnd (loopI spec_DrawPlaces_l0 (0, w4.b, w4.i, w4.h, [])) fun y17 =>
  some y17
noncomputable def spec_DrawPlaces_e (q : (List Int)) : List AV × List Ob := ([AV.fsl (List.map (AV.int .u8) q)], [])
noncomputable def spec_DrawPlaces_v (q : (List Int)) (r : (List Int)) : AV × List Ob := (AV.fsl (List.map (AV.int .i64) r), [])
noncomputable def spec_DrawPlaces_x : List AV → List Ob → Option (AV × List Ob) := xOf spec_DrawPlaces_e (fun q => spec_DrawPlaces q) spec_DrawPlaces_v
theorem spec_DrawPlaces_i : ∀ a b, spec_DrawPlaces_e a = spec_DrawPlaces_e b → a = b := by rintro x0 y0 h; simp [spec_DrawPlaces_e] at h; simp [h]
@[simp] theorem spec_DrawPlaces_k (z0 : List Int) : spec_DrawPlaces_x [AV.fsl (List.map (AV.int .u8) z0)] [] = mapR (spec_DrawPlaces z0) (fun r => (AV.fsl (List.map (AV.int .i64) r), [])) :=
  xOf_eq spec_DrawPlaces_i z0
/-! slices_Clone_int: function 165 -/
noncomputable def slices_Clone_int (a0 : List Int) : Option ((List Int)) :=
  chkP (List.length a0 * 8 ≤ 17592186044416) (
  some a0)
noncomputable def slices_Clone_int_e (q : (List Int)) : List AV × List Ob := ([AV.fsl (List.map (AV.int .i64) q)], [])
noncomputable def slices_Clone_int_v (q : (List Int)) (r : (List Int)) : AV × List Ob := (AV.fsl (List.map (AV.int .i64) r), [])
noncomputable def slices_Clone_int_x : List AV → List Ob → Option (AV × List Ob) := xOf slices_Clone_int_e (fun q => slices_Clone_int q) slices_Clone_int_v
theorem slices_Clone_int_i : ∀ a b, slices_Clone_int_e a = slices_Clone_int_e b → a = b := by rintro x0 y0 h; simp [slices_Clone_int_e] at h; simp [h]
@[simp] theorem slices_Clone_int_k (z0 : List Int) : slices_Clone_int_x [AV.fsl (List.map (AV.int .i64) z0)] [] = mapR (slices_Clone_int z0) (fun r => (AV.fsl (List.map (AV.int .i64) r), [])) :=
  xOf_eq slices_Clone_int_i z0
/-! impl_copyMask: function 98 -/
noncomputable def impl_copyMask (a0 : TMask) : Option ((TMask)) :=
  bnd (slices_Clone_int a0.bits) fun v1 =>
  some (TMask.mk a0.box v1)
noncomputable def impl_copyMask_e (q : (TMask)) : List AV × List Ob := ([AV.agg [AV.int .i64 q.box.x0, AV.int .i64 q.box.y0, AV.int .i64 q.box.x1, AV.int .i64 q.box.y1, AV.fsl (List.map (AV.int .i64) q.bits)]], [])
noncomputable def impl_copyMask_v (q : (TMask)) (r : (TMask)) : AV × List Ob := (AV.agg [AV.int .i64 r.box.x0, AV.int .i64 r.box.y0, AV.int .i64 r.box.x1, AV.int .i64 r.box.y1, AV.fsl (List.map (AV.int .i64) r.bits)], [])
noncomputable def impl_copyMask_x : List AV → List Ob → Option (AV × List Ob) := xOf impl_copyMask_e (fun q => impl_copyMask q) impl_copyMask_v
theorem impl_copyMask_i : ∀ a b, impl_copyMask_e a = impl_copyMask_e b → a = b := by rintro ⟨⟨x0, x1, x2, x3⟩, x4⟩ ⟨⟨y0, y1, y2, y3⟩, y4⟩ h; simp [impl_copyMask_e] at h; simp [h]
@[simp] theorem impl_copyMask_k (z0 : Int) (z1 : Int) (z2 : Int) (z3 : Int) (z4 : List Int) : impl_copyMask_x [AV.agg [AV.int .i64 z0, AV.int .i64 z1, AV.int .i64 z2, AV.int .i64 z3, AV.fsl (List.map (AV.int .i64) z4)]] [] = mapR (impl_copyMask ⟨⟨z0, z1, z2, z3⟩, z4⟩) (fun r => (AV.agg [AV.int .i64 r.box.x0, AV.int .i64 r.box.y0, AV.int .i64 r.box.x1, AV.int .i64 r.box.y1, AV.fsl (List.map (AV.int .i64) r.bits)], [])) :=
  xOf_eq impl_copyMask_i ⟨⟨z0, z1, z2, z3⟩, z4⟩
/-! impl_copyCache: function 82 -/
noncomputable def impl_copyCache_l0 (a0 : TCache) : ((Int) × (List TKept)) → Option (((Int) × (List TKept)) ⊕ ((List TKept))) := fun (x3, x4) =>
  cnd (ile (List.length a0.list : Int) x3) (
   some (.inr x4)) (
   bnd (idx a0.list x3) fun v5 =>
   bnd (impl_copyMask v5.mask) fun v6 =>
   chkP ((List.length x4 + 1) * 64 ≤ 17592186044416) (
   nam ((x4 ++ [(TKept.mk v5.id v6)]) : List TKept) fun l7 =>
   some (.inl ((IntKind.i64.wrap (x3 + 1)), l7))))
noncomputable def impl_copyCache_l0_S (a0 : TCache) : ((Int) × (List TKept)) → St := fun (x3, x4) => ⟨[(2, AV.optr 0 0 2), (3, AV.optr 1 0 2), (10, AV.fsl (List.map eKept a0.list)), (11, AV.int .i64 (List.length a0.list : Int)), (12, AV.int .i64 x3)], [(0, Ob.box [AV.int .i64 0, AV.nilsl]), (1, Ob.box [AV.int .i64 a0.most, AV.osl 2 0 (List.length x4) (List.length x4)]), (2, Ob.arr 6 (List.map eKept x4) false)], 3⟩
noncomputable def impl_copyCache_l0_X (a0 : TCache) : ((List TKept)) → Ex × St := fun y8 => ((.exit 0), ⟨[(2, AV.optr 0 0 2), (3, AV.optr 1 0 2)], [(0, Ob.box [AV.int .i64 0, AV.nilsl]), (1, Ob.box [AV.int .i64 a0.most, AV.osl 2 0 (List.length y8) (List.length y8)]), (2, Ob.arr 6 (List.map eKept y8) false)], 3⟩)
noncomputable def impl_copyCache (a0 : TCache) : Option ((Int) × (List TKept)) :=
  bnd (loopI (impl_copyCache_l0 a0) (0, [])) fun y8 =>
  some (a0.most, y8)
noncomputable def impl_copyCache_e (q : (TCache)) : List AV × List Ob := ([AV.agg [AV.int .i64 q.most, AV.fsl (List.map eKept q.list)]], [])
noncomputable def impl_copyCache_v (q : (TCache)) (r : (Int) × (List TKept)) : AV × List Ob := (AV.agg [AV.int .i64 r.1, AV.osl 0 0 (List.length r.2) (List.length r.2)], [Ob.arr 6 (List.map eKept r.2) false])
noncomputable def impl_copyCache_x : List AV → List Ob → Option (AV × List Ob) := xOf impl_copyCache_e (fun q => impl_copyCache q) impl_copyCache_v
theorem impl_copyCache_i : ∀ a b, impl_copyCache_e a = impl_copyCache_e b → a = b := by rintro ⟨x0, x1⟩ ⟨y0, y1⟩ h; simp [impl_copyCache_e] at h; simp [h]
@[simp] theorem impl_copyCache_k (z0 : Int) (z1 : List TKept) : impl_copyCache_x [AV.agg [AV.int .i64 z0, AV.fsl (List.map eKept z1)]] [] = mapR (impl_copyCache ⟨z0, z1⟩) (fun r => (AV.agg [AV.int .i64 r.1, AV.osl 0 0 (List.length r.2) (List.length r.2)], [Ob.arr 6 (List.map eKept r.2) false])) :=
  xOf_eq impl_copyCache_i ⟨z0, z1⟩
/-! impl_inRange: function 95 -/
noncomputable def impl_inRange (a0 : Int) (a1 : Int) (a2 : Int) : Option ((Bool)) :=
  cnd (ile a1 a0) (
   some (ile a0 a2)) (
   some false)
noncomputable def impl_inRange_e (q : (Int) × (Int) × (Int)) : List AV × List Ob := ([AV.int .i64 q.1, AV.int .i64 q.2.1, AV.int .i64 q.2.2], [])
noncomputable def impl_inRange_v (q : (Int) × (Int) × (Int)) (r : (Bool)) : AV × List Ob := (AV.bool r, [])
noncomputable def impl_inRange_x : List AV → List Ob → Option (AV × List Ob) := xOf impl_inRange_e (fun q => impl_inRange q.1 q.2.1 q.2.2) impl_inRange_v
theorem impl_inRange_i : ∀ a b, impl_inRange_e a = impl_inRange_e b → a = b := by rintro ⟨x0, x1, x2⟩ ⟨y0, y1, y2⟩ h; simp [impl_inRange_e] at h; simp [h]
@[simp] theorem impl_inRange_k (z0 : Int) (z1 : Int) (z2 : Int) : impl_inRange_x [AV.int .i64 z0, AV.int .i64 z1, AV.int .i64 z2] [] = mapR (impl_inRange z0 z1 z2) (fun r => (AV.bool r, [])) :=
  xOf_eq impl_inRange_i (z0, z1, z2)
/-! impl_Empty: function 206 -/
noncomputable def impl_Empty (a0 : TBox) : Option ((Bool)) :=
  cnd (ile a0.x1 a0.x0) (
   some true) (
   some (ile a0.y1 a0.y0))
noncomputable def impl_Empty_e (q : (TBox)) : List AV × List Ob := ([AV.agg [AV.int .i64 q.x0, AV.int .i64 q.y0, AV.int .i64 q.x1, AV.int .i64 q.y1]], [])
noncomputable def impl_Empty_v (q : (TBox)) (r : (Bool)) : AV × List Ob := (AV.bool r, [])
noncomputable def impl_Empty_x : List AV → List Ob → Option (AV × List Ob) := xOf impl_Empty_e (fun q => impl_Empty q) impl_Empty_v
theorem impl_Empty_i : ∀ a b, impl_Empty_e a = impl_Empty_e b → a = b := by rintro ⟨x0, x1, x2, x3⟩ ⟨y0, y1, y2, y3⟩ h; simp [impl_Empty_e] at h; simp [h]
@[simp] theorem impl_Empty_k (z0 : Int) (z1 : Int) (z2 : Int) (z3 : Int) : impl_Empty_x [AV.agg [AV.int .i64 z0, AV.int .i64 z1, AV.int .i64 z2, AV.int .i64 z3]] [] = mapR (impl_Empty ⟨z0, z1, z2, z3⟩) (fun r => (AV.bool r, [])) :=
  xOf_eq impl_Empty_i ⟨z0, z1, z2, z3⟩
/-! impl_isMaskBox: function 162 -/
noncomputable def impl_isMaskBox (a0 : TBox) : Option ((Bool)) :=
  bnd (impl_Empty a0) fun v1 =>
  cnd v1 (
   some false) (
   cnd (ile (-2000) a0.x0) (
    cnd (ile (-2000) a0.y0) (
     cnd (ile a0.x1 2000) (
      cnd (ile a0.y1 2000) (
       cnd (ile (IntKind.i64.wrap (a0.x1 - a0.x0)) 60) (
        some (ile (IntKind.i64.wrap (a0.y1 - a0.y0)) 60)) (
        some false)) (
       some false)) (
      some false)) (
     some false)) (
    some false))
noncomputable def impl_isMaskBox_e (q : (TBox)) : List AV × List Ob := ([AV.agg [AV.int .i64 q.x0, AV.int .i64 q.y0, AV.int .i64 q.x1, AV.int .i64 q.y1]], [])
noncomputable def impl_isMaskBox_v (q : (TBox)) (r : (Bool)) : AV × List Ob := (AV.bool r, [])
noncomputable def impl_isMaskBox_x : List AV → List Ob → Option (AV × List Ob) := xOf impl_isMaskBox_e (fun q => impl_isMaskBox q) impl_isMaskBox_v
theorem impl_isMaskBox_i : ∀ a b, impl_isMaskBox_e a = impl_isMaskBox_e b → a = b := by rintro ⟨x0, x1, x2, x3⟩ ⟨y0, y1, y2, y3⟩ h; simp [impl_isMaskBox_e] at h; simp [h]
@[simp] theorem impl_isMaskBox_k (z0 : Int) (z1 : Int) (z2 : Int) (z3 : Int) : impl_isMaskBox_x [AV.agg [AV.int .i64 z0, AV.int .i64 z1, AV.int .i64 z2, AV.int .i64 z3]] [] = mapR (impl_isMaskBox ⟨z0, z1, z2, z3⟩) (fun r => (AV.bool r, [])) :=
  xOf_eq impl_isMaskBox_i ⟨z0, z1, z2, z3⟩
/-! impl_MaskOk: function 96 -/
noncomputable def impl_MaskOk_l0 (a0 : TMask) : ((Int)) → Option (((Int)) ⊕ ((Unit) ⊕ (Unit))) := fun x4 =>
  cnd (ile (List.length a0.bits : Int) x4) (
   some (.inr (.inl ()))) (
   bnd (idx a0.bits x4) fun v5 =>
   bnd (impl_inRange v5 0 15) fun v6 =>
   cnd v6 (
    some (.inl (IntKind.i64.wrap (x4 + 1)))) (
    some (.inr (.inr ()))))
noncomputable def impl_MaskOk_l0_S (a0 : TMask) : ((Int)) → St := fun x4 => ⟨[(39, AV.fsl (List.map (AV.int .i64) a0.bits)), (40, AV.int .i64 (List.length a0.bits : Int)), (41, AV.int .i64 x4)], [], 0⟩
noncomputable def impl_MaskOk_l0_X (a0 : TMask) : ((Unit) ⊕ (Unit)) → Ex × St := fun q => match q with
  | .inl _ => ((.exit 0), ⟨[], [], 0⟩)
  | .inr _ => (.ret, ⟨[(2, AV.bool false)], [], 0⟩)
noncomputable def impl_MaskOk (a0 : TMask) : Option ((Bool)) :=
  cnd (andB (decide (a0.box.x0 = 0)) (andB (decide (a0.box.y0 = 0)) (andB (decide (a0.box.x1 = 0)) (andB (decide (a0.box.y1 = 0)) true)))) (
   some (ieq (List.length a0.bits : Int) 0)) (
   bnd (impl_isMaskBox a0.box) fun v1 =>
   cnd v1 (
    cnd (ieq (List.length a0.bits : Int) (IntKind.i64.wrap ((IntKind.i64.wrap (a0.box.x1 - a0.box.x0)) * (IntKind.i64.wrap (a0.box.y1 - a0.box.y0))))) (
     bnd (loopI (impl_MaskOk_l0 a0) 0) fun q => match q with
     | .inl () =>
      some true
     | .inr () =>
      some false) (
     some false)) (
    some false))
noncomputable def impl_MaskOk_e (q : (TMask)) : List AV × List Ob := ([AV.agg [AV.int .i64 q.box.x0, AV.int .i64 q.box.y0, AV.int .i64 q.box.x1, AV.int .i64 q.box.y1, AV.fsl (List.map (AV.int .i64) q.bits)]], [])
noncomputable def impl_MaskOk_v (q : (TMask)) (r : (Bool)) : AV × List Ob := (AV.bool r, [])
noncomputable def impl_MaskOk_x : List AV → List Ob → Option (AV × List Ob) := xOf impl_MaskOk_e (fun q => impl_MaskOk q) impl_MaskOk_v
theorem impl_MaskOk_i : ∀ a b, impl_MaskOk_e a = impl_MaskOk_e b → a = b := by rintro ⟨⟨x0, x1, x2, x3⟩, x4⟩ ⟨⟨y0, y1, y2, y3⟩, y4⟩ h; simp [impl_MaskOk_e] at h; simp [h]
@[simp] theorem impl_MaskOk_k (z0 : Int) (z1 : Int) (z2 : Int) (z3 : Int) (z4 : List Int) : impl_MaskOk_x [AV.agg [AV.int .i64 z0, AV.int .i64 z1, AV.int .i64 z2, AV.int .i64 z3, AV.fsl (List.map (AV.int .i64) z4)]] [] = mapR (impl_MaskOk ⟨⟨z0, z1, z2, z3⟩, z4⟩) (fun r => (AV.bool r, [])) :=
  xOf_eq impl_MaskOk_i ⟨⟨z0, z1, z2, z3⟩, z4⟩
/-! impl_Cache_keptAt_1: function 166 -/
noncomputable def impl_Cache_keptAt_1 (a0 : TKept) (a1 : Int) : Option ((Bool)) :=
  some (ieq a0.id a1)
noncomputable def impl_Cache_keptAt_1_e (q : (TKept) × (Int)) : List AV × List Ob := ([AV.agg [AV.int .i64 q.1.id, AV.int .i64 q.1.mask.box.x0, AV.int .i64 q.1.mask.box.y0, AV.int .i64 q.1.mask.box.x1, AV.int .i64 q.1.mask.box.y1, AV.fsl (List.map (AV.int .i64) q.1.mask.bits)], AV.fptr [AV.int .i64 q.2] 0], [])
noncomputable def impl_Cache_keptAt_1_v (q : (TKept) × (Int)) (r : (Bool)) : AV × List Ob := (AV.bool r, [])
noncomputable def impl_Cache_keptAt_1_x : List AV → List Ob → Option (AV × List Ob) := xOf impl_Cache_keptAt_1_e (fun q => impl_Cache_keptAt_1 q.1 q.2) impl_Cache_keptAt_1_v
theorem impl_Cache_keptAt_1_i : ∀ a b, impl_Cache_keptAt_1_e a = impl_Cache_keptAt_1_e b → a = b := by rintro ⟨⟨x0, ⟨⟨x1, x2, x3, x4⟩, x5⟩⟩, x6⟩ ⟨⟨y0, ⟨⟨y1, y2, y3, y4⟩, y5⟩⟩, y6⟩ h; simp [impl_Cache_keptAt_1_e] at h; simp [h]
@[simp] theorem impl_Cache_keptAt_1_k (z0 : Int) (z1 : Int) (z2 : Int) (z3 : Int) (z4 : Int) (z5 : List Int) (z6 : Int) : impl_Cache_keptAt_1_x [AV.agg [AV.int .i64 z0, AV.int .i64 z1, AV.int .i64 z2, AV.int .i64 z3, AV.int .i64 z4, AV.fsl (List.map (AV.int .i64) z5)], AV.fptr [AV.int .i64 z6] 0] [] = mapR (impl_Cache_keptAt_1 ⟨z0, ⟨⟨z1, z2, z3, z4⟩, z5⟩⟩ z6) (fun r => (AV.bool r, [])) :=
  xOf_eq impl_Cache_keptAt_1_i (⟨z0, ⟨⟨z1, z2, z3, z4⟩, z5⟩⟩, z6)
/-! slices_IndexFunc_Kept_Cache_keptAt_1: function 158 -/
noncomputable def slices_IndexFunc_Kept_Cache_keptAt_1_l0 (a0 : List TKept) (a1 : Int) : ((Int)) → Option (((Int)) ⊕ ((Unit) ⊕ ((Int)))) := fun x3 =>
  cnd (ile (List.length a0 : Int) x3) (
   some (.inr (.inl ()))) (
   bnd (idx a0 x3) fun v4 =>
   bnd (impl_Cache_keptAt_1 v4 a1) fun v5 =>
   cnd v5 (
    some (.inr (.inr x3))) (
    some (.inl (IntKind.i64.wrap (x3 + 1)))))
noncomputable def slices_IndexFunc_Kept_Cache_keptAt_1_l0_S (a0 : List TKept) (a1 : Int) : ((Int)) → St := fun x3 => ⟨[(0, AV.fsl (List.map eKept a0)), (1, AV.func (.func 166) [] [AV.fptr [AV.int .i64 a1] 0]), (7, AV.int .i64 (List.length a0 : Int)), (8, AV.int .i64 x3)], [], 0⟩
noncomputable def slices_IndexFunc_Kept_Cache_keptAt_1_l0_X (a0 : List TKept) (a1 : Int) : ((Unit) ⊕ ((Int))) → Ex × St := fun q => match q with
  | .inl _ => ((.exit 0), ⟨[], [], 0⟩)
  | .inr y6 => (.ret, ⟨[(4, AV.int .i64 y6)], [], 0⟩)
noncomputable def slices_IndexFunc_Kept_Cache_keptAt_1 (a0 : List TKept) (a1 : Int) : Option ((Int)) :=
  bnd (loopI (slices_IndexFunc_Kept_Cache_keptAt_1_l0 a0 a1) 0) fun q => match q with
  | .inl () =>
   some (-1)
  | .inr y6 =>
   some y6
noncomputable def slices_IndexFunc_Kept_Cache_keptAt_1_e (q : (List TKept) × (Int)) : List AV × List Ob := ([AV.fsl (List.map eKept q.1), AV.func (.func 166) [] [AV.fptr [AV.int .i64 q.2] 0]], [])
noncomputable def slices_IndexFunc_Kept_Cache_keptAt_1_v (q : (List TKept) × (Int)) (r : (Int)) : AV × List Ob := (AV.int .i64 r, [])
noncomputable def slices_IndexFunc_Kept_Cache_keptAt_1_x : List AV → List Ob → Option (AV × List Ob) := xOf slices_IndexFunc_Kept_Cache_keptAt_1_e (fun q => slices_IndexFunc_Kept_Cache_keptAt_1 q.1 q.2) slices_IndexFunc_Kept_Cache_keptAt_1_v
theorem slices_IndexFunc_Kept_Cache_keptAt_1_i : ∀ a b, slices_IndexFunc_Kept_Cache_keptAt_1_e a = slices_IndexFunc_Kept_Cache_keptAt_1_e b → a = b := by rintro ⟨x0, x1⟩ ⟨y0, y1⟩ h; simp [slices_IndexFunc_Kept_Cache_keptAt_1_e] at h; simp [h]
@[simp] theorem slices_IndexFunc_Kept_Cache_keptAt_1_k (z0 : List TKept) (z1 : Int) : slices_IndexFunc_Kept_Cache_keptAt_1_x [AV.fsl (List.map eKept z0), AV.func (.func 166) [] [AV.fptr [AV.int .i64 z1] 0]] [] = mapR (slices_IndexFunc_Kept_Cache_keptAt_1 z0 z1) (fun r => (AV.int .i64 r, [])) :=
  xOf_eq slices_IndexFunc_Kept_Cache_keptAt_1_i (z0, z1)
/-! impl_Cache_keptAt: function 101 -/
noncomputable def impl_Cache_keptAt (a0 : TCache) (a1 : Int) : Option ((Int)) :=
  bnd (slices_IndexFunc_Kept_Cache_keptAt_1 a0.list a1) fun v1 =>
  some v1
noncomputable def impl_Cache_keptAt_e (q : (TCache) × (Int)) : List AV × List Ob := ([AV.fptr [AV.int .i64 q.1.most, AV.fsl (List.map eKept q.1.list)] 0, AV.int .i64 q.2], [])
noncomputable def impl_Cache_keptAt_v (q : (TCache) × (Int)) (r : (Int)) : AV × List Ob := (AV.int .i64 r, [])
noncomputable def impl_Cache_keptAt_x : List AV → List Ob → Option (AV × List Ob) := xOf impl_Cache_keptAt_e (fun q => impl_Cache_keptAt q.1 q.2) impl_Cache_keptAt_v
theorem impl_Cache_keptAt_i : ∀ a b, impl_Cache_keptAt_e a = impl_Cache_keptAt_e b → a = b := by rintro ⟨⟨x0, x1⟩, x2⟩ ⟨⟨y0, y1⟩, y2⟩ h; simp [impl_Cache_keptAt_e] at h; simp [h]
@[simp] theorem impl_Cache_keptAt_k (z0 : Int) (z1 : List TKept) (z2 : Int) : impl_Cache_keptAt_x [AV.fptr [AV.int .i64 z0, AV.fsl (List.map eKept z1)] 0, AV.int .i64 z2] [] = mapR (impl_Cache_keptAt ⟨z0, z1⟩ z2) (fun r => (AV.int .i64 r, [])) :=
  xOf_eq impl_Cache_keptAt_i (⟨z0, z1⟩, z2)
/-! impl_CacheOk: function 42 -/
noncomputable def impl_CacheOk_l0 (a0 : TCache) : ((Int)) → Option (((Int)) ⊕ ((Unit) ⊕ (Unit))) := fun x5 =>
  cnd (ile (List.length a0.list : Int) x5) (
   some (.inr (.inl ()))) (
   bnd (idx a0.list x5) fun v6 =>
   bnd (impl_inRange v6.id 1 99) fun v7 =>
   cnd v7 (
    bnd (impl_Cache_keptAt a0 v6.id) fun v8 =>
    cnd (ieq v8 x5) (
     bnd (impl_MaskOk v6.mask) fun v9 =>
     cnd v9 (
      some (.inl (IntKind.i64.wrap (x5 + 1)))) (
      some (.inr (.inr ())))) (
     some (.inr (.inr ())))) (
    some (.inr (.inr ()))))
noncomputable def impl_CacheOk_l0_S (a0 : TCache) : ((Int)) → St := fun x5 => ⟨[(1, AV.optr 0 0 2), (6, AV.fsl (List.map eKept a0.list)), (7, AV.int .i64 (List.length a0.list : Int)), (8, AV.int .i64 x5)], [(0, Ob.box [AV.int .i64 a0.most, AV.fsl (List.map eKept a0.list)])], 1⟩
noncomputable def impl_CacheOk_l0_X (a0 : TCache) : ((Unit) ⊕ (Unit)) → Ex × St := fun q => match q with
  | .inl _ => ((.exit 0), ⟨[(1, AV.optr 0 0 2)], [(0, Ob.box [AV.int .i64 a0.most, AV.fsl (List.map eKept a0.list)])], 1⟩)
  | .inr _ => (.ret, ⟨[(2, AV.bool false)], [], 0⟩)
noncomputable def impl_CacheOk (a0 : TCache) : Option ((Bool)) :=
  bnd (loopI (impl_CacheOk_l0 a0) 0) fun q => match q with
  | .inl () =>
   bnd (impl_inRange a0.most 1 8) fun v10 =>
   cnd v10 (
    some (ile (List.length a0.list : Int) a0.most)) (
    some false)
  | .inr () =>
   some false
noncomputable def impl_CacheOk_e (q : (TCache)) : List AV × List Ob := ([AV.agg [AV.int .i64 q.most, AV.fsl (List.map eKept q.list)]], [])
noncomputable def impl_CacheOk_v (q : (TCache)) (r : (Bool)) : AV × List Ob := (AV.bool r, [])
noncomputable def impl_CacheOk_x : List AV → List Ob → Option (AV × List Ob) := xOf impl_CacheOk_e (fun q => impl_CacheOk q) impl_CacheOk_v
theorem impl_CacheOk_i : ∀ a b, impl_CacheOk_e a = impl_CacheOk_e b → a = b := by rintro ⟨x0, x1⟩ ⟨y0, y1⟩ h; simp [impl_CacheOk_e] at h; simp [h]
@[simp] theorem impl_CacheOk_k (z0 : Int) (z1 : List TKept) : impl_CacheOk_x [AV.agg [AV.int .i64 z0, AV.fsl (List.map eKept z1)]] [] = mapR (impl_CacheOk ⟨z0, z1⟩) (fun r => (AV.bool r, [])) :=
  xOf_eq impl_CacheOk_i ⟨z0, z1⟩
/-! slices_Delete_Kept: function 163 -/
noncomputable def slices_Delete_Kept (a0 : Nat) (a1 : Int) (a2 : Int) (a3 : List TKept) : Option ((List TKept) × (List TKept)) :=
  chkP (a0 ≤ List.length a3) (
  chkP (0 ≤ a1 ∧ a1 ≤ a2 ∧ a2 ≤ (a0 : Int) ∧ (a0 : Int) ≤ (a0 : Int)) (
  cnd (ieq a1 a2) (
   some ((tk a0 a3), a3)) (
   bnd (slc a3 0 a1) fun v1 =>
   bnd (slc a3 a2 (a0 : Int)) fun v2 =>
   chkP ((List.length v1) + List.length v2 ≤ List.length a3) (
   chkP (((List.length v1) + List.length v2) * 64 ≤ 17592186044416) (
   nam ((ovr a3 (List.length v1) v2) : List TKept) fun l3 =>
   bnd (slc l3 0 ((List.length v1 : Int) + (List.length v2 : Int))) fun v4 =>
   bnd (slc l3 (List.length v4 : Int) (a0 : Int)) fun v5 =>
   nam ((clrL l3 (Int.toNat (List.length v4 : Int)) (List.length v5) (TKept.mk 0 (TMask.mk (TBox.mk 0 0 0 0) []))) : List TKept) fun l6 =>
   some (v4, l6))))))
noncomputable def slices_Delete_Kept_e (q : (Nat) × (Int) × (Int) × (List TKept)) : List AV × List Ob := ([AV.osl 0 0 q.1 (List.length q.2.2.2), AV.int .i64 q.2.1, AV.int .i64 q.2.2.1], [Ob.arr 6 (List.map eKept q.2.2.2) false])
noncomputable def slices_Delete_Kept_v (q : (Nat) × (Int) × (Int) × (List TKept)) (r : (List TKept) × (List TKept)) : AV × List Ob := (AV.osl 0 0 (List.length r.1) (List.length r.2), [Ob.arr 6 (List.map eKept r.2) false])
noncomputable def slices_Delete_Kept_x : List AV → List Ob → Option (AV × List Ob) := xOf slices_Delete_Kept_e (fun q => slices_Delete_Kept q.1 q.2.1 q.2.2.1 q.2.2.2) slices_Delete_Kept_v
theorem slices_Delete_Kept_i : ∀ a b, slices_Delete_Kept_e a = slices_Delete_Kept_e b → a = b := by rintro ⟨x0, x1, x2, x3⟩ ⟨y0, y1, y2, y3⟩ h; simp [slices_Delete_Kept_e] at h; simp [h]
@[simp] theorem slices_Delete_Kept_k (z0 : Nat) (z1 : Int) (z2 : Int) (z3 : List TKept) : slices_Delete_Kept_x [AV.osl 0 0 z0 (List.length z3), AV.int .i64 z1, AV.int .i64 z2] [Ob.arr 6 (List.map eKept z3) false] = mapR (slices_Delete_Kept z0 z1 z2 z3) (fun r => (AV.osl 0 0 (List.length r.1) (List.length r.2), [Ob.arr 6 (List.map eKept r.2) false])) :=
  xOf_eq slices_Delete_Kept_i (z0, z1, z2, z3)
/-! slices_Insert_Kept: function 164 -/
noncomputable def slices_Insert_Kept (a0 : Nat) (a1 : Int) (a2 : List TKept) (a3 : List TKept) : Option ((List TKept) × (List TKept)) :=
  cnd (ieq a1 (a0 : Int)) (
   chkP (a0 ≤ List.length a2) (
   bnd (slc a2 a1 (a0 : Int)) fun v1 =>
   cnd (ieq (List.length a3 : Int) 0) (
    some ((tk a0 a2), a2)) (
    cnd (ieq (a0 : Int) (List.length a2 : Int)) (
     chkP ((List.length a2 + List.length a3) * 64 ≤ 17592186044416) (
     nam ((a2 ++ a3) : List TKept) fun l2 =>
     some (l2, l2))) (
     chkP (a0 + List.length a3 ≤ List.length a2) (
     chkP ((a0 + List.length a3) * 64 ≤ 17592186044416) (
     nam ((ovr a2 a0 a3) : List TKept) fun l3 =>
     bnd (slc l3 0 ((a0 : Int) + (List.length a3 : Int))) fun v4 =>
     some (v4, l3))))))) (
   chkP (0 ≤ a1 ∧ a1 < a0 ∧ a0 ≤ List.length a2 ∧ 0 < List.length a3 ∧ (a0 + List.length a3) * 64 ≤ 17592186044416) (
   some ((insL a2 a0 a1 a3), (insR a2 a0 a1 a3))))
noncomputable def slices_Insert_Kept_e (q : (Nat) × (Int) × (List TKept) × (List TKept)) : List AV × List Ob := ([AV.osl 0 0 q.1 (List.length q.2.2.1), AV.int .i64 q.2.1, AV.osl 1 0 (List.length q.2.2.2) (List.length q.2.2.2)], [Ob.arr 6 (List.map eKept q.2.2.1) false, Ob.arr 6 (List.map eKept q.2.2.2) false])
noncomputable def slices_Insert_Kept_v (q : (Nat) × (Int) × (List TKept) × (List TKept)) (r : (List TKept) × (List TKept)) : AV × List Ob := (AV.osl 0 0 (List.length r.1) (List.length r.2), [Ob.arr 6 (List.map eKept r.2) false, Ob.arr 6 (List.map eKept q.2.2.2) false])
noncomputable def slices_Insert_Kept_x : List AV → List Ob → Option (AV × List Ob) := xOf slices_Insert_Kept_e (fun q => slices_Insert_Kept q.1 q.2.1 q.2.2.1 q.2.2.2) slices_Insert_Kept_v
theorem slices_Insert_Kept_i : ∀ a b, slices_Insert_Kept_e a = slices_Insert_Kept_e b → a = b := by rintro ⟨x0, x1, x2, x3⟩ ⟨y0, y1, y2, y3⟩ h; simp [slices_Insert_Kept_e] at h; simp [h]
@[simp] theorem slices_Insert_Kept_k (z0 : Nat) (z1 : Int) (z2 : List TKept) (z3 : List TKept) : slices_Insert_Kept_x [AV.osl 0 0 z0 (List.length z2), AV.int .i64 z1, AV.osl 1 0 (List.length z3) (List.length z3)] [Ob.arr 6 (List.map eKept z2) false, Ob.arr 6 (List.map eKept z3) false] = mapR (slices_Insert_Kept z0 z1 z2 z3) (fun r => (AV.osl 0 0 (List.length r.1) (List.length r.2), [Ob.arr 6 (List.map eKept r.2) false, Ob.arr 6 (List.map eKept z3) false])) :=
  xOf_eq slices_Insert_Kept_i (z0, z1, z2, z3)
/-! impl_Cache_toFront: function 97 -/
noncomputable def impl_Cache_toFront (a0 : TKept) (a1 : Int) (a2 : List TKept) : Option ((Int) × (List TKept) × (List TKept)) :=
  bnd (impl_Cache_keptAt (TCache.mk a1 a2) a0.id) fun v1 =>
  cnd (ile 0 v1) (
   bnd (slices_Delete_Kept (List.length a2) v1 (IntKind.i64.wrap (v1 + 1)) a2) fun (w3, w4) =>
   bnd (slc w4 0 (List.length w3 : Int)) fun v5 =>
   bnd (slices_Insert_Kept (List.length v5) 0 w4 [a0]) fun (w7, w8) =>
   bnd (slc w8 0 (List.length w7 : Int)) fun v9 =>
   cnd (ile (List.length v9 : Int) a1) (
    some (a1, v9, w8)) (
    bnd (slices_Delete_Kept (List.length v9) a1 (List.length v9 : Int) w8) fun (w11, w12) =>
    bnd (slc w12 0 (List.length w11 : Int)) fun v13 =>
    some (a1, v13, w12))) (
   bnd (slices_Insert_Kept (List.length a2) 0 a2 [a0]) fun (w15, w16) =>
   bnd (slc w16 0 (List.length w15 : Int)) fun v17 =>
   cnd (ile (List.length v17 : Int) a1) (
    some (a1, v17, w16)) (
    bnd (slices_Delete_Kept (List.length v17) a1 (List.length v17 : Int) w16) fun (w19, w20) =>
    bnd (slc w20 0 (List.length w19 : Int)) fun v21 =>
    some (a1, v21, w20)))
noncomputable def impl_Cache_toFront_e (q : (TKept) × (Int) × (List TKept)) : List AV × List Ob := ([AV.optr 0 0 2, AV.agg [AV.int .i64 q.1.id, AV.int .i64 q.1.mask.box.x0, AV.int .i64 q.1.mask.box.y0, AV.int .i64 q.1.mask.box.x1, AV.int .i64 q.1.mask.box.y1, AV.fsl (List.map (AV.int .i64) q.1.mask.bits)]], [Ob.box [AV.int .i64 q.2.1, AV.osl 1 0 (List.length q.2.2) (List.length q.2.2)], Ob.arr 6 (List.map eKept q.2.2) false])
noncomputable def impl_Cache_toFront_v (q : (TKept) × (Int) × (List TKept)) (r : (Int) × (List TKept) × (List TKept)) : AV × List Ob := (AV.tup [], [Ob.box [AV.int .i64 r.1, AV.osl 1 0 (List.length r.2.1) (List.length r.2.2)], Ob.arr 6 (List.map eKept r.2.2) false])
noncomputable def impl_Cache_toFront_x : List AV → List Ob → Option (AV × List Ob) := xOf impl_Cache_toFront_e (fun q => impl_Cache_toFront q.1 q.2.1 q.2.2) impl_Cache_toFront_v
theorem impl_Cache_toFront_i : ∀ a b, impl_Cache_toFront_e a = impl_Cache_toFront_e b → a = b := by rintro ⟨⟨x0, ⟨⟨x1, x2, x3, x4⟩, x5⟩⟩, x6, x7⟩ ⟨⟨y0, ⟨⟨y1, y2, y3, y4⟩, y5⟩⟩, y6, y7⟩ h; simp [impl_Cache_toFront_e] at h; simp [h]
@[simp] theorem impl_Cache_toFront_k (z0 : Int) (z1 : Int) (z2 : Int) (z3 : Int) (z4 : Int) (z5 : List Int) (z6 : Int) (z7 : List TKept) : impl_Cache_toFront_x [AV.optr 0 0 2, AV.agg [AV.int .i64 z0, AV.int .i64 z1, AV.int .i64 z2, AV.int .i64 z3, AV.int .i64 z4, AV.fsl (List.map (AV.int .i64) z5)]] [Ob.box [AV.int .i64 z6, AV.osl 1 0 (List.length z7) (List.length z7)], Ob.arr 6 (List.map eKept z7) false] = mapR (impl_Cache_toFront ⟨z0, ⟨⟨z1, z2, z3, z4⟩, z5⟩⟩ z6 z7) (fun r => (AV.tup [], [Ob.box [AV.int .i64 r.1, AV.osl 1 0 (List.length r.2.1) (List.length r.2.2)], Ob.arr 6 (List.map eKept r.2.2) false])) :=
  xOf_eq impl_Cache_toFront_i (⟨z0, ⟨⟨z1, z2, z3, z4⟩, z5⟩⟩, z6, z7)
/-! impl_Remember: function 32 -/
noncomputable def impl_Remember (a0 : TCache) (a1 : Int) (a2 : TMask) : Option ((TCache)) :=
  bnd (impl_copyCache a0) fun (w2, w3) =>
  bnd (impl_inRange a1 1 99) fun v4 =>
  cnd v4 (
   bnd (impl_MaskOk a2) fun v5 =>
   cnd v5 (
    bnd (impl_CacheOk a0) fun v6 =>
    cnd v6 (
     bnd (impl_copyMask a2) fun v7 =>
     bnd (impl_Cache_toFront (TKept.mk a1 v7) w2 w3) fun (w9, w10, w11) =>
     bnd (slc w11 0 (List.length w10 : Int)) fun v12 =>
     some (TCache.mk w9 v12)) (
     some (TCache.mk w2 w3))) (
    some (TCache.mk w2 w3))) (
   some (TCache.mk w2 w3))
noncomputable def impl_Remember_e (q : (TCache) × (Int) × (TMask)) : List AV × List Ob := ([AV.agg [AV.int .i64 q.1.most, AV.fsl (List.map eKept q.1.list)], AV.int .i64 q.2.1, AV.agg [AV.int .i64 q.2.2.box.x0, AV.int .i64 q.2.2.box.y0, AV.int .i64 q.2.2.box.x1, AV.int .i64 q.2.2.box.y1, AV.fsl (List.map (AV.int .i64) q.2.2.bits)]], [])
noncomputable def impl_Remember_v (q : (TCache) × (Int) × (TMask)) (r : (TCache)) : AV × List Ob := (AV.agg [AV.int .i64 r.most, AV.fsl (List.map eKept r.list)], [])
noncomputable def impl_Remember_x : List AV → List Ob → Option (AV × List Ob) := xOf impl_Remember_e (fun q => impl_Remember q.1 q.2.1 q.2.2) impl_Remember_v
theorem impl_Remember_i : ∀ a b, impl_Remember_e a = impl_Remember_e b → a = b := by rintro ⟨⟨x0, x1⟩, x2, ⟨⟨x3, x4, x5, x6⟩, x7⟩⟩ ⟨⟨y0, y1⟩, y2, ⟨⟨y3, y4, y5, y6⟩, y7⟩⟩ h; simp [impl_Remember_e] at h; simp [h]
@[simp] theorem impl_Remember_k (z0 : Int) (z1 : List TKept) (z2 : Int) (z3 : Int) (z4 : Int) (z5 : Int) (z6 : Int) (z7 : List Int) : impl_Remember_x [AV.agg [AV.int .i64 z0, AV.fsl (List.map eKept z1)], AV.int .i64 z2, AV.agg [AV.int .i64 z3, AV.int .i64 z4, AV.int .i64 z5, AV.int .i64 z6, AV.fsl (List.map (AV.int .i64) z7)]] [] = mapR (impl_Remember ⟨z0, z1⟩ z2 ⟨⟨z3, z4, z5, z6⟩, z7⟩) (fun r => (AV.agg [AV.int .i64 r.most, AV.fsl (List.map eKept r.list)], [])) :=
  xOf_eq impl_Remember_i (⟨z0, z1⟩, z2, ⟨⟨z3, z4, z5, z6⟩, z7⟩)
/-! impl_Recall: function 36 -/
noncomputable def impl_Recall (a0 : TCache) (a1 : Int) : Option ((TCache) × (TMask) × (Bool)) :=
  bnd (impl_copyCache a0) fun (w2, w3) =>
  bnd (impl_Cache_keptAt a0 a1) fun v4 =>
  cnd (ile 0 v4) (
   bnd (impl_CacheOk a0) fun v5 =>
   cnd v5 (
    bnd (idx w3 v4) fun v6 =>
    bnd (impl_Cache_toFront v6 w2 w3) fun (w8, w9, w10) =>
    bnd (idx a0.list v4) fun v11 =>
    bnd (impl_copyMask v11.mask) fun v12 =>
    bnd (slc w10 0 (List.length w9 : Int)) fun v13 =>
    some ((TCache.mk w8 v13), v12, true)) (
    some ((TCache.mk w2 w3), (TMask.mk (TBox.mk 0 0 0 0) []), false))) (
   some ((TCache.mk w2 w3), (TMask.mk (TBox.mk 0 0 0 0) []), false))
noncomputable def impl_Recall_e (q : (TCache) × (Int)) : List AV × List Ob := ([AV.agg [AV.int .i64 q.1.most, AV.fsl (List.map eKept q.1.list)], AV.int .i64 q.2], [])
noncomputable def impl_Recall_v (q : (TCache) × (Int)) (r : (TCache) × (TMask) × (Bool)) : AV × List Ob := (AV.tup [AV.agg [AV.int .i64 r.1.most, AV.fsl (List.map eKept r.1.list)], AV.agg [AV.int .i64 r.2.1.box.x0, AV.int .i64 r.2.1.box.y0, AV.int .i64 r.2.1.box.x1, AV.int .i64 r.2.1.box.y1, AV.fsl (List.map (AV.int .i64) r.2.1.bits)], AV.bool r.2.2], [])
noncomputable def impl_Recall_x : List AV → List Ob → Option (AV × List Ob) := xOf impl_Recall_e (fun q => impl_Recall q.1 q.2) impl_Recall_v
theorem impl_Recall_i : ∀ a b, impl_Recall_e a = impl_Recall_e b → a = b := by rintro ⟨⟨x0, x1⟩, x2⟩ ⟨⟨y0, y1⟩, y2⟩ h; simp [impl_Recall_e] at h; simp [h]
@[simp] theorem impl_Recall_k (z0 : Int) (z1 : List TKept) (z2 : Int) : impl_Recall_x [AV.agg [AV.int .i64 z0, AV.fsl (List.map eKept z1)], AV.int .i64 z2] [] = mapR (impl_Recall ⟨z0, z1⟩ z2) (fun r => (AV.tup [AV.agg [AV.int .i64 r.1.most, AV.fsl (List.map eKept r.1.list)], AV.agg [AV.int .i64 r.2.1.box.x0, AV.int .i64 r.2.1.box.y0, AV.int .i64 r.2.1.box.x1, AV.int .i64 r.2.1.box.y1, AV.fsl (List.map (AV.int .i64) r.2.1.bits)], AV.bool r.2.2], [])) :=
  xOf_eq impl_Recall_i (⟨z0, z1⟩, z2)
/-! slices_Index_int: function 159 -/
noncomputable def slices_Index_int_l0 (a0 : List Int) (a1 : Int) : ((Int)) → Option (((Int)) ⊕ ((Unit) ⊕ ((Int)))) := fun x2 =>
  cnd (ile (List.length a0 : Int) x2) (
   some (.inr (.inl ()))) (
   bnd (idx a0 x2) fun v3 =>
   cnd (ieq a1 v3) (
    some (.inr (.inr x2))) (
    some (.inl (IntKind.i64.wrap (x2 + 1)))))
noncomputable def slices_Index_int_l0_S (a0 : List Int) (a1 : Int) : ((Int)) → St := fun x2 => ⟨[(0, AV.fsl (List.map (AV.int .i64) a0)), (1, AV.int .i64 a1), (7, AV.int .i64 (List.length a0 : Int)), (8, AV.int .i64 x2)], [], 0⟩
noncomputable def slices_Index_int_l0_X (a0 : List Int) (a1 : Int) : ((Unit) ⊕ ((Int))) → Ex × St := fun q => match q with
  | .inl _ => ((.exit 0), ⟨[], [], 0⟩)
  | .inr y4 => (.ret, ⟨[(4, AV.int .i64 y4)], [], 0⟩)
noncomputable def slices_Index_int (a0 : List Int) (a1 : Int) : Option ((Int)) :=
  bnd (loopI (slices_Index_int_l0 a0 a1) 0) fun q => match q with
  | .inl () =>
   some (-1)
  | .inr y4 =>
   some y4
noncomputable def slices_Index_int_e (q : (List Int) × (Int)) : List AV × List Ob := ([AV.fsl (List.map (AV.int .i64) q.1), AV.int .i64 q.2], [])
noncomputable def slices_Index_int_v (q : (List Int) × (Int)) (r : (Int)) : AV × List Ob := (AV.int .i64 r, [])
noncomputable def slices_Index_int_x : List AV → List Ob → Option (AV × List Ob) := xOf slices_Index_int_e (fun q => slices_Index_int q.1 q.2) slices_Index_int_v
theorem slices_Index_int_i : ∀ a b, slices_Index_int_e a = slices_Index_int_e b → a = b := by rintro ⟨x0, x1⟩ ⟨y0, y1⟩ h; simp [slices_Index_int_e] at h; simp [h]
@[simp] theorem slices_Index_int_k (z0 : List Int) (z1 : Int) : slices_Index_int_x [AV.fsl (List.map (AV.int .i64) z0), AV.int .i64 z1] [] = mapR (slices_Index_int z0 z1) (fun r => (AV.int .i64 r, [])) :=
  xOf_eq slices_Index_int_i (z0, z1)
/-! slices_Contains_int: function 85 -/
noncomputable def slices_Contains_int (a0 : List Int) (a1 : Int) : Option ((Bool)) :=
  bnd (slices_Index_int a0 a1) fun v1 =>
  some (ile 0 v1)
noncomputable def slices_Contains_int_e (q : (List Int) × (Int)) : List AV × List Ob := ([AV.fsl (List.map (AV.int .i64) q.1), AV.int .i64 q.2], [])
noncomputable def slices_Contains_int_v (q : (List Int) × (Int)) (r : (Bool)) : AV × List Ob := (AV.bool r, [])
noncomputable def slices_Contains_int_x : List AV → List Ob → Option (AV × List Ob) := xOf slices_Contains_int_e (fun q => slices_Contains_int q.1 q.2) slices_Contains_int_v
theorem slices_Contains_int_i : ∀ a b, slices_Contains_int_e a = slices_Contains_int_e b → a = b := by rintro ⟨x0, x1⟩ ⟨y0, y1⟩ h; simp [slices_Contains_int_e] at h; simp [h]
@[simp] theorem slices_Contains_int_k (z0 : List Int) (z1 : Int) : slices_Contains_int_x [AV.fsl (List.map (AV.int .i64) z0), AV.int .i64 z1] [] = mapR (slices_Contains_int z0 z1) (fun r => (AV.bool r, [])) :=
  xOf_eq slices_Contains_int_i (z0, z1)
/-! impl_Forget_1: function 84 -/
noncomputable def impl_Forget_1 (a0 : TKept) (a1 : List Int) : Option ((Bool)) :=
  bnd (slices_Contains_int a1 a0.id) fun v1 =>
  some v1
noncomputable def impl_Forget_1_e (q : (TKept) × (List Int)) : List AV × List Ob := ([AV.agg [AV.int .i64 q.1.id, AV.int .i64 q.1.mask.box.x0, AV.int .i64 q.1.mask.box.y0, AV.int .i64 q.1.mask.box.x1, AV.int .i64 q.1.mask.box.y1, AV.fsl (List.map (AV.int .i64) q.1.mask.bits)], AV.fptr [AV.fsl (List.map (AV.int .i64) q.2)] 0], [])
noncomputable def impl_Forget_1_v (q : (TKept) × (List Int)) (r : (Bool)) : AV × List Ob := (AV.bool r, [])
noncomputable def impl_Forget_1_x : List AV → List Ob → Option (AV × List Ob) := xOf impl_Forget_1_e (fun q => impl_Forget_1 q.1 q.2) impl_Forget_1_v
theorem impl_Forget_1_i : ∀ a b, impl_Forget_1_e a = impl_Forget_1_e b → a = b := by rintro ⟨⟨x0, ⟨⟨x1, x2, x3, x4⟩, x5⟩⟩, x6⟩ ⟨⟨y0, ⟨⟨y1, y2, y3, y4⟩, y5⟩⟩, y6⟩ h; simp [impl_Forget_1_e] at h; simp [h]
@[simp] theorem impl_Forget_1_k (z0 : Int) (z1 : Int) (z2 : Int) (z3 : Int) (z4 : Int) (z5 : List Int) (z6 : List Int) : impl_Forget_1_x [AV.agg [AV.int .i64 z0, AV.int .i64 z1, AV.int .i64 z2, AV.int .i64 z3, AV.int .i64 z4, AV.fsl (List.map (AV.int .i64) z5)], AV.fptr [AV.fsl (List.map (AV.int .i64) z6)] 0] [] = mapR (impl_Forget_1 ⟨z0, ⟨⟨z1, z2, z3, z4⟩, z5⟩⟩ z6) (fun r => (AV.bool r, [])) :=
  xOf_eq impl_Forget_1_i (⟨z0, ⟨⟨z1, z2, z3, z4⟩, z5⟩⟩, z6)
/-! slices_IndexFunc_Kept_Forget_1: function 158 -/
noncomputable def slices_IndexFunc_Kept_Forget_1_l0 (a0 : List TKept) (a1 : List Int) : ((Int)) → Option (((Int)) ⊕ ((Unit) ⊕ ((Int)))) := fun x3 =>
  cnd (ile (List.length a0 : Int) x3) (
   some (.inr (.inl ()))) (
   bnd (idx a0 x3) fun v4 =>
   bnd (impl_Forget_1 v4 a1) fun v5 =>
   cnd v5 (
    some (.inr (.inr x3))) (
    some (.inl (IntKind.i64.wrap (x3 + 1)))))
noncomputable def slices_IndexFunc_Kept_Forget_1_l0_S (a0 : List TKept) (a1 : List Int) : ((Int)) → St := fun x3 => ⟨[(0, AV.fsl (List.map eKept a0)), (1, AV.func (.func 84) [] [AV.fptr [AV.fsl (List.map (AV.int .i64) a1)] 0]), (7, AV.int .i64 (List.length a0 : Int)), (8, AV.int .i64 x3)], [], 0⟩
noncomputable def slices_IndexFunc_Kept_Forget_1_l0_X (a0 : List TKept) (a1 : List Int) : ((Unit) ⊕ ((Int))) → Ex × St := fun q => match q with
  | .inl _ => ((.exit 0), ⟨[], [], 0⟩)
  | .inr y6 => (.ret, ⟨[(4, AV.int .i64 y6)], [], 0⟩)
noncomputable def slices_IndexFunc_Kept_Forget_1 (a0 : List TKept) (a1 : List Int) : Option ((Int)) :=
  bnd (loopI (slices_IndexFunc_Kept_Forget_1_l0 a0 a1) 0) fun q => match q with
  | .inl () =>
   some (-1)
  | .inr y6 =>
   some y6
noncomputable def slices_IndexFunc_Kept_Forget_1_e (q : (List TKept) × (List Int)) : List AV × List Ob := ([AV.fsl (List.map eKept q.1), AV.func (.func 84) [] [AV.fptr [AV.fsl (List.map (AV.int .i64) q.2)] 0]], [])
noncomputable def slices_IndexFunc_Kept_Forget_1_v (q : (List TKept) × (List Int)) (r : (Int)) : AV × List Ob := (AV.int .i64 r, [])
noncomputable def slices_IndexFunc_Kept_Forget_1_x : List AV → List Ob → Option (AV × List Ob) := xOf slices_IndexFunc_Kept_Forget_1_e (fun q => slices_IndexFunc_Kept_Forget_1 q.1 q.2) slices_IndexFunc_Kept_Forget_1_v
theorem slices_IndexFunc_Kept_Forget_1_i : ∀ a b, slices_IndexFunc_Kept_Forget_1_e a = slices_IndexFunc_Kept_Forget_1_e b → a = b := by rintro ⟨x0, x1⟩ ⟨y0, y1⟩ h; simp [slices_IndexFunc_Kept_Forget_1_e] at h; simp [h]
@[simp] theorem slices_IndexFunc_Kept_Forget_1_k (z0 : List TKept) (z1 : List Int) : slices_IndexFunc_Kept_Forget_1_x [AV.fsl (List.map eKept z0), AV.func (.func 84) [] [AV.fptr [AV.fsl (List.map (AV.int .i64) z1)] 0]] [] = mapR (slices_IndexFunc_Kept_Forget_1 z0 z1) (fun r => (AV.int .i64 r, [])) :=
  xOf_eq slices_IndexFunc_Kept_Forget_1_i (z0, z1)
/-! slices_DeleteFunc_Kept_Forget_1: function 83 -/
noncomputable def slices_DeleteFunc_Kept_Forget_1_l0 (a1 : List Int) : ((Int) × (Int) × (List TKept)) → Option (((Int) × (Int) × (List TKept)) ⊕ ((List TKept) × (Int))) := fun (x6, x7, x8) =>
  cnd (ile (List.length x8 : Int) x6) (
   some (.inr (x8, x7))) (
   bnd (idx x8 x6) fun v9 =>
   bnd (impl_Forget_1 v9 a1) fun v10 =>
   cnd v10 (
    some (.inl ((IntKind.i64.wrap (x6 + 1)), x7, x8))) (
    bnd (idx x8 x7) fun v11 =>
    nam ((List.set x8 (Int.toNat x7) v9) : List TKept) fun l12 =>
    some (.inl ((IntKind.i64.wrap (x6 + 1)), (IntKind.i64.wrap (x7 + 1)), l12))))
noncomputable def slices_DeleteFunc_Kept_Forget_1_l0_S (a1 : List Int) : ((Int) × (Int) × (List TKept)) → St := fun (x6, x7, x8) => ⟨[(0, AV.osl 0 0 (List.length x8) (List.length x8)), (1, AV.func (.func 84) [] [AV.optr 1 0 1]), (5, AV.int .i64 x7), (6, AV.int .i64 x6)], [(0, Ob.arr 6 (List.map eKept x8) false), (1, Ob.box [AV.fsl (List.map (AV.int .i64) a1)])], 2⟩
noncomputable def slices_DeleteFunc_Kept_Forget_1_l0_X (a1 : List Int) : ((List TKept) × (Int)) → Ex × St := fun (y13, y14) => ((.exit 0), ⟨[(0, AV.osl 0 0 (List.length y13) (List.length y13)), (5, AV.int .i64 y14)], [(0, Ob.arr 6 (List.map eKept y13) false), (1, Ob.box [AV.fsl (List.map (AV.int .i64) a1)])], 2⟩)
noncomputable def slices_DeleteFunc_Kept_Forget_1 (a0 : List TKept) (a1 : List Int) : Option ((List TKept) × (List TKept)) :=
  bnd (slices_IndexFunc_Kept_Forget_1 a0 a1) fun v1 =>
  cnd (ieq v1 (-1)) (
   some (a0, a0)) (
   bnd (loopI (slices_DeleteFunc_Kept_Forget_1_l0 a1) ((IntKind.i64.wrap (v1 + 1)), v1, a0)) fun (y13, y14) =>
   bnd (slc y13 y14 (List.length y13 : Int)) fun v15 =>
   nam ((clrL y13 (Int.toNat y14) (List.length v15) (TKept.mk 0 (TMask.mk (TBox.mk 0 0 0 0) []))) : List TKept) fun l16 =>
   bnd (slc l16 0 y14) fun v17 =>
   some (v17, l16))
noncomputable def slices_DeleteFunc_Kept_Forget_1_e (q : (List TKept) × (List Int)) : List AV × List Ob := ([AV.osl 0 0 (List.length q.1) (List.length q.1), AV.func (.func 84) [] [AV.optr 1 0 1]], [Ob.arr 6 (List.map eKept q.1) false, Ob.box [AV.fsl (List.map (AV.int .i64) q.2)]])
noncomputable def slices_DeleteFunc_Kept_Forget_1_v (q : (List TKept) × (List Int)) (r : (List TKept) × (List TKept)) : AV × List Ob := (AV.osl 0 0 (List.length r.1) (List.length r.2), [Ob.arr 6 (List.map eKept r.2) false, Ob.box [AV.fsl (List.map (AV.int .i64) q.2)]])
noncomputable def slices_DeleteFunc_Kept_Forget_1_x : List AV → List Ob → Option (AV × List Ob) := xOf slices_DeleteFunc_Kept_Forget_1_e (fun q => slices_DeleteFunc_Kept_Forget_1 q.1 q.2) slices_DeleteFunc_Kept_Forget_1_v
theorem slices_DeleteFunc_Kept_Forget_1_i : ∀ a b, slices_DeleteFunc_Kept_Forget_1_e a = slices_DeleteFunc_Kept_Forget_1_e b → a = b := by rintro ⟨x0, x1⟩ ⟨y0, y1⟩ h; simp [slices_DeleteFunc_Kept_Forget_1_e] at h; simp [h]
@[simp] theorem slices_DeleteFunc_Kept_Forget_1_k (z0 : List TKept) (z1 : List Int) : slices_DeleteFunc_Kept_Forget_1_x [AV.osl 0 0 (List.length z0) (List.length z0), AV.func (.func 84) [] [AV.optr 1 0 1]] [Ob.arr 6 (List.map eKept z0) false, Ob.box [AV.fsl (List.map (AV.int .i64) z1)]] = mapR (slices_DeleteFunc_Kept_Forget_1 z0 z1) (fun r => (AV.osl 0 0 (List.length r.1) (List.length r.2), [Ob.arr 6 (List.map eKept r.2) false, Ob.box [AV.fsl (List.map (AV.int .i64) z1)]])) :=
  xOf_eq slices_DeleteFunc_Kept_Forget_1_i (z0, z1)
/-! impl_Forget: function 23 -/
noncomputable def impl_Forget (a0 : TCache) (a1 : List Int) : Option ((TCache)) :=
  bnd (impl_copyCache a0) fun (w2, w3) =>
  bnd (slices_DeleteFunc_Kept_Forget_1 w3 a1) fun (w5, w6) =>
  bnd (slc w6 0 (List.length w5 : Int)) fun v7 =>
  some (TCache.mk w2 v7)
noncomputable def impl_Forget_e (q : (TCache) × (List Int)) : List AV × List Ob := ([AV.agg [AV.int .i64 q.1.most, AV.fsl (List.map eKept q.1.list)], AV.fsl (List.map (AV.int .i64) q.2)], [])
noncomputable def impl_Forget_v (q : (TCache) × (List Int)) (r : (TCache)) : AV × List Ob := (AV.agg [AV.int .i64 r.most, AV.fsl (List.map eKept r.list)], [])
noncomputable def impl_Forget_x : List AV → List Ob → Option (AV × List Ob) := xOf impl_Forget_e (fun q => impl_Forget q.1 q.2) impl_Forget_v
theorem impl_Forget_i : ∀ a b, impl_Forget_e a = impl_Forget_e b → a = b := by rintro ⟨⟨x0, x1⟩, x2⟩ ⟨⟨y0, y1⟩, y2⟩ h; simp [impl_Forget_e] at h; simp [h]
@[simp] theorem impl_Forget_k (z0 : Int) (z1 : List TKept) (z2 : List Int) : impl_Forget_x [AV.agg [AV.int .i64 z0, AV.fsl (List.map eKept z1)], AV.fsl (List.map (AV.int .i64) z2)] [] = mapR (impl_Forget ⟨z0, z1⟩ z2) (fun r => (AV.agg [AV.int .i64 r.most, AV.fsl (List.map eKept r.list)], [])) :=
  xOf_eq impl_Forget_i (⟨z0, z1⟩, z2)
/-! laws_sameInts: function 108 -/
noncomputable def laws_sameInts_l0 (a0 : List Int) (a1 : List Int) : ((Int)) → Option (((Int)) ⊕ ((Unit) ⊕ (Unit))) := fun x3 =>
  cnd (ile (List.length a0 : Int) x3) (
   some (.inr (.inl ()))) (
   bnd (idx a0 x3) fun v4 =>
   bnd (idx a1 x3) fun v5 =>
   cnd (ieq v4 v5) (
    some (.inl (IntKind.i64.wrap (x3 + 1)))) (
    some (.inr (.inr ()))))
noncomputable def laws_sameInts_l0_S (a0 : List Int) (a1 : List Int) : ((Int)) → St := fun x3 => ⟨[(0, AV.fsl (List.map (AV.int .i64) a0)), (1, AV.fsl (List.map (AV.int .i64) a1)), (5, AV.int .i64 x3)], [], 0⟩
noncomputable def laws_sameInts_l0_X (a0 : List Int) (a1 : List Int) : ((Unit) ⊕ (Unit)) → Ex × St := fun q => match q with
  | .inl _ => ((.exit 0), ⟨[], [], 0⟩)
  | .inr _ => (.ret, ⟨[(4, AV.bool false)], [], 0⟩)
noncomputable def laws_sameInts (a0 : List Int) (a1 : List Int) : Option ((Bool)) :=
  cnd (ieq (List.length a0 : Int) (List.length a1 : Int)) (
   bnd (loopI (laws_sameInts_l0 a0 a1) 0) fun q => match q with
   | .inl () =>
    some true
   | .inr () =>
    some false) (
   some false)
noncomputable def laws_sameInts_e (q : (List Int) × (List Int)) : List AV × List Ob := ([AV.fsl (List.map (AV.int .i64) q.1), AV.fsl (List.map (AV.int .i64) q.2)], [])
noncomputable def laws_sameInts_v (q : (List Int) × (List Int)) (r : (Bool)) : AV × List Ob := (AV.bool r, [])
noncomputable def laws_sameInts_x : List AV → List Ob → Option (AV × List Ob) := xOf laws_sameInts_e (fun q => laws_sameInts q.1 q.2) laws_sameInts_v
theorem laws_sameInts_i : ∀ a b, laws_sameInts_e a = laws_sameInts_e b → a = b := by rintro ⟨x0, x1⟩ ⟨y0, y1⟩ h; simp [laws_sameInts_e] at h; simp [h]
@[simp] theorem laws_sameInts_k (z0 : List Int) (z1 : List Int) : laws_sameInts_x [AV.fsl (List.map (AV.int .i64) z0), AV.fsl (List.map (AV.int .i64) z1)] [] = mapR (laws_sameInts z0 z1) (fun r => (AV.bool r, [])) :=
  xOf_eq laws_sameInts_i (z0, z1)
/-! laws_sameMask: function 43 -/
noncomputable def laws_sameMask (a0 : TMask) (a1 : TMask) : Option ((Bool)) :=
  cnd (andB (decide (a0.box.x0 = a1.box.x0)) (andB (decide (a0.box.y0 = a1.box.y0)) (andB (decide (a0.box.x1 = a1.box.x1)) (andB (decide (a0.box.y1 = a1.box.y1)) true)))) (
   bnd (laws_sameInts a0.bits a1.bits) fun v1 =>
   some v1) (
   some false)
noncomputable def laws_sameMask_e (q : (TMask) × (TMask)) : List AV × List Ob := ([AV.agg [AV.int .i64 q.1.box.x0, AV.int .i64 q.1.box.y0, AV.int .i64 q.1.box.x1, AV.int .i64 q.1.box.y1, AV.fsl (List.map (AV.int .i64) q.1.bits)], AV.agg [AV.int .i64 q.2.box.x0, AV.int .i64 q.2.box.y0, AV.int .i64 q.2.box.x1, AV.int .i64 q.2.box.y1, AV.fsl (List.map (AV.int .i64) q.2.bits)]], [])
noncomputable def laws_sameMask_v (q : (TMask) × (TMask)) (r : (Bool)) : AV × List Ob := (AV.bool r, [])
noncomputable def laws_sameMask_x : List AV → List Ob → Option (AV × List Ob) := xOf laws_sameMask_e (fun q => laws_sameMask q.1 q.2) laws_sameMask_v
theorem laws_sameMask_i : ∀ a b, laws_sameMask_e a = laws_sameMask_e b → a = b := by rintro ⟨⟨⟨x0, x1, x2, x3⟩, x4⟩, ⟨⟨x5, x6, x7, x8⟩, x9⟩⟩ ⟨⟨⟨y0, y1, y2, y3⟩, y4⟩, ⟨⟨y5, y6, y7, y8⟩, y9⟩⟩ h; simp [laws_sameMask_e] at h; simp [h]
@[simp] theorem laws_sameMask_k (z0 : Int) (z1 : Int) (z2 : Int) (z3 : Int) (z4 : List Int) (z5 : Int) (z6 : Int) (z7 : Int) (z8 : Int) (z9 : List Int) : laws_sameMask_x [AV.agg [AV.int .i64 z0, AV.int .i64 z1, AV.int .i64 z2, AV.int .i64 z3, AV.fsl (List.map (AV.int .i64) z4)], AV.agg [AV.int .i64 z5, AV.int .i64 z6, AV.int .i64 z7, AV.int .i64 z8, AV.fsl (List.map (AV.int .i64) z9)]] [] = mapR (laws_sameMask ⟨⟨z0, z1, z2, z3⟩, z4⟩ ⟨⟨z5, z6, z7, z8⟩, z9⟩) (fun r => (AV.bool r, [])) :=
  xOf_eq laws_sameMask_i (⟨⟨z0, z1, z2, z3⟩, z4⟩, ⟨⟨z5, z6, z7, z8⟩, z9⟩)
/-! laws_FnCaches: function 7 -/
noncomputable def laws_FnCaches_l0 (v2 : TCache) (v7 : Int) (v8 : TCache) : ((Int)) → Option (((Int)) ⊕ ((Unit) ⊕ (Unit))) := fun x31 =>
  cnd (ile (List.length v2.list : Int) x31) (
   some (.inr (.inl ()))) (
   bnd (idx v2.list x31) fun v32 =>
   bnd (impl_Recall v8 v32.id) fun (w34, w35, w36) =>
   cnd w36 (
    cnd (ieq v32.id (IntKind.i64.wrap (1 + (Int.tmod v7 6)))) (
     bnd (idx w34.list 0) fun v37 =>
     cnd (ieq v37.id v32.id) (
      some (.inl (IntKind.i64.wrap (x31 + 1)))) (
      some (.inr (.inr ())))) (
     bnd (laws_sameMask w35 v32.mask) fun v38 =>
     cnd v38 (
      bnd (idx w34.list 0) fun v39 =>
      cnd (ieq v39.id v32.id) (
       some (.inl (IntKind.i64.wrap (x31 + 1)))) (
       some (.inr (.inr ())))) (
      some (.inr (.inr ()))))) (
    cnd (ile v8.most (List.length v8.list : Int)) (
     some (.inl (IntKind.i64.wrap (x31 + 1)))) (
     some (.inr (.inr ())))))
noncomputable def laws_FnCaches_l0_S (v2 : TCache) (v7 : Int) (v8 : TCache) : ((Int)) → St := fun x31 => ⟨[(3, AV.optr 0 0 2), (6, AV.int .i64 (IntKind.i64.wrap (1 + (Int.tmod v7 6)))), (7, AV.optr 1 0 2), (15, AV.int .i64 x31)], [(0, Ob.box [AV.int .i64 v2.most, AV.fsl (List.map eKept v2.list)]), (1, Ob.box [AV.int .i64 v8.most, AV.fsl (List.map eKept v8.list)])], 2⟩
noncomputable def laws_FnCaches_l0_X (v2 : TCache) (v7 : Int) (v8 : TCache) : ((Unit) ⊕ (Unit)) → Ex × St := fun q => match q with
  | .inl _ => ((.exit 0), ⟨[(3, AV.optr 0 0 2)], [(0, Ob.box [AV.int .i64 v2.most, AV.fsl (List.map eKept v2.list)])], 1⟩)
  | .inr _ => (.ret, ⟨[(2, AV.bool false)], [], 0⟩)
noncomputable def laws_FnCaches (a0 : List Int) : Option ((Bool)) :=
  bnd (laws_big a0) fun v1 =>
  cnd v1 (
   some true) (
   bnd (spec_DrawRightCache a0) fun v2 =>
   bnd (spec_DrawMasks a0) fun (w4, w5) =>
   bnd (spec_DrawPlaces a0) fun v6 =>
   bnd (idx v6 0) fun v7 =>
   bnd (impl_Remember v2 (IntKind.i64.wrap (1 + (Int.tmod v7 6))) w4) fun v8 =>
   bnd (impl_Recall v8 (IntKind.i64.wrap (1 + (Int.tmod v7 6)))) fun (w10, w11, w12) =>
   bnd (impl_Forget v8 [(IntKind.i64.wrap (1 + (Int.tmod v7 6)))]) fun v13 =>
   bnd (impl_Recall v13 (IntKind.i64.wrap (1 + (Int.tmod v7 6)))) fun (w15, w16, w17) =>
   bnd (impl_CacheOk v8) fun v18 =>
   cnd v18 (
    bnd (impl_CacheOk w10) fun v19 =>
    cnd v19 (
     bnd (impl_CacheOk v13) fun v20 =>
     cnd v20 (
      cnd w12 (
       cnd w17 (
        some false) (
        bnd (laws_sameMask w11 w4) fun v21 =>
        cnd v21 (
         bnd (idx v8.list 0) fun v22 =>
         cnd (ieq v22.id (IntKind.i64.wrap (1 + (Int.tmod v7 6)))) (
          cnd (ile (List.length v8.list : Int) v8.most) (
           cnd (ieq (List.length v13.list : Int) (IntKind.i64.wrap ((List.length v8.list : Int) - 1))) (
            bnd (loopI (laws_FnCaches_l0 v2 v7 v8) 0) fun q => match q with
            | .inl () =>
             bnd (impl_CacheOk v2) fun v40 =>
             some v40
            | .inr () =>
             some false) (
            some false)) (
           some false)) (
          some false)) (
         some false))) (
       some false)) (
      some false)) (
     some false)) (
    some false))
noncomputable def laws_FnCaches_e (q : (List Int)) : List AV × List Ob := ([AV.fsl (List.map (AV.int .u8) q)], [])
noncomputable def laws_FnCaches_v (q : (List Int)) (r : (Bool)) : AV × List Ob := (AV.bool r, [])
noncomputable def laws_FnCaches_x : List AV → List Ob → Option (AV × List Ob) := xOf laws_FnCaches_e (fun q => laws_FnCaches q) laws_FnCaches_v
theorem laws_FnCaches_i : ∀ a b, laws_FnCaches_e a = laws_FnCaches_e b → a = b := by rintro x0 y0 h; simp [laws_FnCaches_e] at h; simp [h]
@[simp] theorem laws_FnCaches_k (z0 : List Int) : laws_FnCaches_x [AV.fsl (List.map (AV.int .u8) z0)] [] = mapR (laws_FnCaches z0) (fun r => (AV.bool r, [])) :=
  xOf_eq laws_FnCaches_i z0
end Go.Proofs.Ytafljhadfoaceaa.Am
