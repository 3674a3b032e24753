import Derived.Test.YtafljhadfoaceaaAmCrTy
set_option linter.unusedVariables false
set_option linter.unusedSimpArgs false
set_option linter.unusedSectionVars false
namespace Go.Proofs.Ytafljhadfoaceaa.Am
open Go Go.Proofs
set_option maxRecDepth 100000
set_option linter.unusedSimpArgs false
set_option linter.unusedVariables false
set_option maxHeartbeats 4000000
/-! laws_big: function 38 -/
noncomputable def laws_big (a0 : List Int) : Option ((Bool)) :=
  some (!(ile (List.length a0 : Int) 1048576))
noncomputable def laws_big_e (q : (List Int)) : List AV × List Ob := ([AV.fsl (List.map (AV.int .u8) q)], [])
noncomputable def laws_big_v (q : (List Int)) (r : (Bool)) : AV × List Ob := (AV.bool r, [])
noncomputable def laws_big_x : List AV → List Ob → Option (AV × List Ob) := xOf laws_big_e (fun q => laws_big q) laws_big_v
theorem laws_big_i : ∀ a b, laws_big_e a = laws_big_e b → a = b := by rintro x0 y0 h; simp [laws_big_e] at h; simp [h]
@[simp] theorem laws_big_k (z0 : List Int) : laws_big_x [AV.fsl (List.map (AV.int .u8) z0)] [] = mapR (laws_big z0) (fun r => (AV.bool r, [])) :=
  xOf_eq laws_big_i z0
/-! spec_l01New: function 104 -/
noncomputable def spec_l01New_l0 (a0 : List Int) : ((Int) × (Int)) → Option (((Int) × (Int)) ⊕ ((Int))) := fun (x2, x3) =>
  cnd (ile (List.length a0 : Int) x3) (
   some (.inr x2)) (
   cnd (ile 4000 x3) (
    some (.inr x2)) (
    bnd (idx a0 x3) fun v4 =>
    some (.inl ((andI .i64 (IntKind.i64.wrap ((IntKind.i64.wrap ((IntKind.i64.wrap (x2 * 131)) + (IntKind.i64.wrap v4))) + 7)) 1073741823), (IntKind.i64.wrap (x3 + 1))))))
noncomputable def spec_l01New_l0_S (a0 : List Int) : ((Int) × (Int)) → St := fun (x2, x3) => ⟨[(0, AV.fsl (List.map (AV.int .u8) a0)), (3, AV.int .i64 x2), (4, AV.int .i64 x3)], [], 0⟩
noncomputable def spec_l01New_l0_X (a0 : List Int) : ((Int)) → Ex × St := fun y5 => ((.exit 0), ⟨[(0, AV.fsl (List.map (AV.int .u8) a0)), (3, AV.int .i64 y5)], [], 0⟩)
noncomputable def spec_l01New (a0 : List Int) : Option ((TL01Cur)) :=
  bnd (loopI (spec_l01New_l0 a0) ((IntKind.i64.wrap (28001 + (List.length a0 : Int))), 0)) fun y5 =>
  some (TL01Cur.mk a0 0 y5)
noncomputable def spec_l01New_e (q : (List Int)) : List AV × List Ob := ([AV.fsl (List.map (AV.int .u8) q)], [])
noncomputable def spec_l01New_v (q : (List Int)) (r : (TL01Cur)) : AV × List Ob := (AV.optr 0 0 3, [Ob.box [AV.fsl (List.map (AV.int .u8) r.b), AV.int .i64 r.i, AV.int .i64 r.h]])
noncomputable def spec_l01New_x : List AV → List Ob → Option (AV × List Ob) := xOf spec_l01New_e (fun q => spec_l01New q) spec_l01New_v
theorem spec_l01New_i : ∀ a b, spec_l01New_e a = spec_l01New_e b → a = b := by rintro x0 y0 h; simp [spec_l01New_e] at h; simp [h]
@[simp] theorem spec_l01New_k (z0 : List Int) : spec_l01New_x [AV.fsl (List.map (AV.int .u8) z0)] [] = mapR (spec_l01New z0) (fun r => (AV.optr 0 0 3, [Ob.box [AV.fsl (List.map (AV.int .u8) r.b), AV.int .i64 r.i, AV.int .i64 r.h]])) :=
  xOf_eq spec_l01New_i z0
/-! spec_l01Byte: function 106 -/
noncomputable def spec_l01Byte (a0 : TL01Cur) : Option ((Int) × (TL01Cur)) :=
  cnd (ile (List.length a0.b : Int) a0.i) (
   some ((andI .i64 (xorI .i64 (shrI .i64 (IntKind.i64.wrap ((IntKind.i64.wrap (a0.h * 6364136223846793005)) + 1442695040888963407)) 33) (shrI .i64 (IntKind.i64.wrap ((IntKind.i64.wrap (a0.h * 6364136223846793005)) + 1442695040888963407)) 45)) 255), (TL01Cur.mk a0.b a0.i (IntKind.i64.wrap ((IntKind.i64.wrap (a0.h * 6364136223846793005)) + 1442695040888963407))))) (
   bnd (idx a0.b a0.i) fun v1 =>
   some ((andI .i64 (IntKind.i64.wrap ((andI .i64 (xorI .i64 (shrI .i64 (IntKind.i64.wrap ((IntKind.i64.wrap (a0.h * 6364136223846793005)) + 1442695040888963407)) 33) (shrI .i64 (IntKind.i64.wrap ((IntKind.i64.wrap (a0.h * 6364136223846793005)) + 1442695040888963407)) 45)) 255) + (IntKind.i64.wrap v1))) 255), (TL01Cur.mk a0.b (IntKind.i64.wrap (a0.i + 1)) (IntKind.i64.wrap ((IntKind.i64.wrap (a0.h * 6364136223846793005)) + 1442695040888963407)))))
noncomputable def spec_l01Byte_e (q : (TL01Cur)) : List AV × List Ob := ([AV.optr 0 0 3], [Ob.box [AV.fsl (List.map (AV.int .u8) q.b), AV.int .i64 q.i, AV.int .i64 q.h]])
noncomputable def spec_l01Byte_v (q : (TL01Cur)) (r : (Int) × (TL01Cur)) : AV × List Ob := (AV.int .i64 r.1, [Ob.box [AV.fsl (List.map (AV.int .u8) r.2.b), AV.int .i64 r.2.i, AV.int .i64 r.2.h]])
noncomputable def spec_l01Byte_x : List AV → List Ob → Option (AV × List Ob) := xOf spec_l01Byte_e (fun q => spec_l01Byte q) spec_l01Byte_v
theorem spec_l01Byte_i : ∀ a b, spec_l01Byte_e a = spec_l01Byte_e b → a = b := by rintro ⟨x0, x1, x2⟩ ⟨y0, y1, y2⟩ h; simp [spec_l01Byte_e] at h; simp [h]
@[simp] theorem spec_l01Byte_k (z0 : List Int) (z1 : Int) (z2 : Int) : spec_l01Byte_x [AV.optr 0 0 3] [Ob.box [AV.fsl (List.map (AV.int .u8) z0), AV.int .i64 z1, AV.int .i64 z2]] = mapR (spec_l01Byte ⟨z0, z1, z2⟩) (fun r => (AV.int .i64 r.1, [Ob.box [AV.fsl (List.map (AV.int .u8) r.2.b), AV.int .i64 r.2.i, AV.int .i64 r.2.h]])) :=
  xOf_eq spec_l01Byte_i ⟨z0, z1, z2⟩
/-! spec_l01Below: function 107 -/
noncomputable def spec_l01Below (a0 : Int) (a1 : TL01Cur) : Option ((Int) × (TL01Cur)) :=
  cnd (ile a0 0) (
   some (0, a1)) (
   cnd (ile a0 256) (
    bnd (spec_l01Byte a1) fun (w2, w3) =>
    chkP (¬ a0 = 0) (
    some ((Int.tmod w2 a0), w3))) (
    bnd (spec_l01Byte a1) fun (w5, w6) =>
    bnd (spec_l01Byte w6) fun (w8, w9) =>
    bnd (spec_l01Byte w9) fun (w11, w12) =>
    bnd (spec_l01Byte w12) fun (w14, w15) =>
    chkP (¬ a0 = 0) (
    some ((Int.tmod (IntKind.i64.wrap ((IntKind.i64.wrap ((IntKind.i64.wrap ((IntKind.i64.wrap (w5 * 16777216)) + (IntKind.i64.wrap (w8 * 65536)))) + (IntKind.i64.wrap (w11 * 256)))) + w14)) a0), w15))))
noncomputable def spec_l01Below_e (q : (Int) × (TL01Cur)) : List AV × List Ob := ([AV.optr 0 0 3, AV.int .i64 q.1], [Ob.box [AV.fsl (List.map (AV.int .u8) q.2.b), AV.int .i64 q.2.i, AV.int .i64 q.2.h]])
noncomputable def spec_l01Below_v (q : (Int) × (TL01Cur)) (r : (Int) × (TL01Cur)) : AV × List Ob := (AV.int .i64 r.1, [Ob.box [AV.fsl (List.map (AV.int .u8) r.2.b), AV.int .i64 r.2.i, AV.int .i64 r.2.h]])
noncomputable def spec_l01Below_x : List AV → List Ob → Option (AV × List Ob) := xOf spec_l01Below_e (fun q => spec_l01Below q.1 q.2) spec_l01Below_v
theorem spec_l01Below_i : ∀ a b, spec_l01Below_e a = spec_l01Below_e b → a = b := by rintro ⟨x0, ⟨x1, x2, x3⟩⟩ ⟨y0, ⟨y1, y2, y3⟩⟩ h; simp [spec_l01Below_e] at h; simp [h]
@[simp] theorem spec_l01Below_k (z0 : Int) (z1 : List Int) (z2 : Int) (z3 : Int) : spec_l01Below_x [AV.optr 0 0 3, AV.int .i64 z0] [Ob.box [AV.fsl (List.map (AV.int .u8) z1), AV.int .i64 z2, AV.int .i64 z3]] = mapR (spec_l01Below z0 ⟨z1, z2, z3⟩) (fun r => (AV.int .i64 r.1, [Ob.box [AV.fsl (List.map (AV.int .u8) r.2.b), AV.int .i64 r.2.i, AV.int .i64 r.2.h]])) :=
  xOf_eq spec_l01Below_i (z0, ⟨z1, z2, z3⟩)
/-! spec_Still: function 172 -/
noncomputable def spec_Still  : Option ((TMat)) :=
  some (TMat.mk 65536 0 0 65536 0 0)
noncomputable def spec_Still_e (q : Unit) : List AV × List Ob := ([], [])
noncomputable def spec_Still_v (q : Unit) (r : (TMat)) : AV × List Ob := (AV.agg [AV.int .i64 r.a, AV.int .i64 r.b, AV.int .i64 r.c, AV.int .i64 r.d, AV.int .i64 r.e, AV.int .i64 r.f], [])
noncomputable def spec_Still_x : List AV → List Ob → Option (AV × List Ob) := xOf spec_Still_e (fun q => spec_Still) spec_Still_v
theorem spec_Still_i : ∀ a b, spec_Still_e a = spec_Still_e b → a = b := by intros; rfl
@[simp] theorem spec_Still_k  : spec_Still_x [] [] = mapR (spec_Still) (fun r => (AV.agg [AV.int .i64 r.a, AV.int .i64 r.b, AV.int .i64 r.c, AV.int .i64 r.d, AV.int .i64 r.e, AV.int .i64 r.f], [])) :=
  xOf_eq spec_Still_i ()
/-! spec_l01PickInt: function 171 -/
noncomputable def spec_l01PickInt (a0 : TL01Cur) (a1 : List Int) : Option ((Int) × (TL01Cur)) :=
  bnd (spec_l01Below (List.length a1 : Int) a0) fun (w2, w3) =>
  bnd (idx a1 w2) fun v4 =>
  some (v4, w3)
noncomputable def spec_l01PickInt_e (q : (TL01Cur) × (List Int)) : List AV × List Ob := ([AV.optr 0 0 3, AV.osl 1 0 (List.length q.2) (List.length q.2)], [Ob.box [AV.fsl (List.map (AV.int .u8) q.1.b), AV.int .i64 q.1.i, AV.int .i64 q.1.h], Ob.arr 1 (List.map (AV.int .i64) q.2) false])
noncomputable def spec_l01PickInt_v (q : (TL01Cur) × (List Int)) (r : (Int) × (TL01Cur)) : AV × List Ob := (AV.int .i64 r.1, [Ob.box [AV.fsl (List.map (AV.int .u8) r.2.b), AV.int .i64 r.2.i, AV.int .i64 r.2.h], Ob.arr 1 (List.map (AV.int .i64) q.2) false])
noncomputable def spec_l01PickInt_x : List AV → List Ob → Option (AV × List Ob) := xOf spec_l01PickInt_e (fun q => spec_l01PickInt q.1 q.2) spec_l01PickInt_v
theorem spec_l01PickInt_i : ∀ a b, spec_l01PickInt_e a = spec_l01PickInt_e b → a = b := by rintro ⟨⟨x0, x1, x2⟩, x3⟩ ⟨⟨y0, y1, y2⟩, y3⟩ h; simp [spec_l01PickInt_e] at h; simp [h]
@[simp] theorem spec_l01PickInt_k (z0 : List Int) (z1 : Int) (z2 : Int) (z3 : List Int) : spec_l01PickInt_x [AV.optr 0 0 3, AV.osl 1 0 (List.length z3) (List.length z3)] [Ob.box [AV.fsl (List.map (AV.int .u8) z0), AV.int .i64 z1, AV.int .i64 z2], Ob.arr 1 (List.map (AV.int .i64) z3) false] = mapR (spec_l01PickInt ⟨z0, z1, z2⟩ z3) (fun r => (AV.int .i64 r.1, [Ob.box [AV.fsl (List.map (AV.int .u8) r.2.b), AV.int .i64 r.2.i, AV.int .i64 r.2.h], Ob.arr 1 (List.map (AV.int .i64) z3) false])) :=
  xOf_eq spec_l01PickInt_i (⟨z0, z1, z2⟩, z3)
/-! spec_l01Once: function 170 -/
noncomputable def spec_l01Once (a0 : Int) (a1 : TL01Cur) : Option ((Bool) × (TL01Cur)) :=
  bnd (spec_l01Below a0 a1) fun (w2, w3) =>
  some ((ieq w2 0), w3)
noncomputable def spec_l01Once_e (q : (Int) × (TL01Cur)) : List AV × List Ob := ([AV.optr 0 0 3, AV.int .i64 q.1], [Ob.box [AV.fsl (List.map (AV.int .u8) q.2.b), AV.int .i64 q.2.i, AV.int .i64 q.2.h]])
noncomputable def spec_l01Once_v (q : (Int) × (TL01Cur)) (r : (Bool) × (TL01Cur)) : AV × List Ob := (AV.bool r.1, [Ob.box [AV.fsl (List.map (AV.int .u8) r.2.b), AV.int .i64 r.2.i, AV.int .i64 r.2.h]])
noncomputable def spec_l01Once_x : List AV → List Ob → Option (AV × List Ob) := xOf spec_l01Once_e (fun q => spec_l01Once q.1 q.2) spec_l01Once_v
theorem spec_l01Once_i : ∀ a b, spec_l01Once_e a = spec_l01Once_e b → a = b := by rintro ⟨x0, ⟨x1, x2, x3⟩⟩ ⟨y0, ⟨y1, y2, y3⟩⟩ h; simp [spec_l01Once_e] at h; simp [h]
@[simp] theorem spec_l01Once_k (z0 : Int) (z1 : List Int) (z2 : Int) (z3 : Int) : spec_l01Once_x [AV.optr 0 0 3, AV.int .i64 z0] [Ob.box [AV.fsl (List.map (AV.int .u8) z1), AV.int .i64 z2, AV.int .i64 z3]] = mapR (spec_l01Once z0 ⟨z1, z2, z3⟩) (fun r => (AV.bool r.1, [Ob.box [AV.fsl (List.map (AV.int .u8) r.2.b), AV.int .i64 r.2.i, AV.int .i64 r.2.h]])) :=
  xOf_eq spec_l01Once_i (z0, ⟨z1, z2, z3⟩)
/-! spec_Shift: function 215 -/
noncomputable def spec_Shift (a0 : Int) (a1 : Int) : Option ((TMat)) :=
  some (TMat.mk 65536 0 0 65536 a0 a1)
noncomputable def spec_Shift_e (q : (Int) × (Int)) : List AV × List Ob := ([AV.int .i64 q.1, AV.int .i64 q.2], [])
noncomputable def spec_Shift_v (q : (Int) × (Int)) (r : (TMat)) : AV × List Ob := (AV.agg [AV.int .i64 r.a, AV.int .i64 r.b, AV.int .i64 r.c, AV.int .i64 r.d, AV.int .i64 r.e, AV.int .i64 r.f], [])
noncomputable def spec_Shift_x : List AV → List Ob → Option (AV × List Ob) := xOf spec_Shift_e (fun q => spec_Shift q.1 q.2) spec_Shift_v
theorem spec_Shift_i : ∀ a b, spec_Shift_e a = spec_Shift_e b → a = b := by rintro ⟨x0, x1⟩ ⟨y0, y1⟩ h; simp [spec_Shift_e] at h; simp [h]
@[simp] theorem spec_Shift_k (z0 : Int) (z1 : Int) : spec_Shift_x [AV.int .i64 z0, AV.int .i64 z1] [] = mapR (spec_Shift z0 z1) (fun r => (AV.agg [AV.int .i64 r.a, AV.int .i64 r.b, AV.int .i64 r.c, AV.int .i64 r.d, AV.int .i64 r.e, AV.int .i64 r.f], [])) :=
  xOf_eq spec_Shift_i (z0, z1)
/-! spec_l04Mat: function 173 -/
noncomputable def spec_l04Mat (a0 : TL01Cur) : Option ((TMat) × (TL01Cur)) :=
  bnd (spec_l01Below 1200 a0) fun (w2, w3) =>
  bnd (spec_l01Below 1200 w3) fun (w5, w6) =>
  bnd (spec_Shift (IntKind.i64.wrap (w2 - 400)) (IntKind.i64.wrap (w5 - 400))) fun v7 =>
  bnd (spec_l01Below 6 w6) fun (w9, w10) =>
  cnd (ieq w9 0) (
   bnd (spec_l01Below 65536 w10) fun (w12, w13) =>
   bnd (spec_l01Below 65536 w13) fun (w15, w16) =>
   some ((TMat.mk (IntKind.i64.wrap (32768 + w12)) v7.b v7.c (IntKind.i64.wrap (32768 + w15)) v7.e v7.f), w16)) (
   cnd (ieq w9 1) (
    some ((TMat.mk 0 65536 (-65536) 0 v7.e v7.f), w10)) (
    cnd (ieq w9 2) (
     bnd (spec_l01Below 65536 w10) fun (w18, w19) =>
     some ((TMat.mk v7.a v7.b (IntKind.i64.wrap (w18 - 32768)) v7.d v7.e v7.f), w19)) (
     some (v7, w10))))
noncomputable def spec_l04Mat_e (q : (TL01Cur)) : List AV × List Ob := ([AV.optr 0 0 3], [Ob.box [AV.fsl (List.map (AV.int .u8) q.b), AV.int .i64 q.i, AV.int .i64 q.h]])
noncomputable def spec_l04Mat_v (q : (TL01Cur)) (r : (TMat) × (TL01Cur)) : AV × List Ob := (AV.agg [AV.int .i64 r.1.a, AV.int .i64 r.1.b, AV.int .i64 r.1.c, AV.int .i64 r.1.d, AV.int .i64 r.1.e, AV.int .i64 r.1.f], [Ob.box [AV.fsl (List.map (AV.int .u8) r.2.b), AV.int .i64 r.2.i, AV.int .i64 r.2.h]])
noncomputable def spec_l04Mat_x : List AV → List Ob → Option (AV × List Ob) := xOf spec_l04Mat_e (fun q => spec_l04Mat q) spec_l04Mat_v
theorem spec_l04Mat_i : ∀ a b, spec_l04Mat_e a = spec_l04Mat_e b → a = b := by rintro ⟨x0, x1, x2⟩ ⟨y0, y1, y2⟩ h; simp [spec_l04Mat_e] at h; simp [h]
@[simp] theorem spec_l04Mat_k (z0 : List Int) (z1 : Int) (z2 : Int) : spec_l04Mat_x [AV.optr 0 0 3] [Ob.box [AV.fsl (List.map (AV.int .u8) z0), AV.int .i64 z1, AV.int .i64 z2]] = mapR (spec_l04Mat ⟨z0, z1, z2⟩) (fun r => (AV.agg [AV.int .i64 r.1.a, AV.int .i64 r.1.b, AV.int .i64 r.1.c, AV.int .i64 r.1.d, AV.int .i64 r.1.e, AV.int .i64 r.1.f], [Ob.box [AV.fsl (List.map (AV.int .u8) r.2.b), AV.int .i64 r.2.i, AV.int .i64 r.2.h]])) :=
  xOf_eq spec_l04Mat_i ⟨z0, z1, z2⟩
/-! spec_Empty: function 205 -/
noncomputable def spec_Empty (a0 : TBox) : Option ((Bool)) :=
  cnd (ile a0.x1 a0.x0) (
   some true) (
   some (ile a0.y1 a0.y0))
noncomputable def spec_Empty_e (q : (TBox)) : List AV × List Ob := ([AV.agg [AV.int .i64 q.x0, AV.int .i64 q.y0, AV.int .i64 q.x1, AV.int .i64 q.y1]], [])
noncomputable def spec_Empty_v (q : (TBox)) (r : (Bool)) : AV × List Ob := (AV.bool r, [])
noncomputable def spec_Empty_x : List AV → List Ob → Option (AV × List Ob) := xOf spec_Empty_e (fun q => spec_Empty q) spec_Empty_v
theorem spec_Empty_i : ∀ a b, spec_Empty_e a = spec_Empty_e b → a = b := by rintro ⟨x0, x1, x2, x3⟩ ⟨y0, y1, y2, y3⟩ h; simp [spec_Empty_e] at h; simp [h]
@[simp] theorem spec_Empty_k (z0 : Int) (z1 : Int) (z2 : Int) (z3 : Int) : spec_Empty_x [AV.agg [AV.int .i64 z0, AV.int .i64 z1, AV.int .i64 z2, AV.int .i64 z3]] [] = mapR (spec_Empty ⟨z0, z1, z2, z3⟩) (fun r => (AV.bool r, [])) :=
  xOf_eq spec_Empty_i ⟨z0, z1, z2, z3⟩
/-! spec_l01In: function 91 -/
noncomputable def spec_l01In (a0 : Int) (a1 : Int) (a2 : Int) : Option ((Bool)) :=
  cnd (ile a1 a0) (
   some (ile a0 a2)) (
   some false)
noncomputable def spec_l01In_e (q : (Int) × (Int) × (Int)) : List AV × List Ob := ([AV.int .i64 q.1, AV.int .i64 q.2.1, AV.int .i64 q.2.2], [])
noncomputable def spec_l01In_v (q : (Int) × (Int) × (Int)) (r : (Bool)) : AV × List Ob := (AV.bool r, [])
noncomputable def spec_l01In_x : List AV → List Ob → Option (AV × List Ob) := xOf spec_l01In_e (fun q => spec_l01In q.1 q.2.1 q.2.2) spec_l01In_v
theorem spec_l01In_i : ∀ a b, spec_l01In_e a = spec_l01In_e b → a = b := by rintro ⟨x0, x1, x2⟩ ⟨y0, y1, y2⟩ h; simp [spec_l01In_e] at h; simp [h]
@[simp] theorem spec_l01In_k (z0 : Int) (z1 : Int) (z2 : Int) : spec_l01In_x [AV.int .i64 z0, AV.int .i64 z1, AV.int .i64 z2] [] = mapR (spec_l01In z0 z1 z2) (fun r => (AV.bool r, [])) :=
  xOf_eq spec_l01In_i (z0, z1, z2)
/-! spec_PointOk: function 222 -/
noncomputable def spec_PointOk (a0 : TPoint) : Option ((Bool)) :=
  bnd (spec_l01In a0.x (-8388608) 8388608) fun v1 =>
  cnd v1 (
   bnd (spec_l01In a0.y (-8388608) 8388608) fun v2 =>
   some v2) (
   some false)
noncomputable def spec_PointOk_e (q : (TPoint)) : List AV × List Ob := ([AV.agg [AV.int .i64 q.x, AV.int .i64 q.y]], [])
noncomputable def spec_PointOk_v (q : (TPoint)) (r : (Bool)) : AV × List Ob := (AV.bool r, [])
noncomputable def spec_PointOk_x : List AV → List Ob → Option (AV × List Ob) := xOf spec_PointOk_e (fun q => spec_PointOk q) spec_PointOk_v
theorem spec_PointOk_i : ∀ a b, spec_PointOk_e a = spec_PointOk_e b → a = b := by rintro ⟨x0, x1⟩ ⟨y0, y1⟩ h; simp [spec_PointOk_e] at h; simp [h]
@[simp] theorem spec_PointOk_k (z0 : Int) (z1 : Int) : spec_PointOk_x [AV.agg [AV.int .i64 z0, AV.int .i64 z1]] [] = mapR (spec_PointOk ⟨z0, z1⟩) (fun r => (AV.bool r, [])) :=
  xOf_eq spec_PointOk_i ⟨z0, z1⟩
/-! spec_RectPath: function 213 -/
noncomputable def spec_RectPath (a0 : TBox) : Option ((TPath)) :=
  bnd (spec_Empty a0) fun v1 =>
  cnd v1 (
   some (TPath.mk [] [])) (
   bnd (spec_PointOk (TPoint.mk ((TPoint.mk a0.x0 a0.y0).x) ((TPoint.mk a0.x0 a0.y0).y))) fun v2 =>
   cnd v2 (
    bnd (spec_PointOk (TPoint.mk ((TPoint.mk a0.x1 a0.y1).x) ((TPoint.mk a0.x1 a0.y1).y))) fun v3 =>
    cnd v3 (
     some (TPath.mk [1, 2, 2, 2, 5] [(TPoint.mk a0.x0 a0.y0), (TPoint.mk a0.x1 a0.y0), (TPoint.mk a0.x1 a0.y1), (TPoint.mk a0.x0 a0.y1)])) (
     some (TPath.mk [] []))) (
    some (TPath.mk [] [])))
noncomputable def spec_RectPath_e (q : (TBox)) : List AV × List Ob := ([AV.agg [AV.int .i64 q.x0, AV.int .i64 q.y0, AV.int .i64 q.x1, AV.int .i64 q.y1]], [])
noncomputable def spec_RectPath_v (q : (TBox)) (r : (TPath)) : AV × List Ob := (AV.agg [AV.fsl (List.map (AV.int .i64) r.verbs), AV.fsl (List.map ePoint r.points)], [])
noncomputable def spec_RectPath_x : List AV → List Ob → Option (AV × List Ob) := xOf spec_RectPath_e (fun q => spec_RectPath q) spec_RectPath_v
theorem spec_RectPath_i : ∀ a b, spec_RectPath_e a = spec_RectPath_e b → a = b := by rintro ⟨x0, x1, x2, x3⟩ ⟨y0, y1, y2, y3⟩ h; simp [spec_RectPath_e] at h; simp [h]
@[simp] theorem spec_RectPath_k (z0 : Int) (z1 : Int) (z2 : Int) (z3 : Int) : spec_RectPath_x [AV.agg [AV.int .i64 z0, AV.int .i64 z1, AV.int .i64 z2, AV.int .i64 z3]] [] = mapR (spec_RectPath ⟨z0, z1, z2, z3⟩) (fun r => (AV.agg [AV.fsl (List.map (AV.int .i64) r.verbs), AV.fsl (List.map ePoint r.points)], [])) :=
  xOf_eq spec_RectPath_i ⟨z0, z1, z2, z3⟩
/-! spec_NeedOf: function 212 -/
noncomputable def spec_NeedOf (a0 : Int) : Option ((Int)) :=
  bnd (spec_l01In a0 1 5) fun v1 =>
  cnd v1 (
   bnd (idx [1, 1, 2, 3, 0] (IntKind.i64.wrap (a0 - 1))) fun v2 =>
   some v2) (
   some (-1))
noncomputable def spec_NeedOf_e (q : (Int)) : List AV × List Ob := ([AV.int .i64 q], [])
noncomputable def spec_NeedOf_v (q : (Int)) (r : (Int)) : AV × List Ob := (AV.int .i64 r, [])
noncomputable def spec_NeedOf_x : List AV → List Ob → Option (AV × List Ob) := xOf spec_NeedOf_e (fun q => spec_NeedOf q) spec_NeedOf_v
theorem spec_NeedOf_i : ∀ a b, spec_NeedOf_e a = spec_NeedOf_e b → a = b := by rintro x0 y0 h; simp [spec_NeedOf_e] at h; simp [h]
@[simp] theorem spec_NeedOf_k (z0 : Int) : spec_NeedOf_x [AV.int .i64 z0] [] = mapR (spec_NeedOf z0) (fun r => (AV.int .i64 r, [])) :=
  xOf_eq spec_NeedOf_i z0
/-! spec_l04Point: function 214 -/
noncomputable def spec_l04Point (a0 : TL01Cur) : Option ((TPoint) × (TL01Cur)) :=
  bnd (spec_l01Below 3600 a0) fun (w2, w3) =>
  bnd (spec_l01Below 3600 w3) fun (w5, w6) =>
  some ((TPoint.mk (IntKind.i64.wrap (w2 - 300)) (IntKind.i64.wrap (w5 - 300))), w6)
noncomputable def spec_l04Point_e (q : (TL01Cur)) : List AV × List Ob := ([AV.optr 0 0 3], [Ob.box [AV.fsl (List.map (AV.int .u8) q.b), AV.int .i64 q.i, AV.int .i64 q.h]])
noncomputable def spec_l04Point_v (q : (TL01Cur)) (r : (TPoint) × (TL01Cur)) : AV × List Ob := (AV.agg [AV.int .i64 r.1.x, AV.int .i64 r.1.y], [Ob.box [AV.fsl (List.map (AV.int .u8) r.2.b), AV.int .i64 r.2.i, AV.int .i64 r.2.h]])
noncomputable def spec_l04Point_x : List AV → List Ob → Option (AV × List Ob) := xOf spec_l04Point_e (fun q => spec_l04Point q) spec_l04Point_v
theorem spec_l04Point_i : ∀ a b, spec_l04Point_e a = spec_l04Point_e b → a = b := by rintro ⟨x0, x1, x2⟩ ⟨y0, y1, y2⟩ h; simp [spec_l04Point_e] at h; simp [h]
@[simp] theorem spec_l04Point_k (z0 : List Int) (z1 : Int) (z2 : Int) : spec_l04Point_x [AV.optr 0 0 3] [Ob.box [AV.fsl (List.map (AV.int .u8) z0), AV.int .i64 z1, AV.int .i64 z2]] = mapR (spec_l04Point ⟨z0, z1, z2⟩) (fun r => (AV.agg [AV.int .i64 r.1.x, AV.int .i64 r.1.y], [Ob.box [AV.fsl (List.map (AV.int .u8) r.2.b), AV.int .i64 r.2.i, AV.int .i64 r.2.h]])) :=
  xOf_eq spec_l04Point_i ⟨z0, z1, z2⟩
/-! spec_l06Path: function 169 -/
noncomputable def spec_l06Path_l0 (l55 : List Int) (x42 : Int) : ((Int) × (List Int) × (Int) × (Int) × (List TPoint)) → Option (((Int) × (List Int) × (Int) × (Int) × (List TPoint)) ⊕ ((List Int) × (Int) × (Int) × (List TPoint))) := fun (x61, x62, x63, x64, x65) =>
  bnd (spec_NeedOf 1) fun v66 =>
  cnd (ile v66 x61) (
   some (.inr (x62, x63, x64, x65))) (
   bnd (spec_l04Point (TL01Cur.mk x62 x63 x64)) fun (w68, w69) =>
   chkP ((List.length x65 + 1) * 16 ≤ 17592186044416) (
   nam ((x65 ++ [w68]) : List TPoint) fun l70 =>
   some (.inl ((IntKind.i64.wrap (x61 + 1)), w69.b, w69.i, w69.h, l70))))
noncomputable def spec_l06Path_l0_S (l55 : List Int) (x42 : Int) : ((Int) × (List Int) × (Int) × (Int) × (List TPoint)) → St := fun (x61, x62, x63, x64, x65) => ⟨[(0, AV.optr 0 0 3), (2, AV.optr 1 0 2), (5, AV.optr 2 0 2), (6, AV.int .i64 x42), (7, AV.int .i64 1), (8, AV.int .i64 x61)], [(0, Ob.box [AV.fsl (List.map (AV.int .u8) x62), AV.int .i64 x63, AV.int .i64 x64]), (1, Ob.box [AV.nilsl, AV.nilsl]), (2, Ob.box [AV.osl 3 0 (List.length l55) (List.length l55), AV.osl 4 0 (List.length x65) (List.length x65)]), (3, Ob.arr 1 (List.map (AV.int .i64) l55) false), (4, Ob.arr 2 (List.map ePoint x65) false)], 5⟩
noncomputable def spec_l06Path_l0_X (l55 : List Int) (x42 : Int) : ((List Int) × (Int) × (Int) × (List TPoint)) → Ex × St := fun (y71, y72, y73, y74) => ((.exit 2), ⟨[(0, AV.optr 0 0 3), (2, AV.optr 1 0 2), (5, AV.optr 2 0 2), (6, AV.int .i64 x42)], [(0, Ob.box [AV.fsl (List.map (AV.int .u8) y71), AV.int .i64 y72, AV.int .i64 y73]), (1, Ob.box [AV.nilsl, AV.nilsl]), (2, Ob.box [AV.osl 3 0 (List.length l55) (List.length l55), AV.osl 4 0 (List.length y74) (List.length y74)]), (3, Ob.arr 1 (List.map (AV.int .i64) l55) false), (4, Ob.arr 2 (List.map ePoint y74) false)], 5⟩)
noncomputable def spec_l06Path_l1 (l77 : List Int) (x42 : Int) : ((Int) × (List Int) × (Int) × (Int) × (List TPoint)) → Option (((Int) × (List Int) × (Int) × (Int) × (List TPoint)) ⊕ ((List Int) × (Int) × (Int) × (List TPoint))) := fun (x83, x84, x85, x86, x87) =>
  bnd (spec_NeedOf 1) fun v88 =>
  cnd (ile v88 x83) (
   some (.inr (x84, x85, x86, x87))) (
   bnd (spec_l04Point (TL01Cur.mk x84 x85 x86)) fun (w90, w91) =>
   chkP ((List.length x87 + 1) * 16 ≤ 17592186044416) (
   nam ((x87 ++ [w90]) : List TPoint) fun l92 =>
   some (.inl ((IntKind.i64.wrap (x83 + 1)), w91.b, w91.i, w91.h, l92))))
noncomputable def spec_l06Path_l1_S (l77 : List Int) (x42 : Int) : ((Int) × (List Int) × (Int) × (Int) × (List TPoint)) → St := fun (x83, x84, x85, x86, x87) => ⟨[(0, AV.optr 0 0 3), (2, AV.optr 1 0 2), (5, AV.optr 2 0 2), (6, AV.int .i64 x42), (7, AV.int .i64 1), (8, AV.int .i64 x83)], [(0, Ob.box [AV.fsl (List.map (AV.int .u8) x84), AV.int .i64 x85, AV.int .i64 x86]), (1, Ob.box [AV.nilsl, AV.nilsl]), (2, Ob.box [AV.osl 3 0 (List.length l77) (List.length l77), AV.osl 4 0 (List.length x87) (List.length x87)]), (3, Ob.arr 1 (List.map (AV.int .i64) l77) false), (4, Ob.arr 2 (List.map ePoint x87) false)], 5⟩
noncomputable def spec_l06Path_l1_X (l77 : List Int) (x42 : Int) : ((List Int) × (Int) × (Int) × (List TPoint)) → Ex × St := fun (y93, y94, y95, y96) => ((.exit 2), ⟨[(0, AV.optr 0 0 3), (2, AV.optr 1 0 2), (5, AV.optr 2 0 2), (6, AV.int .i64 x42)], [(0, Ob.box [AV.fsl (List.map (AV.int .u8) y93), AV.int .i64 y94, AV.int .i64 y95]), (1, Ob.box [AV.nilsl, AV.nilsl]), (2, Ob.box [AV.osl 3 0 (List.length l77) (List.length l77), AV.osl 4 0 (List.length y96) (List.length y96)]), (3, Ob.arr 1 (List.map (AV.int .i64) l77) false), (4, Ob.arr 2 (List.map ePoint y96) false)], 5⟩)
noncomputable def spec_l06Path_l2 (l98 : List Int) (w52 : Int) (x42 : Int) : ((Int) × (List Int) × (Int) × (Int) × (List TPoint)) → Option (((Int) × (List Int) × (Int) × (Int) × (List TPoint)) ⊕ ((List Int) × (Int) × (Int) × (List TPoint))) := fun (x104, x105, x106, x107, x108) =>
  bnd (spec_NeedOf w52) fun v109 =>
  cnd (ile v109 x104) (
   some (.inr (x105, x106, x107, x108))) (
   bnd (spec_l04Point (TL01Cur.mk x105 x106 x107)) fun (w111, w112) =>
   chkP ((List.length x108 + 1) * 16 ≤ 17592186044416) (
   nam ((x108 ++ [w111]) : List TPoint) fun l113 =>
   some (.inl ((IntKind.i64.wrap (x104 + 1)), w112.b, w112.i, w112.h, l113))))
noncomputable def spec_l06Path_l2_S (l98 : List Int) (w52 : Int) (x42 : Int) : ((Int) × (List Int) × (Int) × (Int) × (List TPoint)) → St := fun (x104, x105, x106, x107, x108) => ⟨[(0, AV.optr 0 0 3), (2, AV.optr 1 0 2), (5, AV.optr 2 0 2), (6, AV.int .i64 x42), (7, AV.int .i64 w52), (8, AV.int .i64 x104)], [(0, Ob.box [AV.fsl (List.map (AV.int .u8) x105), AV.int .i64 x106, AV.int .i64 x107]), (1, Ob.box [AV.nilsl, AV.nilsl]), (2, Ob.box [AV.osl 3 0 (List.length l98) (List.length l98), AV.osl 4 0 (List.length x108) (List.length x108)]), (3, Ob.arr 1 (List.map (AV.int .i64) l98) false), (4, Ob.arr 2 (List.map ePoint x108) false)], 5⟩
noncomputable def spec_l06Path_l2_X (l98 : List Int) (w52 : Int) (x42 : Int) : ((List Int) × (Int) × (Int) × (List TPoint)) → Ex × St := fun (y114, y115, y116, y117) => ((.exit 2), ⟨[(0, AV.optr 0 0 3), (2, AV.optr 1 0 2), (5, AV.optr 2 0 2), (6, AV.int .i64 x42)], [(0, Ob.box [AV.fsl (List.map (AV.int .u8) y114), AV.int .i64 y115, AV.int .i64 y116]), (1, Ob.box [AV.nilsl, AV.nilsl]), (2, Ob.box [AV.osl 3 0 (List.length l98) (List.length l98), AV.osl 4 0 (List.length y117) (List.length y117)]), (3, Ob.arr 1 (List.map (AV.int .i64) l98) false), (4, Ob.arr 2 (List.map ePoint y117) false)], 5⟩)
noncomputable def spec_l06Path_l3  : ((Int) × (List Int) × (Int) × (Int) × (List Int) × (List TPoint)) → Option (((Int) × (List Int) × (Int) × (Int) × (List Int) × (List TPoint)) ⊕ (((List Int) × (Int) × (Int) × (List Int) × (List TPoint)) ⊕ ((List Int) × (Int) × (Int) × (List Int) × (List TPoint)))) := fun (x42, x43, x44, x45, x46, x47) =>
  bnd (spec_l01Below 6 (TL01Cur.mk x43 x44 x45)) fun (w49, w50) =>
  cnd (ile (IntKind.i64.wrap (1 + w49)) x42) (
   some (.inr (.inl (w50.b, w50.i, w50.h, x46, x47)))) (
   bnd (spec_l01PickInt w50 [2, 2, 2, 3, 4, 5, 1]) fun (w52, w53) =>
   cnd (ieq x42 0) (
    bnd (spec_NeedOf 1) fun v54 =>
    cnd (ile (IntKind.i64.wrap ((List.length x47 : Int) + v54)) 24) (
     chkP ((List.length x46 + 1) * 8 ≤ 17592186044416) (
     nam ((x46 ++ [1]) : List Int) fun l55 =>
     bnd (loopI (spec_l06Path_l0 l55 x42) (0, w53.b, w53.i, w53.h, x47)) fun (y71, y72, y73, y74) =>
     some (.inl ((IntKind.i64.wrap (x42 + 1)), y71, y72, y73, l55, y74)))) (
     some (.inr (.inr (w53.b, w53.i, w53.h, x46, x47))))) (
    bnd (idx x46 (IntKind.i64.wrap (x42 - 1))) fun v75 =>
    cnd (ieq v75 5) (
     bnd (spec_NeedOf 1) fun v76 =>
     cnd (ile (IntKind.i64.wrap ((List.length x47 : Int) + v76)) 24) (
      chkP ((List.length x46 + 1) * 8 ≤ 17592186044416) (
      nam ((x46 ++ [1]) : List Int) fun l77 =>
      bnd (loopI (spec_l06Path_l1 l77 x42) (0, w53.b, w53.i, w53.h, x47)) fun (y93, y94, y95, y96) =>
      some (.inl ((IntKind.i64.wrap (x42 + 1)), y93, y94, y95, l77, y96)))) (
      some (.inr (.inr (w53.b, w53.i, w53.h, x46, x47))))) (
     bnd (spec_NeedOf w52) fun v97 =>
     cnd (ile (IntKind.i64.wrap ((List.length x47 : Int) + v97)) 24) (
      chkP ((List.length x46 + 1) * 8 ≤ 17592186044416) (
      nam ((x46 ++ [w52]) : List Int) fun l98 =>
      bnd (loopI (spec_l06Path_l2 l98 w52 x42) (0, w53.b, w53.i, w53.h, x47)) fun (y114, y115, y116, y117) =>
      some (.inl ((IntKind.i64.wrap (x42 + 1)), y114, y115, y116, l98, y117)))) (
      some (.inr (.inr (w53.b, w53.i, w53.h, x46, x47)))))))
noncomputable def spec_l06Path_l3_S  : ((Int) × (List Int) × (Int) × (Int) × (List Int) × (List TPoint)) → St := fun (x42, x43, x44, x45, x46, x47) => ⟨[(0, AV.optr 0 0 3), (2, AV.optr 1 0 2), (5, AV.optr 2 0 2), (6, AV.int .i64 x42)], [(0, Ob.box [AV.fsl (List.map (AV.int .u8) x43), AV.int .i64 x44, AV.int .i64 x45]), (1, Ob.box [AV.nilsl, AV.nilsl]), (2, Ob.box [AV.osl 3 0 (List.length x46) (List.length x46), AV.osl 4 0 (List.length x47) (List.length x47)]), (3, Ob.arr 1 (List.map (AV.int .i64) x46) false), (4, Ob.arr 2 (List.map ePoint x47) false)], 5⟩
noncomputable def spec_l06Path_l3_X  : (((List Int) × (Int) × (Int) × (List Int) × (List TPoint)) ⊕ ((List Int) × (Int) × (Int) × (List Int) × (List TPoint))) → Ex × St := fun q => match q with
  | .inl (y118, y119, y120, y121, y122) => ((.exit 0), ⟨[(2, AV.optr 1 0 2), (5, AV.optr 2 0 2)], [(0, Ob.box [AV.fsl (List.map (AV.int .u8) y118), AV.int .i64 y119, AV.int .i64 y120]), (1, Ob.box [AV.nilsl, AV.nilsl]), (2, Ob.box [AV.osl 3 0 (List.length y121) (List.length y121), AV.osl 4 0 (List.length y122) (List.length y122)]), (3, Ob.arr 1 (List.map (AV.int .i64) y121) false), (4, Ob.arr 2 (List.map ePoint y122) false)], 5⟩)
  | .inr (y123, y124, y125, y126, y127) => (.ret, ⟨[(2, AV.optr 1 0 2)], [(0, Ob.box [AV.fsl (List.map (AV.int .u8) y123), AV.int .i64 y124, AV.int .i64 y125]), (1, Ob.box [AV.osl 2 0 (List.length y126) (List.length y126), AV.osl 3 0 (List.length y127) (List.length y127)]), (2, Ob.arr 1 (List.map (AV.int .i64) y126) false), (3, Ob.arr 2 (List.map ePoint y127) false)], 4⟩)
noncomputable def spec_l06Path (a0 : TL01Cur) : Option ((TPath) × (TL01Cur)) :=
  bnd (spec_l01Once 2 a0) fun (w2, w3) =>
  cnd w2 (
   bnd (spec_l01Below 2400 w3) fun (w5, w6) =>
   bnd (spec_l01Below 2400 w6) fun (w8, w9) =>
   bnd (spec_l01Below 1500 w9) fun (w11, w12) =>
   bnd (spec_l01Below 1500 w12) fun (w14, w15) =>
   bnd (spec_RectPath (TBox.mk w5 w8 (IntKind.i64.wrap ((IntKind.i64.wrap (w5 + 1)) + w11)) (IntKind.i64.wrap ((IntKind.i64.wrap (w8 + 1)) + w14)))) fun v16 =>
   some (v16, w15)) (
   bnd (loopI spec_l06Path_l3 (0, w3.b, w3.i, w3.h, [], [])) fun q => match q with
   | .inl (y118, y119, y120, y121, y122) =>
    some ((TPath.mk y121 y122), (TL01Cur.mk y118 y119 y120))
   | .inr (y123, y124, y125, y126, y127) =>
    some ((TPath.mk y126 y127), (TL01Cur.mk y123 y124 y125)))
noncomputable def spec_l06Path_e (q : (TL01Cur)) : List AV × List Ob := ([AV.optr 0 0 3], [Ob.box [AV.fsl (List.map (AV.int .u8) q.b), AV.int .i64 q.i, AV.int .i64 q.h]])
noncomputable def spec_l06Path_v (q : (TL01Cur)) (r : (TPath) × (TL01Cur)) : AV × List Ob := (AV.agg [AV.fsl (List.map (AV.int .i64) r.1.verbs), AV.fsl (List.map ePoint r.1.points)], [Ob.box [AV.fsl (List.map (AV.int .u8) r.2.b), AV.int .i64 r.2.i, AV.int .i64 r.2.h]])
noncomputable def spec_l06Path_x : List AV → List Ob → Option (AV × List Ob) := xOf spec_l06Path_e (fun q => spec_l06Path q) spec_l06Path_v
theorem spec_l06Path_i : ∀ a b, spec_l06Path_e a = spec_l06Path_e b → a = b := by rintro ⟨x0, x1, x2⟩ ⟨y0, y1, y2⟩ h; simp [spec_l06Path_e] at h; simp [h]
@[simp] theorem spec_l06Path_k (z0 : List Int) (z1 : Int) (z2 : Int) : spec_l06Path_x [AV.optr 0 0 3] [Ob.box [AV.fsl (List.map (AV.int .u8) z0), AV.int .i64 z1, AV.int .i64 z2]] = mapR (spec_l06Path ⟨z0, z1, z2⟩) (fun r => (AV.agg [AV.fsl (List.map (AV.int .i64) r.1.verbs), AV.fsl (List.map ePoint r.1.points)], [Ob.box [AV.fsl (List.map (AV.int .u8) r.2.b), AV.int .i64 r.2.i, AV.int .i64 r.2.h]])) :=
  xOf_eq spec_l06Path_i ⟨z0, z1, z2⟩
/-! spec_l12Color: function 216 -/
noncomputable def spec_l12Color (a0 : TL01Cur) : Option ((TColor) × (TL01Cur)) :=
  bnd (spec_l01Below 256 a0) fun (w2, w3) =>
  bnd (spec_l01Below 256 w3) fun (w5, w6) =>
  bnd (spec_l01Below 256 w6) fun (w8, w9) =>
  bnd (spec_l01PickInt w9 [255, 255, 128, 0, 1, 200]) fun (w11, w12) =>
  some ((TColor.mk w2 w5 w8 w11), w12)
noncomputable def spec_l12Color_e (q : (TL01Cur)) : List AV × List Ob := ([AV.optr 0 0 3], [Ob.box [AV.fsl (List.map (AV.int .u8) q.b), AV.int .i64 q.i, AV.int .i64 q.h]])
noncomputable def spec_l12Color_v (q : (TL01Cur)) (r : (TColor) × (TL01Cur)) : AV × List Ob := (AV.agg [AV.int .i64 r.1.r, AV.int .i64 r.1.g, AV.int .i64 r.1.b, AV.int .i64 r.1.a], [Ob.box [AV.fsl (List.map (AV.int .u8) r.2.b), AV.int .i64 r.2.i, AV.int .i64 r.2.h]])
noncomputable def spec_l12Color_x : List AV → List Ob → Option (AV × List Ob) := xOf spec_l12Color_e (fun q => spec_l12Color q) spec_l12Color_v
theorem spec_l12Color_i : ∀ a b, spec_l12Color_e a = spec_l12Color_e b → a = b := by rintro ⟨x0, x1, x2⟩ ⟨y0, y1, y2⟩ h; simp [spec_l12Color_e] at h; simp [h]
@[simp] theorem spec_l12Color_k (z0 : List Int) (z1 : Int) (z2 : Int) : spec_l12Color_x [AV.optr 0 0 3] [Ob.box [AV.fsl (List.map (AV.int .u8) z0), AV.int .i64 z1, AV.int .i64 z2]] = mapR (spec_l12Color ⟨z0, z1, z2⟩) (fun r => (AV.agg [AV.int .i64 r.1.r, AV.int .i64 r.1.g, AV.int .i64 r.1.b, AV.int .i64 r.1.a], [Ob.box [AV.fsl (List.map (AV.int .u8) r.2.b), AV.int .i64 r.2.i, AV.int .i64 r.2.h]])) :=
  xOf_eq spec_l12Color_i ⟨z0, z1, z2⟩
/-! spec_l12Paint: function 174 -/
noncomputable def spec_l12Paint (a0 : TL01Cur) : Option ((TPaint) × (TL01Cur)) :=
  bnd (spec_l12Color a0) fun (w2, w3) =>
  bnd (spec_l01Once 3 w3) fun (w5, w6) =>
  cnd w5 (
   bnd (spec_l12Color w6) fun (w8, w9) =>
   bnd (spec_l04Point w9) fun (w11, w12) =>
   bnd (spec_l04Point w12) fun (w14, w15) =>
   cnd (andB (decide (w11.x = w14.x)) (andB (decide (w11.y = w14.y)) true)) (
    some ((TPaint.mk 2 w2 w8 w11 (TPoint.mk (IntKind.i64.wrap (w14.x + 1)) w14.y)), w15)) (
    some ((TPaint.mk 2 w2 w8 w11 w14), w15))) (
   some ((TPaint.mk 1 w2 (TColor.mk 0 0 0 0) (TPoint.mk 0 0) (TPoint.mk 0 0)), w6))
noncomputable def spec_l12Paint_e (q : (TL01Cur)) : List AV × List Ob := ([AV.optr 0 0 3], [Ob.box [AV.fsl (List.map (AV.int .u8) q.b), AV.int .i64 q.i, AV.int .i64 q.h]])
noncomputable def spec_l12Paint_v (q : (TL01Cur)) (r : (TPaint) × (TL01Cur)) : AV × List Ob := (AV.agg [AV.int .i64 r.1.kind, AV.int .i64 r.1.first.r, AV.int .i64 r.1.first.g, AV.int .i64 r.1.first.b, AV.int .i64 r.1.first.a, AV.int .i64 r.1.last.r, AV.int .i64 r.1.last.g, AV.int .i64 r.1.last.b, AV.int .i64 r.1.last.a, AV.int .i64 r.1.from_.x, AV.int .i64 r.1.from_.y, AV.int .i64 r.1.to.x, AV.int .i64 r.1.to.y], [Ob.box [AV.fsl (List.map (AV.int .u8) r.2.b), AV.int .i64 r.2.i, AV.int .i64 r.2.h]])
noncomputable def spec_l12Paint_x : List AV → List Ob → Option (AV × List Ob) := xOf spec_l12Paint_e (fun q => spec_l12Paint q) spec_l12Paint_v
theorem spec_l12Paint_i : ∀ a b, spec_l12Paint_e a = spec_l12Paint_e b → a = b := by rintro ⟨x0, x1, x2⟩ ⟨y0, y1, y2⟩ h; simp [spec_l12Paint_e] at h; simp [h]
@[simp] theorem spec_l12Paint_k (z0 : List Int) (z1 : Int) (z2 : Int) : spec_l12Paint_x [AV.optr 0 0 3] [Ob.box [AV.fsl (List.map (AV.int .u8) z0), AV.int .i64 z1, AV.int .i64 z2]] = mapR (spec_l12Paint ⟨z0, z1, z2⟩) (fun r => (AV.agg [AV.int .i64 r.1.kind, AV.int .i64 r.1.first.r, AV.int .i64 r.1.first.g, AV.int .i64 r.1.first.b, AV.int .i64 r.1.first.a, AV.int .i64 r.1.last.r, AV.int .i64 r.1.last.g, AV.int .i64 r.1.last.b, AV.int .i64 r.1.last.a, AV.int .i64 r.1.from_.x, AV.int .i64 r.1.from_.y, AV.int .i64 r.1.to.x, AV.int .i64 r.1.to.y], [Ob.box [AV.fsl (List.map (AV.int .u8) r.2.b), AV.int .i64 r.2.i, AV.int .i64 r.2.h]])) :=
  xOf_eq spec_l12Paint_i ⟨z0, z1, z2⟩
/-! spec_l15Node: function 110 -/
noncomputable def spec_l15Node (a0 : Int) (a1 : Int) (a2 : TL01Cur) : Option ((TNode) × (TL01Cur)) :=
  bnd spec_Still fun v1 =>
  bnd (spec_l01PickInt a2 [1, 1, 1, 2, 3, 4, 5]) fun (w3, w4) =>
  bnd (spec_l01PickInt w4 [255, 255, 255, 128, 0]) fun (w6, w7) =>
  bnd (spec_l01Once 3 w7) fun (w9, w10) =>
  cnd w9 (
   bnd (spec_l04Mat w10) fun (w12, w13) =>
   bnd (spec_l01Once 4 w13) fun (w15, w16) =>
   cnd w15 (
    bnd (spec_l06Path w16) fun (w18, w19) =>
    bnd (spec_l01Once 3 w19) fun (w21, w22) =>
    cnd w21 (
     some ((TNode.mk a0 a1 true w12 (TPath.mk [] []) false 0 [] (TPaint.mk 0 (TColor.mk 0 0 0 0) (TColor.mk 0 0 0 0) (TPoint.mk 0 0) (TPoint.mk 0 0)) w3 w6 w18), w22)) (
     bnd (spec_l06Path w22) fun (w24, w25) =>
     bnd (spec_l01Once 3 w25) fun (w27, w28) =>
     bnd (spec_l12Paint w28) fun (w30, w31) =>
     bnd (spec_l01Once 3 w31) fun (w33, w34) =>
     cnd w33 (
      bnd (spec_l01Below 600 w34) fun (w36, w37) =>
      bnd (spec_l01Once 2 w37) fun (w39, w40) =>
      cnd w39 (
       bnd (spec_l01Below 500 w40) fun (w42, w43) =>
       bnd (spec_l01Below 500 w43) fun (w45, w46) =>
       some ((TNode.mk a0 a1 false w12 w24 w27 (IntKind.i64.wrap (1 + w36)) [(IntKind.i64.wrap (100 + w42)), (IntKind.i64.wrap (50 + w45))] w30 w3 w6 w18), w46)) (
       some ((TNode.mk a0 a1 false w12 w24 w27 (IntKind.i64.wrap (1 + w36)) [] w30 w3 w6 w18), w40))) (
      some ((TNode.mk a0 a1 false w12 w24 w27 0 [] w30 w3 w6 w18), w34)))) (
    bnd (spec_l01Once 3 w16) fun (w48, w49) =>
    cnd w48 (
     some ((TNode.mk a0 a1 true w12 (TPath.mk [] []) false 0 [] (TPaint.mk 0 (TColor.mk 0 0 0 0) (TColor.mk 0 0 0 0) (TPoint.mk 0 0) (TPoint.mk 0 0)) w3 w6 (TPath.mk [] [])), w49)) (
     bnd (spec_l06Path w49) fun (w51, w52) =>
     bnd (spec_l01Once 3 w52) fun (w54, w55) =>
     bnd (spec_l12Paint w55) fun (w57, w58) =>
     bnd (spec_l01Once 3 w58) fun (w60, w61) =>
     cnd w60 (
      bnd (spec_l01Below 600 w61) fun (w63, w64) =>
      bnd (spec_l01Once 2 w64) fun (w66, w67) =>
      cnd w66 (
       bnd (spec_l01Below 500 w67) fun (w69, w70) =>
       bnd (spec_l01Below 500 w70) fun (w72, w73) =>
       some ((TNode.mk a0 a1 false w12 w51 w54 (IntKind.i64.wrap (1 + w63)) [(IntKind.i64.wrap (100 + w69)), (IntKind.i64.wrap (50 + w72))] w57 w3 w6 (TPath.mk [] [])), w73)) (
       some ((TNode.mk a0 a1 false w12 w51 w54 (IntKind.i64.wrap (1 + w63)) [] w57 w3 w6 (TPath.mk [] [])), w67))) (
      some ((TNode.mk a0 a1 false w12 w51 w54 0 [] w57 w3 w6 (TPath.mk [] [])), w61))))) (
   bnd (spec_l01Once 4 w10) fun (w75, w76) =>
   cnd w75 (
    bnd (spec_l06Path w76) fun (w78, w79) =>
    bnd (spec_l01Once 3 w79) fun (w81, w82) =>
    cnd w81 (
     some ((TNode.mk a0 a1 true v1 (TPath.mk [] []) false 0 [] (TPaint.mk 0 (TColor.mk 0 0 0 0) (TColor.mk 0 0 0 0) (TPoint.mk 0 0) (TPoint.mk 0 0)) w3 w6 w78), w82)) (
     bnd (spec_l06Path w82) fun (w84, w85) =>
     bnd (spec_l01Once 3 w85) fun (w87, w88) =>
     bnd (spec_l12Paint w88) fun (w90, w91) =>
     bnd (spec_l01Once 3 w91) fun (w93, w94) =>
     cnd w93 (
      bnd (spec_l01Below 600 w94) fun (w96, w97) =>
      bnd (spec_l01Once 2 w97) fun (w99, w100) =>
      cnd w99 (
       bnd (spec_l01Below 500 w100) fun (w102, w103) =>
       bnd (spec_l01Below 500 w103) fun (w105, w106) =>
       some ((TNode.mk a0 a1 false v1 w84 w87 (IntKind.i64.wrap (1 + w96)) [(IntKind.i64.wrap (100 + w102)), (IntKind.i64.wrap (50 + w105))] w90 w3 w6 w78), w106)) (
       some ((TNode.mk a0 a1 false v1 w84 w87 (IntKind.i64.wrap (1 + w96)) [] w90 w3 w6 w78), w100))) (
      some ((TNode.mk a0 a1 false v1 w84 w87 0 [] w90 w3 w6 w78), w94)))) (
    bnd (spec_l01Once 3 w76) fun (w108, w109) =>
    cnd w108 (
     some ((TNode.mk a0 a1 true v1 (TPath.mk [] []) false 0 [] (TPaint.mk 0 (TColor.mk 0 0 0 0) (TColor.mk 0 0 0 0) (TPoint.mk 0 0) (TPoint.mk 0 0)) w3 w6 (TPath.mk [] [])), w109)) (
     bnd (spec_l06Path w109) fun (w111, w112) =>
     bnd (spec_l01Once 3 w112) fun (w114, w115) =>
     bnd (spec_l12Paint w115) fun (w117, w118) =>
     bnd (spec_l01Once 3 w118) fun (w120, w121) =>
     cnd w120 (
      bnd (spec_l01Below 600 w121) fun (w123, w124) =>
      bnd (spec_l01Once 2 w124) fun (w126, w127) =>
      cnd w126 (
       bnd (spec_l01Below 500 w127) fun (w129, w130) =>
       bnd (spec_l01Below 500 w130) fun (w132, w133) =>
       some ((TNode.mk a0 a1 false v1 w111 w114 (IntKind.i64.wrap (1 + w123)) [(IntKind.i64.wrap (100 + w129)), (IntKind.i64.wrap (50 + w132))] w117 w3 w6 (TPath.mk [] [])), w133)) (
       some ((TNode.mk a0 a1 false v1 w111 w114 (IntKind.i64.wrap (1 + w123)) [] w117 w3 w6 (TPath.mk [] [])), w127))) (
      some ((TNode.mk a0 a1 false v1 w111 w114 0 [] w117 w3 w6 (TPath.mk [] [])), w121)))))
noncomputable def spec_l15Node_e (q : (Int) × (Int) × (TL01Cur)) : List AV × List Ob := ([AV.optr 0 0 3, AV.int .i64 q.1, AV.int .i64 q.2.1], [Ob.box [AV.fsl (List.map (AV.int .u8) q.2.2.b), AV.int .i64 q.2.2.i, AV.int .i64 q.2.2.h]])
noncomputable def spec_l15Node_v (q : (Int) × (Int) × (TL01Cur)) (r : (TNode) × (TL01Cur)) : AV × List Ob := (AV.agg [AV.int .i64 r.1.id, AV.int .i64 r.1.parent, AV.bool r.1.group, AV.int .i64 r.1.mat.a, AV.int .i64 r.1.mat.b, AV.int .i64 r.1.mat.c, AV.int .i64 r.1.mat.d, AV.int .i64 r.1.mat.e, AV.int .i64 r.1.mat.f, AV.fsl (List.map (AV.int .i64) r.1.path.verbs), AV.fsl (List.map ePoint r.1.path.points), AV.bool r.1.even, AV.int .i64 r.1.width, AV.fsl (List.map (AV.int .i64) r.1.dashes), AV.int .i64 r.1.paint.kind, AV.int .i64 r.1.paint.first.r, AV.int .i64 r.1.paint.first.g, AV.int .i64 r.1.paint.first.b, AV.int .i64 r.1.paint.first.a, AV.int .i64 r.1.paint.last.r, AV.int .i64 r.1.paint.last.g, AV.int .i64 r.1.paint.last.b, AV.int .i64 r.1.paint.last.a, AV.int .i64 r.1.paint.from_.x, AV.int .i64 r.1.paint.from_.y, AV.int .i64 r.1.paint.to.x, AV.int .i64 r.1.paint.to.y, AV.int .i64 r.1.mode, AV.int .i64 r.1.fade, AV.fsl (List.map (AV.int .i64) r.1.clip.verbs), AV.fsl (List.map ePoint r.1.clip.points)], [Ob.box [AV.fsl (List.map (AV.int .u8) r.2.b), AV.int .i64 r.2.i, AV.int .i64 r.2.h]])
noncomputable def spec_l15Node_x : List AV → List Ob → Option (AV × List Ob) := xOf spec_l15Node_e (fun q => spec_l15Node q.1 q.2.1 q.2.2) spec_l15Node_v
theorem spec_l15Node_i : ∀ a b, spec_l15Node_e a = spec_l15Node_e b → a = b := by rintro ⟨x0, x1, ⟨x2, x3, x4⟩⟩ ⟨y0, y1, ⟨y2, y3, y4⟩⟩ h; simp [spec_l15Node_e] at h; simp [h]
@[simp] theorem spec_l15Node_k (z0 : Int) (z1 : Int) (z2 : List Int) (z3 : Int) (z4 : Int) : spec_l15Node_x [AV.optr 0 0 3, AV.int .i64 z0, AV.int .i64 z1] [Ob.box [AV.fsl (List.map (AV.int .u8) z2), AV.int .i64 z3, AV.int .i64 z4]] = mapR (spec_l15Node z0 z1 ⟨z2, z3, z4⟩) (fun r => (AV.agg [AV.int .i64 r.1.id, AV.int .i64 r.1.parent, AV.bool r.1.group, AV.int .i64 r.1.mat.a, AV.int .i64 r.1.mat.b, AV.int .i64 r.1.mat.c, AV.int .i64 r.1.mat.d, AV.int .i64 r.1.mat.e, AV.int .i64 r.1.mat.f, AV.fsl (List.map (AV.int .i64) r.1.path.verbs), AV.fsl (List.map ePoint r.1.path.points), AV.bool r.1.even, AV.int .i64 r.1.width, AV.fsl (List.map (AV.int .i64) r.1.dashes), AV.int .i64 r.1.paint.kind, AV.int .i64 r.1.paint.first.r, AV.int .i64 r.1.paint.first.g, AV.int .i64 r.1.paint.first.b, AV.int .i64 r.1.paint.first.a, AV.int .i64 r.1.paint.last.r, AV.int .i64 r.1.paint.last.g, AV.int .i64 r.1.paint.last.b, AV.int .i64 r.1.paint.last.a, AV.int .i64 r.1.paint.from_.x, AV.int .i64 r.1.paint.from_.y, AV.int .i64 r.1.paint.to.x, AV.int .i64 r.1.paint.to.y, AV.int .i64 r.1.mode, AV.int .i64 r.1.fade, AV.fsl (List.map (AV.int .i64) r.1.clip.verbs), AV.fsl (List.map ePoint r.1.clip.points)], [Ob.box [AV.fsl (List.map (AV.int .u8) r.2.b), AV.int .i64 r.2.i, AV.int .i64 r.2.h]])) :=
  xOf_eq spec_l15Node_i (z0, z1, ⟨z2, z3, z4⟩)
/-! spec_NodeAt: function 119 -/
noncomputable def spec_NodeAt_l0 (a0 : TScene) (a1 : Int) : ((Int)) → Option (((Int)) ⊕ ((Unit) ⊕ ((Int)))) := fun x2 =>
  cnd (ile (List.length a0.nodes : Int) x2) (
   some (.inr (.inl ()))) (
   bnd (idx a0.nodes x2) fun v3 =>
   cnd (ieq v3.id a1) (
    some (.inr (.inr x2))) (
    some (.inl (IntKind.i64.wrap (x2 + 1)))))
noncomputable def spec_NodeAt_l0_S (a0 : TScene) (a1 : Int) : ((Int)) → St := fun x2 => ⟨[(1, AV.int .i64 a1), (2, AV.optr 0 0 1), (5, AV.int .i64 x2)], [(0, Ob.box [AV.fsl (List.map eNode a0.nodes)])], 1⟩
noncomputable def spec_NodeAt_l0_X (a0 : TScene) (a1 : Int) : ((Unit) ⊕ ((Int))) → Ex × St := fun q => match q with
  | .inl _ => ((.exit 0), ⟨[], [], 0⟩)
  | .inr y4 => (.ret, ⟨[(4, AV.int .i64 y4)], [], 0⟩)
noncomputable def spec_NodeAt (a0 : TScene) (a1 : Int) : Option ((Int)) :=
  bnd (loopI (spec_NodeAt_l0 a0 a1) 0) fun q => match q with
  | .inl () =>
   some (-1)
  | .inr y4 =>
   some y4
noncomputable def spec_NodeAt_e (q : (TScene) × (Int)) : List AV × List Ob := ([AV.agg [AV.fsl (List.map eNode q.1.nodes)], AV.int .i64 q.2], [])
noncomputable def spec_NodeAt_v (q : (TScene) × (Int)) (r : (Int)) : AV × List Ob := (AV.int .i64 r, [])
noncomputable def spec_NodeAt_x : List AV → List Ob → Option (AV × List Ob) := xOf spec_NodeAt_e (fun q => spec_NodeAt q.1 q.2) spec_NodeAt_v
theorem spec_NodeAt_i : ∀ a b, spec_NodeAt_e a = spec_NodeAt_e b → a = b := by rintro ⟨⟨x0⟩, x1⟩ ⟨⟨y0⟩, y1⟩ h; simp [spec_NodeAt_e] at h; simp [h]
@[simp] theorem spec_NodeAt_k (z0 : List TNode) (z1 : Int) : spec_NodeAt_x [AV.agg [AV.fsl (List.map eNode z0)], AV.int .i64 z1] [] = mapR (spec_NodeAt ⟨z0⟩ z1) (fun r => (AV.int .i64 r, [])) :=
  xOf_eq spec_NodeAt_i (⟨z0⟩, z1)
/-! spec_DepthOf: function 120 -/
noncomputable def spec_DepthOf_l0 (a0 : TScene) : ((Int) × (Int) × (Int)) → Option (((Int) × (Int) × (Int)) ⊕ (((Int)) ⊕ (Unit))) := fun (x3, x4, x5) =>
  cnd (ile x5 8) (
   cnd (ieq x3 0) (
    some (.inr (.inl x4))) (
    bnd (spec_NodeAt a0 x3) fun v6 =>
    cnd (ile 0 v6) (
     bnd (idx a0.nodes v6) fun v7 =>
     some (.inl (v7.parent, (IntKind.i64.wrap (x4 + 1)), (IntKind.i64.wrap (x5 + 1))))) (
     some (.inr (.inl 0))))) (
   some (.inr (.inr ())))
noncomputable def spec_DepthOf_l0_S (a0 : TScene) : ((Int) × (Int) × (Int)) → St := fun (x3, x4, x5) => ⟨[(1, AV.int .i64 x3), (2, AV.optr 0 0 1), (5, AV.int .i64 x4), (6, AV.int .i64 x5)], [(0, Ob.box [AV.fsl (List.map eNode a0.nodes)])], 1⟩
noncomputable def spec_DepthOf_l0_X (a0 : TScene) : (((Int)) ⊕ (Unit)) → Ex × St := fun q => match q with
  | .inl y8 => (.ret, ⟨[(4, AV.int .i64 y8)], [], 0⟩)
  | .inr _ => ((.exit 0), ⟨[], [], 0⟩)
noncomputable def spec_DepthOf (a0 : TScene) (a1 : Int) : Option ((Int)) :=
  bnd (loopI (spec_DepthOf_l0 a0) (a1, 0, 0)) fun q => match q with
  | .inl y8 =>
   some y8
  | .inr () =>
   some 0
noncomputable def spec_DepthOf_e (q : (TScene) × (Int)) : List AV × List Ob := ([AV.agg [AV.fsl (List.map eNode q.1.nodes)], AV.int .i64 q.2], [])
noncomputable def spec_DepthOf_v (q : (TScene) × (Int)) (r : (Int)) : AV × List Ob := (AV.int .i64 r, [])
noncomputable def spec_DepthOf_x : List AV → List Ob → Option (AV × List Ob) := xOf spec_DepthOf_e (fun q => spec_DepthOf q.1 q.2) spec_DepthOf_v
theorem spec_DepthOf_i : ∀ a b, spec_DepthOf_e a = spec_DepthOf_e b → a = b := by rintro ⟨⟨x0⟩, x1⟩ ⟨⟨y0⟩, y1⟩ h; simp [spec_DepthOf_e] at h; simp [h]
@[simp] theorem spec_DepthOf_k (z0 : List TNode) (z1 : Int) : spec_DepthOf_x [AV.agg [AV.fsl (List.map eNode z0)], AV.int .i64 z1] [] = mapR (spec_DepthOf ⟨z0⟩ z1) (fun r => (AV.int .i64 r, [])) :=
  xOf_eq spec_DepthOf_i (⟨z0⟩, z1)
/-! spec_l15Scene: function 109 -/
noncomputable def spec_l15Scene_l0 (x7 : Int) (x11 : List TNode) : ((Int) × (Int) × (List Int) × (Int) × (Int)) → Option (((Int) × (Int) × (List Int) × (Int) × (Int)) ⊕ ((List Int) × (Int) × (Int) × (Int))) := fun (x20, x21, x22, x23, x24) =>
  cnd (ile (List.length x11 : Int) x20) (
   some (.inr (x22, x23, x24, x21))) (
   bnd (idx x11 x20) fun v25 =>
   cnd v25.group (
    bnd (spec_DepthOf (TScene.mk x11) v25.id) fun v26 =>
    cnd (ile 4 v26) (
     some (.inl ((IntKind.i64.wrap (x20 + 1)), x21, x22, x23, x24))) (
     bnd (spec_l01Once 2 (TL01Cur.mk x22 x23 x24)) fun (w28, w29) =>
     cnd w28 (
      some (.inl ((IntKind.i64.wrap (x20 + 1)), v25.id, w29.b, w29.i, w29.h))) (
      some (.inl ((IntKind.i64.wrap (x20 + 1)), x21, w29.b, w29.i, w29.h))))) (
    some (.inl ((IntKind.i64.wrap (x20 + 1)), x21, x22, x23, x24))))
noncomputable def spec_l15Scene_l0_S (x7 : Int) (x11 : List TNode) : ((Int) × (Int) × (List Int) × (Int) × (Int)) → St := fun (x20, x21, x22, x23, x24) => ⟨[(0, AV.optr 0 0 3), (2, AV.optr 1 0 1), (3, AV.optr 2 0 1), (4, AV.int .i64 x7), (5, AV.int .i64 x21), (6, AV.int .i64 x20)], [(0, Ob.box [AV.fsl (List.map (AV.int .u8) x22), AV.int .i64 x23, AV.int .i64 x24]), (1, Ob.box [AV.nilsl]), (2, Ob.box [AV.osl 3 0 (List.length x11) (List.length x11)]), (3, Ob.arr 31 (List.map eNode x11) false)], 4⟩
noncomputable def spec_l15Scene_l0_X (x7 : Int) (x11 : List TNode) : ((List Int) × (Int) × (Int) × (Int)) → Ex × St := fun (y30, y31, y32, y33) => ((.exit 2), ⟨[(0, AV.optr 0 0 3), (2, AV.optr 1 0 1), (3, AV.optr 2 0 1), (4, AV.int .i64 x7), (5, AV.int .i64 y33)], [(0, Ob.box [AV.fsl (List.map (AV.int .u8) y30), AV.int .i64 y31, AV.int .i64 y32]), (1, Ob.box [AV.nilsl]), (2, Ob.box [AV.osl 3 0 (List.length x11) (List.length x11)]), (3, Ob.arr 31 (List.map eNode x11) false)], 4⟩)
noncomputable def spec_l15Scene_l1  : ((Int) × (List Int) × (Int) × (Int) × (List TNode)) → Option (((Int) × (List Int) × (Int) × (Int) × (List TNode)) ⊕ ((List Int) × (Int) × (Int) × (List TNode))) := fun (x7, x8, x9, x10, x11) =>
  bnd (spec_l01Below 6 (TL01Cur.mk x8 x9 x10)) fun (w13, w14) =>
  cnd (ile w13 x7) (
   some (.inr (w14.b, w14.i, w14.h, x11))) (
   bnd (loopI (spec_l15Scene_l0 x7 x11) (0, 0, w14.b, w14.i, w14.h)) fun (y30, y31, y32, y33) =>
   bnd (spec_l15Node (IntKind.i64.wrap (x7 + 1)) y33 (TL01Cur.mk y30 y31 y32)) fun (w35, w36) =>
   chkP ((List.length x11 + 1) * 328 ≤ 17592186044416) (
   nam ((x11 ++ [w35]) : List TNode) fun l37 =>
   some (.inl ((IntKind.i64.wrap (x7 + 1)), w36.b, w36.i, w36.h, l37))))
noncomputable def spec_l15Scene_l1_S  : ((Int) × (List Int) × (Int) × (Int) × (List TNode)) → St := fun (x7, x8, x9, x10, x11) => ⟨[(0, AV.optr 0 0 3), (2, AV.optr 1 0 1), (3, AV.optr 2 0 1), (4, AV.int .i64 x7)], [(0, Ob.box [AV.fsl (List.map (AV.int .u8) x8), AV.int .i64 x9, AV.int .i64 x10]), (1, Ob.box [AV.nilsl]), (2, Ob.box [AV.osl 3 0 (List.length x11) (List.length x11)]), (3, Ob.arr 31 (List.map eNode x11) false)], 4⟩
noncomputable def spec_l15Scene_l1_X  : ((List Int) × (Int) × (Int) × (List TNode)) → Ex × St := fun (y38, y39, y40, y41) => ((.exit 0), ⟨[(0, AV.optr 0 0 3), (2, AV.optr 1 0 1), (3, AV.optr 2 0 1)], [(0, Ob.box [AV.fsl (List.map (AV.int .u8) y38), AV.int .i64 y39, AV.int .i64 y40]), (1, Ob.box [AV.nilsl]), (2, Ob.box [AV.osl 3 0 (List.length y41) (List.length y41)]), (3, Ob.arr 31 (List.map eNode y41) false)], 4⟩)
noncomputable def spec_l15Scene (a0 : TL01Cur) : Option ((TScene) × (TL01Cur)) :=
  bnd (loopI spec_l15Scene_l1 (0, a0.b, a0.i, a0.h, [])) fun (y38, y39, y40, y41) =>
  cnd (ile (List.length y41 : Int) 1) (
   some ((TScene.mk y41), (TL01Cur.mk y38 y39 y40))) (
   bnd (spec_l01Once 3 (TL01Cur.mk y38 y39 y40)) fun (w43, w44) =>
   cnd w43 (
    bnd (idx y41 0) fun v45 =>
    bnd (slc y41 1 (List.length y41 : Int)) fun v46 =>
    chkP ((0 + List.length v46) * 328 ≤ 17592186044416) (
    nam (([] ++ v46) : List TNode) fun l47 =>
    chkP ((List.length l47 + 1) * 328 ≤ 17592186044416) (
    nam ((l47 ++ [v45]) : List TNode) fun l48 =>
    some ((TScene.mk l48), w44)))) (
    some ((TScene.mk y41), w44)))
noncomputable def spec_l15Scene_e (q : (TL01Cur)) : List AV × List Ob := ([AV.optr 0 0 3], [Ob.box [AV.fsl (List.map (AV.int .u8) q.b), AV.int .i64 q.i, AV.int .i64 q.h]])
noncomputable def spec_l15Scene_v (q : (TL01Cur)) (r : (TScene) × (TL01Cur)) : AV × List Ob := (AV.agg [AV.fsl (List.map eNode r.1.nodes)], [Ob.box [AV.fsl (List.map (AV.int .u8) r.2.b), AV.int .i64 r.2.i, AV.int .i64 r.2.h]])
noncomputable def spec_l15Scene_x : List AV → List Ob → Option (AV × List Ob) := xOf spec_l15Scene_e (fun q => spec_l15Scene q) spec_l15Scene_v
theorem spec_l15Scene_i : ∀ a b, spec_l15Scene_e a = spec_l15Scene_e b → a = b := by rintro ⟨x0, x1, x2⟩ ⟨y0, y1, y2⟩ h; simp [spec_l15Scene_e] at h; simp [h]
@[simp] theorem spec_l15Scene_k (z0 : List Int) (z1 : Int) (z2 : Int) : spec_l15Scene_x [AV.optr 0 0 3] [Ob.box [AV.fsl (List.map (AV.int .u8) z0), AV.int .i64 z1, AV.int .i64 z2]] = mapR (spec_l15Scene ⟨z0, z1, z2⟩) (fun r => (AV.agg [AV.fsl (List.map eNode r.1.nodes)], [Ob.box [AV.fsl (List.map (AV.int .u8) r.2.b), AV.int .i64 r.2.i, AV.int .i64 r.2.h]])) :=
  xOf_eq spec_l15Scene_i ⟨z0, z1, z2⟩
/-! spec_DrawScene: function 44 -/
noncomputable def spec_DrawScene (a0 : List Int) : Option ((TScene)) :=
  bnd (spec_l01New a0) fun v1 =>
  bnd (spec_l15Scene v1) fun (w3, w4) =>
  some w3
noncomputable def spec_DrawScene_e (q : (List Int)) : List AV × List Ob := ([AV.fsl (List.map (AV.int .u8) q)], [])
noncomputable def spec_DrawScene_v (q : (List Int)) (r : (TScene)) : AV × List Ob := (AV.agg [AV.fsl (List.map eNode r.nodes)], [])
noncomputable def spec_DrawScene_x : List AV → List Ob → Option (AV × List Ob) := xOf spec_DrawScene_e (fun q => spec_DrawScene q) spec_DrawScene_v
theorem spec_DrawScene_i : ∀ a b, spec_DrawScene_e a = spec_DrawScene_e b → a = b := by rintro x0 y0 h; simp [spec_DrawScene_e] at h; simp [h]
@[simp] theorem spec_DrawScene_k (z0 : List Int) : spec_DrawScene_x [AV.fsl (List.map (AV.int .u8) z0)] [] = mapR (spec_DrawScene z0) (fun r => (AV.agg [AV.fsl (List.map eNode r.nodes)], [])) :=
  xOf_eq spec_DrawScene_i z0
/-! spec_DrawNode: function 45 -/
noncomputable def spec_DrawNode (a0 : List Int) : Option ((TNode)) :=
  bnd (spec_l01New a0) fun v1 =>
  bnd (spec_l01Below 6 v1) fun (w3, w4) =>
  bnd (spec_l15Node 9 w3 w4) fun (w6, w7) =>
  some w6
noncomputable def spec_DrawNode_e (q : (List Int)) : List AV × List Ob := ([AV.fsl (List.map (AV.int .u8) q)], [])
noncomputable def spec_DrawNode_v (q : (List Int)) (r : (TNode)) : AV × List Ob := (AV.agg [AV.int .i64 r.id, AV.int .i64 r.parent, AV.bool r.group, AV.int .i64 r.mat.a, AV.int .i64 r.mat.b, AV.int .i64 r.mat.c, AV.int .i64 r.mat.d, AV.int .i64 r.mat.e, AV.int .i64 r.mat.f, AV.fsl (List.map (AV.int .i64) r.path.verbs), AV.fsl (List.map ePoint r.path.points), AV.bool r.even, AV.int .i64 r.width, AV.fsl (List.map (AV.int .i64) r.dashes), AV.int .i64 r.paint.kind, AV.int .i64 r.paint.first.r, AV.int .i64 r.paint.first.g, AV.int .i64 r.paint.first.b, AV.int .i64 r.paint.first.a, AV.int .i64 r.paint.last.r, AV.int .i64 r.paint.last.g, AV.int .i64 r.paint.last.b, AV.int .i64 r.paint.last.a, AV.int .i64 r.paint.from_.x, AV.int .i64 r.paint.from_.y, AV.int .i64 r.paint.to.x, AV.int .i64 r.paint.to.y, AV.int .i64 r.mode, AV.int .i64 r.fade, AV.fsl (List.map (AV.int .i64) r.clip.verbs), AV.fsl (List.map ePoint r.clip.points)], [])
noncomputable def spec_DrawNode_x : List AV → List Ob → Option (AV × List Ob) := xOf spec_DrawNode_e (fun q => spec_DrawNode q) spec_DrawNode_v
theorem spec_DrawNode_i : ∀ a b, spec_DrawNode_e a = spec_DrawNode_e b → a = b := by rintro x0 y0 h; simp [spec_DrawNode_e] at h; simp [h]
@[simp] theorem spec_DrawNode_k (z0 : List Int) : spec_DrawNode_x [AV.fsl (List.map (AV.int .u8) z0)] [] = mapR (spec_DrawNode z0) (fun r => (AV.agg [AV.int .i64 r.id, AV.int .i64 r.parent, AV.bool r.group, AV.int .i64 r.mat.a, AV.int .i64 r.mat.b, AV.int .i64 r.mat.c, AV.int .i64 r.mat.d, AV.int .i64 r.mat.e, AV.int .i64 r.mat.f, AV.fsl (List.map (AV.int .i64) r.path.verbs), AV.fsl (List.map ePoint r.path.points), AV.bool r.even, AV.int .i64 r.width, AV.fsl (List.map (AV.int .i64) r.dashes), AV.int .i64 r.paint.kind, AV.int .i64 r.paint.first.r, AV.int .i64 r.paint.first.g, AV.int .i64 r.paint.first.b, AV.int .i64 r.paint.first.a, AV.int .i64 r.paint.last.r, AV.int .i64 r.paint.last.g, AV.int .i64 r.paint.last.b, AV.int .i64 r.paint.last.a, AV.int .i64 r.paint.from_.x, AV.int .i64 r.paint.from_.y, AV.int .i64 r.paint.to.x, AV.int .i64 r.paint.to.y, AV.int .i64 r.mode, AV.int .i64 r.fade, AV.fsl (List.map (AV.int .i64) r.clip.verbs), AV.fsl (List.map ePoint r.clip.points)], [])) :=
  xOf_eq spec_DrawNode_i z0
/-! slices_Clone_int: function 165 -/
noncomputable def slices_Clone_int (a0 : List Int) : Option ((List Int)) :=
  chkP (List.length a0 * 8 ≤ 17592186044416) (
  some a0)
noncomputable def slices_Clone_int_e (q : (List Int)) : List AV × List Ob := ([AV.fsl (List.map (AV.int .i64) q)], [])
noncomputable def slices_Clone_int_v (q : (List Int)) (r : (List Int)) : AV × List Ob := (AV.fsl (List.map (AV.int .i64) r), [])
noncomputable def slices_Clone_int_x : List AV → List Ob → Option (AV × List Ob) := xOf slices_Clone_int_e (fun q => slices_Clone_int q) slices_Clone_int_v
theorem slices_Clone_int_i : ∀ a b, slices_Clone_int_e a = slices_Clone_int_e b → a = b := by rintro x0 y0 h; simp [slices_Clone_int_e] at h; simp [h]
@[simp] theorem slices_Clone_int_k (z0 : List Int) : slices_Clone_int_x [AV.fsl (List.map (AV.int .i64) z0)] [] = mapR (slices_Clone_int z0) (fun r => (AV.fsl (List.map (AV.int .i64) r), [])) :=
  xOf_eq slices_Clone_int_i z0
/-! slices_Clone_Point: function 221 -/
noncomputable def slices_Clone_Point (a0 : List TPoint) : Option ((List TPoint)) :=
  chkP (List.length a0 * 16 ≤ 17592186044416) (
  some a0)
noncomputable def slices_Clone_Point_e (q : (List TPoint)) : List AV × List Ob := ([AV.fsl (List.map ePoint q)], [])
noncomputable def slices_Clone_Point_v (q : (List TPoint)) (r : (List TPoint)) : AV × List Ob := (AV.fsl (List.map ePoint r), [])
noncomputable def slices_Clone_Point_x : List AV → List Ob → Option (AV × List Ob) := xOf slices_Clone_Point_e (fun q => slices_Clone_Point q) slices_Clone_Point_v
theorem slices_Clone_Point_i : ∀ a b, slices_Clone_Point_e a = slices_Clone_Point_e b → a = b := by rintro x0 y0 h; simp [slices_Clone_Point_e] at h; simp [h]
@[simp] theorem slices_Clone_Point_k (z0 : List TPoint) : slices_Clone_Point_x [AV.fsl (List.map ePoint z0)] [] = mapR (slices_Clone_Point z0) (fun r => (AV.fsl (List.map ePoint r), [])) :=
  xOf_eq slices_Clone_Point_i z0
/-! impl_copyPath: function 182 -/
noncomputable def impl_copyPath (a0 : TPath) : Option ((TPath)) :=
  bnd (slices_Clone_int a0.verbs) fun v1 =>
  bnd (slices_Clone_Point a0.points) fun v2 =>
  some (TPath.mk v1 v2)
noncomputable def impl_copyPath_e (q : (TPath)) : List AV × List Ob := ([AV.agg [AV.fsl (List.map (AV.int .i64) q.verbs), AV.fsl (List.map ePoint q.points)]], [])
noncomputable def impl_copyPath_v (q : (TPath)) (r : (TPath)) : AV × List Ob := (AV.agg [AV.fsl (List.map (AV.int .i64) r.verbs), AV.fsl (List.map ePoint r.points)], [])
noncomputable def impl_copyPath_x : List AV → List Ob → Option (AV × List Ob) := xOf impl_copyPath_e (fun q => impl_copyPath q) impl_copyPath_v
theorem impl_copyPath_i : ∀ a b, impl_copyPath_e a = impl_copyPath_e b → a = b := by rintro ⟨x0, x1⟩ ⟨y0, y1⟩ h; simp [impl_copyPath_e] at h; simp [h]
@[simp] theorem impl_copyPath_k (z0 : List Int) (z1 : List TPoint) : impl_copyPath_x [AV.agg [AV.fsl (List.map (AV.int .i64) z0), AV.fsl (List.map ePoint z1)]] [] = mapR (impl_copyPath ⟨z0, z1⟩) (fun r => (AV.agg [AV.fsl (List.map (AV.int .i64) r.verbs), AV.fsl (List.map ePoint r.points)], [])) :=
  xOf_eq impl_copyPath_i ⟨z0, z1⟩
/-! impl_copyNode: function 115 -/
noncomputable def impl_copyNode (a0 : TNode) : Option ((TNode)) :=
  bnd (impl_copyPath a0.path) fun v1 =>
  bnd (impl_copyPath a0.clip) fun v2 =>
  bnd (slices_Clone_int a0.dashes) fun v3 =>
  some (TNode.mk a0.id a0.parent a0.group a0.mat v1 a0.even a0.width v3 a0.paint a0.mode a0.fade v2)
noncomputable def impl_copyNode_e (q : (TNode)) : List AV × List Ob := ([AV.agg [AV.int .i64 q.id, AV.int .i64 q.parent, AV.bool q.group, AV.int .i64 q.mat.a, AV.int .i64 q.mat.b, AV.int .i64 q.mat.c, AV.int .i64 q.mat.d, AV.int .i64 q.mat.e, AV.int .i64 q.mat.f, AV.fsl (List.map (AV.int .i64) q.path.verbs), AV.fsl (List.map ePoint q.path.points), AV.bool q.even, AV.int .i64 q.width, AV.fsl (List.map (AV.int .i64) q.dashes), AV.int .i64 q.paint.kind, AV.int .i64 q.paint.first.r, AV.int .i64 q.paint.first.g, AV.int .i64 q.paint.first.b, AV.int .i64 q.paint.first.a, AV.int .i64 q.paint.last.r, AV.int .i64 q.paint.last.g, AV.int .i64 q.paint.last.b, AV.int .i64 q.paint.last.a, AV.int .i64 q.paint.from_.x, AV.int .i64 q.paint.from_.y, AV.int .i64 q.paint.to.x, AV.int .i64 q.paint.to.y, AV.int .i64 q.mode, AV.int .i64 q.fade, AV.fsl (List.map (AV.int .i64) q.clip.verbs), AV.fsl (List.map ePoint q.clip.points)]], [])
noncomputable def impl_copyNode_v (q : (TNode)) (r : (TNode)) : AV × List Ob := (AV.agg [AV.int .i64 r.id, AV.int .i64 r.parent, AV.bool r.group, AV.int .i64 r.mat.a, AV.int .i64 r.mat.b, AV.int .i64 r.mat.c, AV.int .i64 r.mat.d, AV.int .i64 r.mat.e, AV.int .i64 r.mat.f, AV.fsl (List.map (AV.int .i64) r.path.verbs), AV.fsl (List.map ePoint r.path.points), AV.bool r.even, AV.int .i64 r.width, AV.fsl (List.map (AV.int .i64) r.dashes), AV.int .i64 r.paint.kind, AV.int .i64 r.paint.first.r, AV.int .i64 r.paint.first.g, AV.int .i64 r.paint.first.b, AV.int .i64 r.paint.first.a, AV.int .i64 r.paint.last.r, AV.int .i64 r.paint.last.g, AV.int .i64 r.paint.last.b, AV.int .i64 r.paint.last.a, AV.int .i64 r.paint.from_.x, AV.int .i64 r.paint.from_.y, AV.int .i64 r.paint.to.x, AV.int .i64 r.paint.to.y, AV.int .i64 r.mode, AV.int .i64 r.fade, AV.fsl (List.map (AV.int .i64) r.clip.verbs), AV.fsl (List.map ePoint r.clip.points)], [])
noncomputable def impl_copyNode_x : List AV → List Ob → Option (AV × List Ob) := xOf impl_copyNode_e (fun q => impl_copyNode q) impl_copyNode_v
theorem impl_copyNode_i : ∀ a b, impl_copyNode_e a = impl_copyNode_e b → a = b := by rintro ⟨x0, x1, x2, ⟨x3, x4, x5, x6, x7, x8⟩, ⟨x9, x10⟩, x11, x12, x13, ⟨x14, ⟨x15, x16, x17, x18⟩, ⟨x19, x20, x21, x22⟩, ⟨x23, x24⟩, ⟨x25, x26⟩⟩, x27, x28, ⟨x29, x30⟩⟩ ⟨y0, y1, y2, ⟨y3, y4, y5, y6, y7, y8⟩, ⟨y9, y10⟩, y11, y12, y13, ⟨y14, ⟨y15, y16, y17, y18⟩, ⟨y19, y20, y21, y22⟩, ⟨y23, y24⟩, ⟨y25, y26⟩⟩, y27, y28, ⟨y29, y30⟩⟩ h; simp [impl_copyNode_e] at h; simp [h]
@[simp] theorem impl_copyNode_k (z0 : Int) (z1 : Int) (z2 : Bool) (z3 : Int) (z4 : Int) (z5 : Int) (z6 : Int) (z7 : Int) (z8 : Int) (z9 : List Int) (z10 : List TPoint) (z11 : Bool) (z12 : Int) (z13 : List Int) (z14 : Int) (z15 : Int) (z16 : Int) (z17 : Int) (z18 : Int) (z19 : Int) (z20 : Int) (z21 : Int) (z22 : Int) (z23 : Int) (z24 : Int) (z25 : Int) (z26 : Int) (z27 : Int) (z28 : Int) (z29 : List Int) (z30 : List TPoint) : impl_copyNode_x [AV.agg [AV.int .i64 z0, AV.int .i64 z1, AV.bool z2, AV.int .i64 z3, AV.int .i64 z4, AV.int .i64 z5, AV.int .i64 z6, AV.int .i64 z7, AV.int .i64 z8, AV.fsl (List.map (AV.int .i64) z9), AV.fsl (List.map ePoint z10), AV.bool z11, AV.int .i64 z12, AV.fsl (List.map (AV.int .i64) z13), AV.int .i64 z14, AV.int .i64 z15, AV.int .i64 z16, AV.int .i64 z17, AV.int .i64 z18, AV.int .i64 z19, AV.int .i64 z20, AV.int .i64 z21, AV.int .i64 z22, AV.int .i64 z23, AV.int .i64 z24, AV.int .i64 z25, AV.int .i64 z26, AV.int .i64 z27, AV.int .i64 z28, AV.fsl (List.map (AV.int .i64) z29), AV.fsl (List.map ePoint z30)]] [] = mapR (impl_copyNode ⟨z0, z1, z2, ⟨z3, z4, z5, z6, z7, z8⟩, ⟨z9, z10⟩, z11, z12, z13, ⟨z14, ⟨z15, z16, z17, z18⟩, ⟨z19, z20, z21, z22⟩, ⟨z23, z24⟩, ⟨z25, z26⟩⟩, z27, z28, ⟨z29, z30⟩⟩) (fun r => (AV.agg [AV.int .i64 r.id, AV.int .i64 r.parent, AV.bool r.group, AV.int .i64 r.mat.a, AV.int .i64 r.mat.b, AV.int .i64 r.mat.c, AV.int .i64 r.mat.d, AV.int .i64 r.mat.e, AV.int .i64 r.mat.f, AV.fsl (List.map (AV.int .i64) r.path.verbs), AV.fsl (List.map ePoint r.path.points), AV.bool r.even, AV.int .i64 r.width, AV.fsl (List.map (AV.int .i64) r.dashes), AV.int .i64 r.paint.kind, AV.int .i64 r.paint.first.r, AV.int .i64 r.paint.first.g, AV.int .i64 r.paint.first.b, AV.int .i64 r.paint.first.a, AV.int .i64 r.paint.last.r, AV.int .i64 r.paint.last.g, AV.int .i64 r.paint.last.b, AV.int .i64 r.paint.last.a, AV.int .i64 r.paint.from_.x, AV.int .i64 r.paint.from_.y, AV.int .i64 r.paint.to.x, AV.int .i64 r.paint.to.y, AV.int .i64 r.mode, AV.int .i64 r.fade, AV.fsl (List.map (AV.int .i64) r.clip.verbs), AV.fsl (List.map ePoint r.clip.points)], [])) :=
  xOf_eq impl_copyNode_i ⟨z0, z1, z2, ⟨z3, z4, z5, z6, z7, z8⟩, ⟨z9, z10⟩, z11, z12, z13, ⟨z14, ⟨z15, z16, z17, z18⟩, ⟨z19, z20, z21, z22⟩, ⟨z23, z24⟩, ⟨z25, z26⟩⟩, z27, z28, ⟨z29, z30⟩⟩
/-! impl_copyScene: function 111 -/
noncomputable def impl_copyScene_l0 (a0 : TScene) : ((Int) × (List TNode)) → Option (((Int) × (List TNode)) ⊕ ((List TNode))) := fun (x3, x4) =>
  cnd (ile (List.length a0.nodes : Int) x3) (
   some (.inr x4)) (
   bnd (idx a0.nodes x3) fun v5 =>
   bnd (impl_copyNode v5) fun v6 =>
   chkP ((List.length x4 + 1) * 328 ≤ 17592186044416) (
   nam ((x4 ++ [v6]) : List TNode) fun l7 =>
   some (.inl ((IntKind.i64.wrap (x3 + 1)), l7))))
noncomputable def impl_copyScene_l0_S (a0 : TScene) : ((Int) × (List TNode)) → St := fun (x3, x4) => ⟨[(2, AV.optr 0 0 1), (3, AV.optr 1 0 1), (7, AV.fsl (List.map eNode a0.nodes)), (8, AV.int .i64 (List.length a0.nodes : Int)), (9, AV.int .i64 x3)], [(0, Ob.box [AV.nilsl]), (1, Ob.box [AV.osl 2 0 (List.length x4) (List.length x4)]), (2, Ob.arr 31 (List.map eNode x4) false)], 3⟩
noncomputable def impl_copyScene_l0_X (a0 : TScene) : ((List TNode)) → Ex × St := fun y8 => ((.exit 0), ⟨[(2, AV.optr 0 0 1), (3, AV.optr 1 0 1)], [(0, Ob.box [AV.nilsl]), (1, Ob.box [AV.osl 2 0 (List.length y8) (List.length y8)]), (2, Ob.arr 31 (List.map eNode y8) false)], 3⟩)
noncomputable def impl_copyScene (a0 : TScene) : Option ((List TNode)) :=
  bnd (loopI (impl_copyScene_l0 a0) (0, [])) fun y8 =>
  some y8
noncomputable def impl_copyScene_e (q : (TScene)) : List AV × List Ob := ([AV.agg [AV.fsl (List.map eNode q.nodes)]], [])
noncomputable def impl_copyScene_v (q : (TScene)) (r : (List TNode)) : AV × List Ob := (AV.agg [AV.osl 0 0 (List.length r) (List.length r)], [Ob.arr 31 (List.map eNode r) false])
noncomputable def impl_copyScene_x : List AV → List Ob → Option (AV × List Ob) := xOf impl_copyScene_e (fun q => impl_copyScene q) impl_copyScene_v
theorem impl_copyScene_i : ∀ a b, impl_copyScene_e a = impl_copyScene_e b → a = b := by rintro ⟨x0⟩ ⟨y0⟩ h; simp [impl_copyScene_e] at h; simp [h]
@[simp] theorem impl_copyScene_k (z0 : List TNode) : impl_copyScene_x [AV.agg [AV.fsl (List.map eNode z0)]] [] = mapR (impl_copyScene ⟨z0⟩) (fun r => (AV.agg [AV.osl 0 0 (List.length r) (List.length r)], [Ob.arr 31 (List.map eNode r) false])) :=
  xOf_eq impl_copyScene_i ⟨z0⟩
/-! impl_inRange: function 95 -/
noncomputable def impl_inRange (a0 : Int) (a1 : Int) (a2 : Int) : Option ((Bool)) :=
  cnd (ile a1 a0) (
   some (ile a0 a2)) (
   some false)
noncomputable def impl_inRange_e (q : (Int) × (Int) × (Int)) : List AV × List Ob := ([AV.int .i64 q.1, AV.int .i64 q.2.1, AV.int .i64 q.2.2], [])
noncomputable def impl_inRange_v (q : (Int) × (Int) × (Int)) (r : (Bool)) : AV × List Ob := (AV.bool r, [])
noncomputable def impl_inRange_x : List AV → List Ob → Option (AV × List Ob) := xOf impl_inRange_e (fun q => impl_inRange q.1 q.2.1 q.2.2) impl_inRange_v
theorem impl_inRange_i : ∀ a b, impl_inRange_e a = impl_inRange_e b → a = b := by rintro ⟨x0, x1, x2⟩ ⟨y0, y1, y2⟩ h; simp [impl_inRange_e] at h; simp [h]
@[simp] theorem impl_inRange_k (z0 : Int) (z1 : Int) (z2 : Int) : impl_inRange_x [AV.int .i64 z0, AV.int .i64 z1, AV.int .i64 z2] [] = mapR (impl_inRange z0 z1 z2) (fun r => (AV.bool r, [])) :=
  xOf_eq impl_inRange_i (z0, z1, z2)
/-! impl_isFar: function 217 -/
noncomputable def impl_isFar (a0 : Int) : Option ((Bool)) :=
  bnd (impl_inRange a0 (-8388608) 8388608) fun v1 =>
  some v1
noncomputable def impl_isFar_e (q : (Int)) : List AV × List Ob := ([AV.int .i64 q], [])
noncomputable def impl_isFar_v (q : (Int)) (r : (Bool)) : AV × List Ob := (AV.bool r, [])
noncomputable def impl_isFar_x : List AV → List Ob → Option (AV × List Ob) := xOf impl_isFar_e (fun q => impl_isFar q) impl_isFar_v
theorem impl_isFar_i : ∀ a b, impl_isFar_e a = impl_isFar_e b → a = b := by rintro x0 y0 h; simp [impl_isFar_e] at h; simp [h]
@[simp] theorem impl_isFar_k (z0 : Int) : impl_isFar_x [AV.int .i64 z0] [] = mapR (impl_isFar z0) (fun r => (AV.bool r, [])) :=
  xOf_eq impl_isFar_i z0
/-! impl_MatOk: function 175 -/
noncomputable def impl_MatOk_l0 (a0 : TMat) : ((Int)) → Option (((Int)) ⊕ ((Unit) ⊕ (Unit))) := fun x2 =>
  cnd (ile 4 x2) (
   some (.inr (.inl ()))) (
   bnd (idx [a0.a, a0.b, a0.c, a0.d] x2) fun v3 =>
   bnd (impl_inRange v3 (-1048576) 1048576) fun v4 =>
   cnd v4 (
    some (.inl (IntKind.i64.wrap (x2 + 1)))) (
    some (.inr (.inr ()))))
noncomputable def impl_MatOk_l0_S (a0 : TMat) : ((Int)) → St := fun x2 => ⟨[(1, AV.optr 0 0 6), (13, AV.agg [AV.int .i64 a0.a, AV.int .i64 a0.b, AV.int .i64 a0.c, AV.int .i64 a0.d]), (14, AV.int .i64 x2)], [(0, Ob.box [AV.int .i64 a0.a, AV.int .i64 a0.b, AV.int .i64 a0.c, AV.int .i64 a0.d, AV.int .i64 a0.e, AV.int .i64 a0.f])], 1⟩
noncomputable def impl_MatOk_l0_X (a0 : TMat) : ((Unit) ⊕ (Unit)) → Ex × St := fun q => match q with
  | .inl _ => ((.exit 0), ⟨[(1, AV.optr 0 0 6)], [(0, Ob.box [AV.int .i64 a0.a, AV.int .i64 a0.b, AV.int .i64 a0.c, AV.int .i64 a0.d, AV.int .i64 a0.e, AV.int .i64 a0.f])], 1⟩)
  | .inr _ => (.ret, ⟨[(2, AV.bool false)], [], 0⟩)
noncomputable def impl_MatOk (a0 : TMat) : Option ((Bool)) :=
  bnd (loopI (impl_MatOk_l0 a0) 0) fun q => match q with
  | .inl () =>
   bnd (impl_isFar a0.e) fun v5 =>
   cnd v5 (
    bnd (impl_isFar a0.f) fun v6 =>
    some v6) (
    some false)
  | .inr () =>
   some false
noncomputable def impl_MatOk_e (q : (TMat)) : List AV × List Ob := ([AV.agg [AV.int .i64 q.a, AV.int .i64 q.b, AV.int .i64 q.c, AV.int .i64 q.d, AV.int .i64 q.e, AV.int .i64 q.f]], [])
noncomputable def impl_MatOk_v (q : (TMat)) (r : (Bool)) : AV × List Ob := (AV.bool r, [])
noncomputable def impl_MatOk_x : List AV → List Ob → Option (AV × List Ob) := xOf impl_MatOk_e (fun q => impl_MatOk q) impl_MatOk_v
theorem impl_MatOk_i : ∀ a b, impl_MatOk_e a = impl_MatOk_e b → a = b := by rintro ⟨x0, x1, x2, x3, x4, x5⟩ ⟨y0, y1, y2, y3, y4, y5⟩ h; simp [impl_MatOk_e] at h; simp [h]
@[simp] theorem impl_MatOk_k (z0 : Int) (z1 : Int) (z2 : Int) (z3 : Int) (z4 : Int) (z5 : Int) : impl_MatOk_x [AV.agg [AV.int .i64 z0, AV.int .i64 z1, AV.int .i64 z2, AV.int .i64 z3, AV.int .i64 z4, AV.int .i64 z5]] [] = mapR (impl_MatOk ⟨z0, z1, z2, z3, z4, z5⟩) (fun r => (AV.bool r, [])) :=
  xOf_eq impl_MatOk_i ⟨z0, z1, z2, z3, z4, z5⟩
/-! impl_PointOk: function 220 -/
noncomputable def impl_PointOk (a0 : TPoint) : Option ((Bool)) :=
  bnd (impl_isFar a0.x) fun v1 =>
  cnd v1 (
   bnd (impl_isFar a0.y) fun v2 =>
   some v2) (
   some false)
noncomputable def impl_PointOk_e (q : (TPoint)) : List AV × List Ob := ([AV.agg [AV.int .i64 q.x, AV.int .i64 q.y]], [])
noncomputable def impl_PointOk_v (q : (TPoint)) (r : (Bool)) : AV × List Ob := (AV.bool r, [])
noncomputable def impl_PointOk_x : List AV → List Ob → Option (AV × List Ob) := xOf impl_PointOk_e (fun q => impl_PointOk q) impl_PointOk_v
theorem impl_PointOk_i : ∀ a b, impl_PointOk_e a = impl_PointOk_e b → a = b := by rintro ⟨x0, x1⟩ ⟨y0, y1⟩ h; simp [impl_PointOk_e] at h; simp [h]
@[simp] theorem impl_PointOk_k (z0 : Int) (z1 : Int) : impl_PointOk_x [AV.agg [AV.int .i64 z0, AV.int .i64 z1]] [] = mapR (impl_PointOk ⟨z0, z1⟩) (fun r => (AV.bool r, [])) :=
  xOf_eq impl_PointOk_i ⟨z0, z1⟩
/-! impl_pointsOk: function 218 -/
noncomputable def impl_pointsOk_l0 (a0 : List TPoint) : ((Int)) → Option (((Int)) ⊕ ((Unit) ⊕ (Unit))) := fun x3 =>
  cnd (ile (List.length a0 : Int) x3) (
   some (.inr (.inl ()))) (
   bnd (idx a0 x3) fun v4 =>
   bnd (impl_PointOk v4) fun v5 =>
   cnd v5 (
    some (.inl (IntKind.i64.wrap (x3 + 1)))) (
    some (.inr (.inr ()))))
noncomputable def impl_pointsOk_l0_S (a0 : List TPoint) : ((Int)) → St := fun x3 => ⟨[(5, AV.fsl (List.map ePoint a0)), (6, AV.int .i64 (List.length a0 : Int)), (7, AV.int .i64 x3)], [], 0⟩
noncomputable def impl_pointsOk_l0_X (a0 : List TPoint) : ((Unit) ⊕ (Unit)) → Ex × St := fun q => match q with
  | .inl _ => ((.exit 0), ⟨[], [], 0⟩)
  | .inr _ => (.ret, ⟨[(2, AV.bool false)], [], 0⟩)
noncomputable def impl_pointsOk (a0 : List TPoint) : Option ((Bool)) :=
  bnd (loopI (impl_pointsOk_l0 a0) 0) fun q => match q with
  | .inl () =>
   some true
  | .inr () =>
   some false
noncomputable def impl_pointsOk_e (q : (List TPoint)) : List AV × List Ob := ([AV.fsl (List.map ePoint q)], [])
noncomputable def impl_pointsOk_v (q : (List TPoint)) (r : (Bool)) : AV × List Ob := (AV.bool r, [])
noncomputable def impl_pointsOk_x : List AV → List Ob → Option (AV × List Ob) := xOf impl_pointsOk_e (fun q => impl_pointsOk q) impl_pointsOk_v
theorem impl_pointsOk_i : ∀ a b, impl_pointsOk_e a = impl_pointsOk_e b → a = b := by rintro x0 y0 h; simp [impl_pointsOk_e] at h; simp [h]
@[simp] theorem impl_pointsOk_k (z0 : List TPoint) : impl_pointsOk_x [AV.fsl (List.map ePoint z0)] [] = mapR (impl_pointsOk z0) (fun r => (AV.bool r, [])) :=
  xOf_eq impl_pointsOk_i z0
/-! impl_NeedOf: function 219 -/
noncomputable def impl_NeedOf (a0 : Int) : Option ((Int)) :=
  cnd (ieq a0 1) (
   some 1) (
   cnd (ieq a0 2) (
    some 1) (
    cnd (ieq a0 3) (
     some 2) (
     cnd (ieq a0 4) (
      some 3) (
      cnd (ieq a0 5) (
       some 0) (
       some (-1))))))
noncomputable def impl_NeedOf_e (q : (Int)) : List AV × List Ob := ([AV.int .i64 q], [])
noncomputable def impl_NeedOf_v (q : (Int)) (r : (Int)) : AV × List Ob := (AV.int .i64 r, [])
noncomputable def impl_NeedOf_x : List AV → List Ob → Option (AV × List Ob) := xOf impl_NeedOf_e (fun q => impl_NeedOf q) impl_NeedOf_v
theorem impl_NeedOf_i : ∀ a b, impl_NeedOf_e a = impl_NeedOf_e b → a = b := by rintro x0 y0 h; simp [impl_NeedOf_e] at h; simp [h]
@[simp] theorem impl_NeedOf_k (z0 : Int) : impl_NeedOf_x [AV.int .i64 z0] [] = mapR (impl_NeedOf z0) (fun r => (AV.int .i64 r, [])) :=
  xOf_eq impl_NeedOf_i z0
/-! impl_PathOk: function 176 -/
noncomputable def impl_PathOk_l0 (a0 : TPath) : ((Int) × (Int)) → Option (((Int) × (Int)) ⊕ (((Int)) ⊕ (Unit))) := fun (x4, x5) =>
  cnd (ile (List.length a0.verbs : Int) x5) (
   some (.inr (.inl x4))) (
   bnd (idx a0.verbs x5) fun v6 =>
   bnd (impl_NeedOf v6) fun v7 =>
   cnd (ieq x5 0) (
    cnd (ile 0 v7) (
     cnd (ieq v6 1) (
      some (.inl ((IntKind.i64.wrap (x4 + v7)), (IntKind.i64.wrap (x5 + 1))))) (
      some (.inr (.inr ())))) (
     some (.inr (.inr ())))) (
    bnd (idx a0.verbs (IntKind.i64.wrap (x5 - 1))) fun v8 =>
    cnd (ile 0 v7) (
     cnd (ieq v8 5) (
      cnd (ieq v6 1) (
       some (.inl ((IntKind.i64.wrap (x4 + v7)), (IntKind.i64.wrap (x5 + 1))))) (
       some (.inr (.inr ())))) (
      some (.inl ((IntKind.i64.wrap (x4 + v7)), (IntKind.i64.wrap (x5 + 1)))))) (
     some (.inr (.inr ())))))
noncomputable def impl_PathOk_l0_S (a0 : TPath) : ((Int) × (Int)) → St := fun (x4, x5) => ⟨[(1, AV.optr 0 0 2), (3, AV.int .i64 x4), (25, AV.fsl (List.map (AV.int .i64) a0.verbs)), (26, AV.int .i64 (List.length a0.verbs : Int)), (27, AV.int .i64 x5)], [(0, Ob.box [AV.fsl (List.map (AV.int .i64) a0.verbs), AV.fsl (List.map ePoint a0.points)])], 1⟩
noncomputable def impl_PathOk_l0_X (a0 : TPath) : (((Int)) ⊕ (Unit)) → Ex × St := fun q => match q with
  | .inl y9 => ((.exit 0), ⟨[(1, AV.optr 0 0 2), (3, AV.int .i64 y9)], [(0, Ob.box [AV.fsl (List.map (AV.int .i64) a0.verbs), AV.fsl (List.map ePoint a0.points)])], 1⟩)
  | .inr _ => (.ret, ⟨[(2, AV.bool false)], [], 0⟩)
noncomputable def impl_PathOk (a0 : TPath) : Option ((Bool)) :=
  cnd (ile (List.length a0.points : Int) 24) (
   cnd (ile (List.length a0.verbs : Int) 24) (
    bnd (impl_pointsOk a0.points) fun v1 =>
    cnd v1 (
     bnd (loopI (impl_PathOk_l0 a0) (0, 0)) fun q => match q with
     | .inl y9 =>
      some (ieq y9 (List.length a0.points : Int))
     | .inr () =>
      some false) (
     some false)) (
    some false)) (
   some false)
noncomputable def impl_PathOk_e (q : (TPath)) : List AV × List Ob := ([AV.agg [AV.fsl (List.map (AV.int .i64) q.verbs), AV.fsl (List.map ePoint q.points)]], [])
noncomputable def impl_PathOk_v (q : (TPath)) (r : (Bool)) : AV × List Ob := (AV.bool r, [])
noncomputable def impl_PathOk_x : List AV → List Ob → Option (AV × List Ob) := xOf impl_PathOk_e (fun q => impl_PathOk q) impl_PathOk_v
theorem impl_PathOk_i : ∀ a b, impl_PathOk_e a = impl_PathOk_e b → a = b := by rintro ⟨x0, x1⟩ ⟨y0, y1⟩ h; simp [impl_PathOk_e] at h; simp [h]
@[simp] theorem impl_PathOk_k (z0 : List Int) (z1 : List TPoint) : impl_PathOk_x [AV.agg [AV.fsl (List.map (AV.int .i64) z0), AV.fsl (List.map ePoint z1)]] [] = mapR (impl_PathOk ⟨z0, z1⟩) (fun r => (AV.bool r, [])) :=
  xOf_eq impl_PathOk_i ⟨z0, z1⟩
/-! impl_DashOk: function 177 -/
noncomputable def impl_DashOk_l0 (a0 : List Int) : ((Int)) → Option (((Int)) ⊕ ((Unit) ⊕ (Unit))) := fun x3 =>
  cnd (ile (List.length a0 : Int) x3) (
   some (.inr (.inl ()))) (
   bnd (idx a0 x3) fun v4 =>
   bnd (impl_inRange v4 1 20000) fun v5 =>
   cnd v5 (
    some (.inl (IntKind.i64.wrap (x3 + 1)))) (
    some (.inr (.inr ()))))
noncomputable def impl_DashOk_l0_S (a0 : List Int) : ((Int)) → St := fun x3 => ⟨[(0, AV.fsl (List.map (AV.int .i64) a0)), (5, AV.fsl (List.map (AV.int .i64) a0)), (6, AV.int .i64 (List.length a0 : Int)), (7, AV.int .i64 x3)], [], 0⟩
noncomputable def impl_DashOk_l0_X (a0 : List Int) : ((Unit) ⊕ (Unit)) → Ex × St := fun q => match q with
  | .inl _ => ((.exit 0), ⟨[(0, AV.fsl (List.map (AV.int .i64) a0))], [], 0⟩)
  | .inr _ => (.ret, ⟨[(2, AV.bool false)], [], 0⟩)
noncomputable def impl_DashOk (a0 : List Int) : Option ((Bool)) :=
  bnd (loopI (impl_DashOk_l0 a0) 0) fun q => match q with
  | .inl () =>
   cnd (ieq (Int.tmod (List.length a0 : Int) 2) 0) (
    some (ile (List.length a0 : Int) 4)) (
    some false)
  | .inr () =>
   some false
noncomputable def impl_DashOk_e (q : (List Int)) : List AV × List Ob := ([AV.fsl (List.map (AV.int .i64) q)], [])
noncomputable def impl_DashOk_v (q : (List Int)) (r : (Bool)) : AV × List Ob := (AV.bool r, [])
noncomputable def impl_DashOk_x : List AV → List Ob → Option (AV × List Ob) := xOf impl_DashOk_e (fun q => impl_DashOk q) impl_DashOk_v
theorem impl_DashOk_i : ∀ a b, impl_DashOk_e a = impl_DashOk_e b → a = b := by rintro x0 y0 h; simp [impl_DashOk_e] at h; simp [h]
@[simp] theorem impl_DashOk_k (z0 : List Int) : impl_DashOk_x [AV.fsl (List.map (AV.int .i64) z0)] [] = mapR (impl_DashOk z0) (fun r => (AV.bool r, [])) :=
  xOf_eq impl_DashOk_i z0
/-! impl_isMode: function 178 -/
noncomputable def impl_isMode (a0 : Int) : Option ((Bool)) :=
  bnd (impl_inRange a0 1 5) fun v1 =>
  some v1
noncomputable def impl_isMode_e (q : (Int)) : List AV × List Ob := ([AV.int .i64 q], [])
noncomputable def impl_isMode_v (q : (Int)) (r : (Bool)) : AV × List Ob := (AV.bool r, [])
noncomputable def impl_isMode_x : List AV → List Ob → Option (AV × List Ob) := xOf impl_isMode_e (fun q => impl_isMode q) impl_isMode_v
theorem impl_isMode_i : ∀ a b, impl_isMode_e a = impl_isMode_e b → a = b := by rintro x0 y0 h; simp [impl_isMode_e] at h; simp [h]
@[simp] theorem impl_isMode_k (z0 : Int) : impl_isMode_x [AV.int .i64 z0] [] = mapR (impl_isMode z0) (fun r => (AV.bool r, [])) :=
  xOf_eq impl_isMode_i z0
/-! impl_isByte: function 179 -/
noncomputable def impl_isByte (a0 : Int) : Option ((Bool)) :=
  bnd (impl_inRange a0 0 255) fun v1 =>
  some v1
noncomputable def impl_isByte_e (q : (Int)) : List AV × List Ob := ([AV.int .i64 q], [])
noncomputable def impl_isByte_v (q : (Int)) (r : (Bool)) : AV × List Ob := (AV.bool r, [])
noncomputable def impl_isByte_x : List AV → List Ob → Option (AV × List Ob) := xOf impl_isByte_e (fun q => impl_isByte q) impl_isByte_v
theorem impl_isByte_i : ∀ a b, impl_isByte_e a = impl_isByte_e b → a = b := by rintro x0 y0 h; simp [impl_isByte_e] at h; simp [h]
@[simp] theorem impl_isByte_k (z0 : Int) : impl_isByte_x [AV.int .i64 z0] [] = mapR (impl_isByte z0) (fun r => (AV.bool r, [])) :=
  xOf_eq impl_isByte_i z0
/-! impl_Path_isNone: function 180 -/
noncomputable def impl_Path_isNone (a0 : TPath) : Option ((Bool)) :=
  cnd (ieq (List.length a0.verbs : Int) 0) (
   some (ieq (List.length a0.points : Int) 0)) (
   some false)
noncomputable def impl_Path_isNone_e (q : (TPath)) : List AV × List Ob := ([AV.agg [AV.fsl (List.map (AV.int .i64) q.verbs), AV.fsl (List.map ePoint q.points)]], [])
noncomputable def impl_Path_isNone_v (q : (TPath)) (r : (Bool)) : AV × List Ob := (AV.bool r, [])
noncomputable def impl_Path_isNone_x : List AV → List Ob → Option (AV × List Ob) := xOf impl_Path_isNone_e (fun q => impl_Path_isNone q) impl_Path_isNone_v
theorem impl_Path_isNone_i : ∀ a b, impl_Path_isNone_e a = impl_Path_isNone_e b → a = b := by rintro ⟨x0, x1⟩ ⟨y0, y1⟩ h; simp [impl_Path_isNone_e] at h; simp [h]
@[simp] theorem impl_Path_isNone_k (z0 : List Int) (z1 : List TPoint) : impl_Path_isNone_x [AV.agg [AV.fsl (List.map (AV.int .i64) z0), AV.fsl (List.map ePoint z1)]] [] = mapR (impl_Path_isNone ⟨z0, z1⟩) (fun r => (AV.bool r, [])) :=
  xOf_eq impl_Path_isNone_i ⟨z0, z1⟩
/-! impl_ColorOk: function 203 -/
noncomputable def impl_ColorOk (a0 : TColor) : Option ((Bool)) :=
  bnd (impl_isByte a0.r) fun v1 =>
  cnd v1 (
   bnd (impl_isByte a0.g) fun v2 =>
   cnd v2 (
    bnd (impl_isByte a0.b) fun v3 =>
    cnd v3 (
     bnd (impl_isByte a0.a) fun v4 =>
     some v4) (
     some false)) (
    some false)) (
   some false)
noncomputable def impl_ColorOk_e (q : (TColor)) : List AV × List Ob := ([AV.agg [AV.int .i64 q.r, AV.int .i64 q.g, AV.int .i64 q.b, AV.int .i64 q.a]], [])
noncomputable def impl_ColorOk_v (q : (TColor)) (r : (Bool)) : AV × List Ob := (AV.bool r, [])
noncomputable def impl_ColorOk_x : List AV → List Ob → Option (AV × List Ob) := xOf impl_ColorOk_e (fun q => impl_ColorOk q) impl_ColorOk_v
theorem impl_ColorOk_i : ∀ a b, impl_ColorOk_e a = impl_ColorOk_e b → a = b := by rintro ⟨x0, x1, x2, x3⟩ ⟨y0, y1, y2, y3⟩ h; simp [impl_ColorOk_e] at h; simp [h]
@[simp] theorem impl_ColorOk_k (z0 : Int) (z1 : Int) (z2 : Int) (z3 : Int) : impl_ColorOk_x [AV.agg [AV.int .i64 z0, AV.int .i64 z1, AV.int .i64 z2, AV.int .i64 z3]] [] = mapR (impl_ColorOk ⟨z0, z1, z2, z3⟩) (fun r => (AV.bool r, [])) :=
  xOf_eq impl_ColorOk_i ⟨z0, z1, z2, z3⟩
/-! impl_PaintOk: function 181 -/
noncomputable def impl_PaintOk (a0 : TPaint) : Option ((Bool)) :=
  cnd (ieq a0.kind 1) (
   bnd (impl_ColorOk a0.first) fun v1 =>
   cnd v1 (
    some (andB (decide (a0.kind = 1)) (andB (decide (a0.first.r = a0.first.r)) (andB (decide (a0.first.g = a0.first.g)) (andB (decide (a0.first.b = a0.first.b)) (andB (decide (a0.first.a = a0.first.a)) (andB (decide (a0.last.r = 0)) (andB (decide (a0.last.g = 0)) (andB (decide (a0.last.b = 0)) (andB (decide (a0.last.a = 0)) (andB (decide (a0.from_.x = 0)) (andB (decide (a0.from_.y = 0)) (andB (decide (a0.to.x = 0)) (andB (decide (a0.to.y = 0)) true)))))))))))))) (
    some false)) (
   cnd (ieq a0.kind 2) (
    bnd (impl_ColorOk a0.first) fun v2 =>
    cnd v2 (
     bnd (impl_ColorOk a0.last) fun v3 =>
     cnd v3 (
      bnd (impl_PointOk a0.from_) fun v4 =>
      cnd v4 (
       bnd (impl_PointOk a0.to) fun v5 =>
       cnd v5 (
        some (!(andB (decide (a0.from_.x = a0.to.x)) (andB (decide (a0.from_.y = a0.to.y)) true)))) (
        some false)) (
       some false)) (
      some false)) (
     some false)) (
    some false))
noncomputable def impl_PaintOk_e (q : (TPaint)) : List AV × List Ob := ([AV.agg [AV.int .i64 q.kind, AV.int .i64 q.first.r, AV.int .i64 q.first.g, AV.int .i64 q.first.b, AV.int .i64 q.first.a, AV.int .i64 q.last.r, AV.int .i64 q.last.g, AV.int .i64 q.last.b, AV.int .i64 q.last.a, AV.int .i64 q.from_.x, AV.int .i64 q.from_.y, AV.int .i64 q.to.x, AV.int .i64 q.to.y]], [])
noncomputable def impl_PaintOk_v (q : (TPaint)) (r : (Bool)) : AV × List Ob := (AV.bool r, [])
noncomputable def impl_PaintOk_x : List AV → List Ob → Option (AV × List Ob) := xOf impl_PaintOk_e (fun q => impl_PaintOk q) impl_PaintOk_v
theorem impl_PaintOk_i : ∀ a b, impl_PaintOk_e a = impl_PaintOk_e b → a = b := by rintro ⟨x0, ⟨x1, x2, x3, x4⟩, ⟨x5, x6, x7, x8⟩, ⟨x9, x10⟩, ⟨x11, x12⟩⟩ ⟨y0, ⟨y1, y2, y3, y4⟩, ⟨y5, y6, y7, y8⟩, ⟨y9, y10⟩, ⟨y11, y12⟩⟩ h; simp [impl_PaintOk_e] at h; simp [h]
@[simp] theorem impl_PaintOk_k (z0 : Int) (z1 : Int) (z2 : Int) (z3 : Int) (z4 : Int) (z5 : Int) (z6 : Int) (z7 : Int) (z8 : Int) (z9 : Int) (z10 : Int) (z11 : Int) (z12 : Int) : impl_PaintOk_x [AV.agg [AV.int .i64 z0, AV.int .i64 z1, AV.int .i64 z2, AV.int .i64 z3, AV.int .i64 z4, AV.int .i64 z5, AV.int .i64 z6, AV.int .i64 z7, AV.int .i64 z8, AV.int .i64 z9, AV.int .i64 z10, AV.int .i64 z11, AV.int .i64 z12]] [] = mapR (impl_PaintOk ⟨z0, ⟨z1, z2, z3, z4⟩, ⟨z5, z6, z7, z8⟩, ⟨z9, z10⟩, ⟨z11, z12⟩⟩) (fun r => (AV.bool r, [])) :=
  xOf_eq impl_PaintOk_i ⟨z0, ⟨z1, z2, z3, z4⟩, ⟨z5, z6, z7, z8⟩, ⟨z9, z10⟩, ⟨z11, z12⟩⟩
/-! impl_NodeOk: function 112 -/
noncomputable def impl_NodeOk (a0 : TNode) : Option ((Bool)) :=
  bnd (impl_inRange a0.id 1 99) fun v1 =>
  cnd v1 (
   bnd (impl_inRange a0.parent 0 99) fun v2 =>
   cnd v2 (
    cnd (ieq a0.id a0.parent) (
     some false) (
     bnd (impl_MatOk a0.mat) fun v3 =>
     cnd v3 (
      bnd (impl_PathOk a0.path) fun v4 =>
      cnd v4 (
       bnd (impl_PathOk a0.clip) fun v5 =>
       cnd v5 (
        bnd (impl_inRange a0.width 0 2048) fun v6 =>
        cnd v6 (
         bnd (impl_DashOk a0.dashes) fun v7 =>
         cnd v7 (
          bnd (impl_isMode a0.mode) fun v8 =>
          cnd v8 (
           bnd (impl_isByte a0.fade) fun v9 =>
           cnd v9 (
            cnd a0.group (
             cnd (andB (decide (a0.paint.kind = 0)) (andB (decide (a0.paint.first.r = 0)) (andB (decide (a0.paint.first.g = 0)) (andB (decide (a0.paint.first.b = 0)) (andB (decide (a0.paint.first.a = 0)) (andB (decide (a0.paint.last.r = 0)) (andB (decide (a0.paint.last.g = 0)) (andB (decide (a0.paint.last.b = 0)) (andB (decide (a0.paint.last.a = 0)) (andB (decide (a0.paint.from_.x = 0)) (andB (decide (a0.paint.from_.y = 0)) (andB (decide (a0.paint.to.x = 0)) (andB (decide (a0.paint.to.y = 0)) true))))))))))))) (
              bnd (impl_Path_isNone a0.path) fun v10 =>
              cnd v10 (
               cnd (ieq a0.width 0) (
                cnd (ieq (List.length a0.dashes : Int) 0) (
                 some (!a0.even)) (
                 some false)) (
                some false)) (
               some false)) (
              some false)) (
             bnd (impl_PaintOk a0.paint) fun v11 =>
             some v11)) (
            some false)) (
           some false)) (
          some false)) (
         some false)) (
        some false)) (
       some false)) (
      some false))) (
    some false)) (
   some false)
noncomputable def impl_NodeOk_e (q : (TNode)) : List AV × List Ob := ([AV.agg [AV.int .i64 q.id, AV.int .i64 q.parent, AV.bool q.group, AV.int .i64 q.mat.a, AV.int .i64 q.mat.b, AV.int .i64 q.mat.c, AV.int .i64 q.mat.d, AV.int .i64 q.mat.e, AV.int .i64 q.mat.f, AV.fsl (List.map (AV.int .i64) q.path.verbs), AV.fsl (List.map ePoint q.path.points), AV.bool q.even, AV.int .i64 q.width, AV.fsl (List.map (AV.int .i64) q.dashes), AV.int .i64 q.paint.kind, AV.int .i64 q.paint.first.r, AV.int .i64 q.paint.first.g, AV.int .i64 q.paint.first.b, AV.int .i64 q.paint.first.a, AV.int .i64 q.paint.last.r, AV.int .i64 q.paint.last.g, AV.int .i64 q.paint.last.b, AV.int .i64 q.paint.last.a, AV.int .i64 q.paint.from_.x, AV.int .i64 q.paint.from_.y, AV.int .i64 q.paint.to.x, AV.int .i64 q.paint.to.y, AV.int .i64 q.mode, AV.int .i64 q.fade, AV.fsl (List.map (AV.int .i64) q.clip.verbs), AV.fsl (List.map ePoint q.clip.points)]], [])
noncomputable def impl_NodeOk_v (q : (TNode)) (r : (Bool)) : AV × List Ob := (AV.bool r, [])
noncomputable def impl_NodeOk_x : List AV → List Ob → Option (AV × List Ob) := xOf impl_NodeOk_e (fun q => impl_NodeOk q) impl_NodeOk_v
theorem impl_NodeOk_i : ∀ a b, impl_NodeOk_e a = impl_NodeOk_e b → a = b := by rintro ⟨x0, x1, x2, ⟨x3, x4, x5, x6, x7, x8⟩, ⟨x9, x10⟩, x11, x12, x13, ⟨x14, ⟨x15, x16, x17, x18⟩, ⟨x19, x20, x21, x22⟩, ⟨x23, x24⟩, ⟨x25, x26⟩⟩, x27, x28, ⟨x29, x30⟩⟩ ⟨y0, y1, y2, ⟨y3, y4, y5, y6, y7, y8⟩, ⟨y9, y10⟩, y11, y12, y13, ⟨y14, ⟨y15, y16, y17, y18⟩, ⟨y19, y20, y21, y22⟩, ⟨y23, y24⟩, ⟨y25, y26⟩⟩, y27, y28, ⟨y29, y30⟩⟩ h; simp [impl_NodeOk_e] at h; simp [h]
@[simp] theorem impl_NodeOk_k (z0 : Int) (z1 : Int) (z2 : Bool) (z3 : Int) (z4 : Int) (z5 : Int) (z6 : Int) (z7 : Int) (z8 : Int) (z9 : List Int) (z10 : List TPoint) (z11 : Bool) (z12 : Int) (z13 : List Int) (z14 : Int) (z15 : Int) (z16 : Int) (z17 : Int) (z18 : Int) (z19 : Int) (z20 : Int) (z21 : Int) (z22 : Int) (z23 : Int) (z24 : Int) (z25 : Int) (z26 : Int) (z27 : Int) (z28 : Int) (z29 : List Int) (z30 : List TPoint) : impl_NodeOk_x [AV.agg [AV.int .i64 z0, AV.int .i64 z1, AV.bool z2, AV.int .i64 z3, AV.int .i64 z4, AV.int .i64 z5, AV.int .i64 z6, AV.int .i64 z7, AV.int .i64 z8, AV.fsl (List.map (AV.int .i64) z9), AV.fsl (List.map ePoint z10), AV.bool z11, AV.int .i64 z12, AV.fsl (List.map (AV.int .i64) z13), AV.int .i64 z14, AV.int .i64 z15, AV.int .i64 z16, AV.int .i64 z17, AV.int .i64 z18, AV.int .i64 z19, AV.int .i64 z20, AV.int .i64 z21, AV.int .i64 z22, AV.int .i64 z23, AV.int .i64 z24, AV.int .i64 z25, AV.int .i64 z26, AV.int .i64 z27, AV.int .i64 z28, AV.fsl (List.map (AV.int .i64) z29), AV.fsl (List.map ePoint z30)]] [] = mapR (impl_NodeOk ⟨z0, z1, z2, ⟨z3, z4, z5, z6, z7, z8⟩, ⟨z9, z10⟩, z11, z12, z13, ⟨z14, ⟨z15, z16, z17, z18⟩, ⟨z19, z20, z21, z22⟩, ⟨z23, z24⟩, ⟨z25, z26⟩⟩, z27, z28, ⟨z29, z30⟩⟩) (fun r => (AV.bool r, [])) :=
  xOf_eq impl_NodeOk_i ⟨z0, z1, z2, ⟨z3, z4, z5, z6, z7, z8⟩, ⟨z9, z10⟩, z11, z12, z13, ⟨z14, ⟨z15, z16, z17, z18⟩, ⟨z19, z20, z21, z22⟩, ⟨z23, z24⟩, ⟨z25, z26⟩⟩, z27, z28, ⟨z29, z30⟩⟩
/-! impl_NodeAt_1: function 128 -/
noncomputable def impl_NodeAt_1 (a0 : TNode) (a1 : Int) : Option ((Bool)) :=
  some (ieq a0.id a1)
noncomputable def impl_NodeAt_1_e (q : (TNode) × (Int)) : List AV × List Ob := ([AV.agg [AV.int .i64 q.1.id, AV.int .i64 q.1.parent, AV.bool q.1.group, AV.int .i64 q.1.mat.a, AV.int .i64 q.1.mat.b, AV.int .i64 q.1.mat.c, AV.int .i64 q.1.mat.d, AV.int .i64 q.1.mat.e, AV.int .i64 q.1.mat.f, AV.fsl (List.map (AV.int .i64) q.1.path.verbs), AV.fsl (List.map ePoint q.1.path.points), AV.bool q.1.even, AV.int .i64 q.1.width, AV.fsl (List.map (AV.int .i64) q.1.dashes), AV.int .i64 q.1.paint.kind, AV.int .i64 q.1.paint.first.r, AV.int .i64 q.1.paint.first.g, AV.int .i64 q.1.paint.first.b, AV.int .i64 q.1.paint.first.a, AV.int .i64 q.1.paint.last.r, AV.int .i64 q.1.paint.last.g, AV.int .i64 q.1.paint.last.b, AV.int .i64 q.1.paint.last.a, AV.int .i64 q.1.paint.from_.x, AV.int .i64 q.1.paint.from_.y, AV.int .i64 q.1.paint.to.x, AV.int .i64 q.1.paint.to.y, AV.int .i64 q.1.mode, AV.int .i64 q.1.fade, AV.fsl (List.map (AV.int .i64) q.1.clip.verbs), AV.fsl (List.map ePoint q.1.clip.points)], AV.fptr [AV.int .i64 q.2] 0], [])
noncomputable def impl_NodeAt_1_v (q : (TNode) × (Int)) (r : (Bool)) : AV × List Ob := (AV.bool r, [])
noncomputable def impl_NodeAt_1_x : List AV → List Ob → Option (AV × List Ob) := xOf impl_NodeAt_1_e (fun q => impl_NodeAt_1 q.1 q.2) impl_NodeAt_1_v
theorem impl_NodeAt_1_i : ∀ a b, impl_NodeAt_1_e a = impl_NodeAt_1_e b → a = b := by rintro ⟨⟨x0, x1, x2, ⟨x3, x4, x5, x6, x7, x8⟩, ⟨x9, x10⟩, x11, x12, x13, ⟨x14, ⟨x15, x16, x17, x18⟩, ⟨x19, x20, x21, x22⟩, ⟨x23, x24⟩, ⟨x25, x26⟩⟩, x27, x28, ⟨x29, x30⟩⟩, x31⟩ ⟨⟨y0, y1, y2, ⟨y3, y4, y5, y6, y7, y8⟩, ⟨y9, y10⟩, y11, y12, y13, ⟨y14, ⟨y15, y16, y17, y18⟩, ⟨y19, y20, y21, y22⟩, ⟨y23, y24⟩, ⟨y25, y26⟩⟩, y27, y28, ⟨y29, y30⟩⟩, y31⟩ h; simp [impl_NodeAt_1_e] at h; simp [h]
@[simp] theorem impl_NodeAt_1_k (z0 : Int) (z1 : Int) (z2 : Bool) (z3 : Int) (z4 : Int) (z5 : Int) (z6 : Int) (z7 : Int) (z8 : Int) (z9 : List Int) (z10 : List TPoint) (z11 : Bool) (z12 : Int) (z13 : List Int) (z14 : Int) (z15 : Int) (z16 : Int) (z17 : Int) (z18 : Int) (z19 : Int) (z20 : Int) (z21 : Int) (z22 : Int) (z23 : Int) (z24 : Int) (z25 : Int) (z26 : Int) (z27 : Int) (z28 : Int) (z29 : List Int) (z30 : List TPoint) (z31 : Int) : impl_NodeAt_1_x [AV.agg [AV.int .i64 z0, AV.int .i64 z1, AV.bool z2, AV.int .i64 z3, AV.int .i64 z4, AV.int .i64 z5, AV.int .i64 z6, AV.int .i64 z7, AV.int .i64 z8, AV.fsl (List.map (AV.int .i64) z9), AV.fsl (List.map ePoint z10), AV.bool z11, AV.int .i64 z12, AV.fsl (List.map (AV.int .i64) z13), AV.int .i64 z14, AV.int .i64 z15, AV.int .i64 z16, AV.int .i64 z17, AV.int .i64 z18, AV.int .i64 z19, AV.int .i64 z20, AV.int .i64 z21, AV.int .i64 z22, AV.int .i64 z23, AV.int .i64 z24, AV.int .i64 z25, AV.int .i64 z26, AV.int .i64 z27, AV.int .i64 z28, AV.fsl (List.map (AV.int .i64) z29), AV.fsl (List.map ePoint z30)], AV.fptr [AV.int .i64 z31] 0] [] = mapR (impl_NodeAt_1 ⟨z0, z1, z2, ⟨z3, z4, z5, z6, z7, z8⟩, ⟨z9, z10⟩, z11, z12, z13, ⟨z14, ⟨z15, z16, z17, z18⟩, ⟨z19, z20, z21, z22⟩, ⟨z23, z24⟩, ⟨z25, z26⟩⟩, z27, z28, ⟨z29, z30⟩⟩ z31) (fun r => (AV.bool r, [])) :=
  xOf_eq impl_NodeAt_1_i (⟨z0, z1, z2, ⟨z3, z4, z5, z6, z7, z8⟩, ⟨z9, z10⟩, z11, z12, z13, ⟨z14, ⟨z15, z16, z17, z18⟩, ⟨z19, z20, z21, z22⟩, ⟨z23, z24⟩, ⟨z25, z26⟩⟩, z27, z28, ⟨z29, z30⟩⟩, z31)
/-! slices_IndexFunc_Node_NodeAt_1: function 127 -/
noncomputable def slices_IndexFunc_Node_NodeAt_1_l0 (a0 : List TNode) (a1 : Int) : ((Int)) → Option (((Int)) ⊕ ((Unit) ⊕ ((Int)))) := fun x3 =>
  cnd (ile (List.length a0 : Int) x3) (
   some (.inr (.inl ()))) (
   bnd (idx a0 x3) fun v4 =>
   bnd (impl_NodeAt_1 v4 a1) fun v5 =>
   cnd v5 (
    some (.inr (.inr x3))) (
    some (.inl (IntKind.i64.wrap (x3 + 1)))))
noncomputable def slices_IndexFunc_Node_NodeAt_1_l0_S (a0 : List TNode) (a1 : Int) : ((Int)) → St := fun x3 => ⟨[(0, AV.fsl (List.map eNode a0)), (1, AV.func (.func 128) [] [AV.fptr [AV.int .i64 a1] 0]), (7, AV.int .i64 (List.length a0 : Int)), (8, AV.int .i64 x3)], [], 0⟩
noncomputable def slices_IndexFunc_Node_NodeAt_1_l0_X (a0 : List TNode) (a1 : Int) : ((Unit) ⊕ ((Int))) → Ex × St := fun q => match q with
  | .inl _ => ((.exit 0), ⟨[], [], 0⟩)
  | .inr y6 => (.ret, ⟨[(4, AV.int .i64 y6)], [], 0⟩)
noncomputable def slices_IndexFunc_Node_NodeAt_1 (a0 : List TNode) (a1 : Int) : Option ((Int)) :=
  bnd (loopI (slices_IndexFunc_Node_NodeAt_1_l0 a0 a1) 0) fun q => match q with
  | .inl () =>
   some (-1)
  | .inr y6 =>
   some y6
noncomputable def slices_IndexFunc_Node_NodeAt_1_e (q : (List TNode) × (Int)) : List AV × List Ob := ([AV.fsl (List.map eNode q.1), AV.func (.func 128) [] [AV.fptr [AV.int .i64 q.2] 0]], [])
noncomputable def slices_IndexFunc_Node_NodeAt_1_v (q : (List TNode) × (Int)) (r : (Int)) : AV × List Ob := (AV.int .i64 r, [])
noncomputable def slices_IndexFunc_Node_NodeAt_1_x : List AV → List Ob → Option (AV × List Ob) := xOf slices_IndexFunc_Node_NodeAt_1_e (fun q => slices_IndexFunc_Node_NodeAt_1 q.1 q.2) slices_IndexFunc_Node_NodeAt_1_v
theorem slices_IndexFunc_Node_NodeAt_1_i : ∀ a b, slices_IndexFunc_Node_NodeAt_1_e a = slices_IndexFunc_Node_NodeAt_1_e b → a = b := by rintro ⟨x0, x1⟩ ⟨y0, y1⟩ h; simp [slices_IndexFunc_Node_NodeAt_1_e] at h; simp [h]
@[simp] theorem slices_IndexFunc_Node_NodeAt_1_k (z0 : List TNode) (z1 : Int) : slices_IndexFunc_Node_NodeAt_1_x [AV.fsl (List.map eNode z0), AV.func (.func 128) [] [AV.fptr [AV.int .i64 z1] 0]] [] = mapR (slices_IndexFunc_Node_NodeAt_1 z0 z1) (fun r => (AV.int .i64 r, [])) :=
  xOf_eq slices_IndexFunc_Node_NodeAt_1_i (z0, z1)
/-! impl_NodeAt: function 53 -/
noncomputable def impl_NodeAt (a0 : TScene) (a1 : Int) : Option ((Int)) :=
  bnd (slices_IndexFunc_Node_NodeAt_1 a0.nodes a1) fun v1 =>
  some v1
noncomputable def impl_NodeAt_e (q : (TScene) × (Int)) : List AV × List Ob := ([AV.agg [AV.fsl (List.map eNode q.1.nodes)], AV.int .i64 q.2], [])
noncomputable def impl_NodeAt_v (q : (TScene) × (Int)) (r : (Int)) : AV × List Ob := (AV.int .i64 r, [])
noncomputable def impl_NodeAt_x : List AV → List Ob → Option (AV × List Ob) := xOf impl_NodeAt_e (fun q => impl_NodeAt q.1 q.2) impl_NodeAt_v
theorem impl_NodeAt_i : ∀ a b, impl_NodeAt_e a = impl_NodeAt_e b → a = b := by rintro ⟨⟨x0⟩, x1⟩ ⟨⟨y0⟩, y1⟩ h; simp [impl_NodeAt_e] at h; simp [h]
@[simp] theorem impl_NodeAt_k (z0 : List TNode) (z1 : Int) : impl_NodeAt_x [AV.agg [AV.fsl (List.map eNode z0)], AV.int .i64 z1] [] = mapR (impl_NodeAt ⟨z0⟩ z1) (fun r => (AV.int .i64 r, [])) :=
  xOf_eq impl_NodeAt_i (⟨z0⟩, z1)
/-! impl_Scene_isParent: function 113 -/
noncomputable def impl_Scene_isParent (a0 : TScene) (a1 : Int) : Option ((Bool)) :=
  bnd (impl_NodeAt a0 a1) fun v1 =>
  cnd (ieq a1 0) (
   some true) (
   cnd (ile 0 v1) (
    bnd (idx a0.nodes v1) fun v2 =>
    some v2.group) (
    some false))
noncomputable def impl_Scene_isParent_e (q : (TScene) × (Int)) : List AV × List Ob := ([AV.fptr [AV.fsl (List.map eNode q.1.nodes)] 0, AV.int .i64 q.2], [])
noncomputable def impl_Scene_isParent_v (q : (TScene) × (Int)) (r : (Bool)) : AV × List Ob := (AV.bool r, [])
noncomputable def impl_Scene_isParent_x : List AV → List Ob → Option (AV × List Ob) := xOf impl_Scene_isParent_e (fun q => impl_Scene_isParent q.1 q.2) impl_Scene_isParent_v
theorem impl_Scene_isParent_i : ∀ a b, impl_Scene_isParent_e a = impl_Scene_isParent_e b → a = b := by rintro ⟨⟨x0⟩, x1⟩ ⟨⟨y0⟩, y1⟩ h; simp [impl_Scene_isParent_e] at h; simp [h]
@[simp] theorem impl_Scene_isParent_k (z0 : List TNode) (z1 : Int) : impl_Scene_isParent_x [AV.fptr [AV.fsl (List.map eNode z0)] 0, AV.int .i64 z1] [] = mapR (impl_Scene_isParent ⟨z0⟩ z1) (fun r => (AV.bool r, [])) :=
  xOf_eq impl_Scene_isParent_i (⟨z0⟩, z1)
/-! impl_DepthOf: function 114 -/
noncomputable def impl_DepthOf_l0 (a0 : TScene) : ((Int) × (Int)) → Option (((Int) × (Int)) ⊕ (((Int)) ⊕ (Unit))) := fun (x3, x4) =>
  cnd (ile x4 8) (
   bnd (impl_NodeAt a0 x3) fun v5 =>
   cnd (ile 0 v5) (
    bnd (idx a0.nodes v5) fun v6 =>
    cnd (ieq v6.parent 0) (
     some (.inr (.inl x4))) (
     some (.inl (v6.parent, (IntKind.i64.wrap (x4 + 1)))))) (
    some (.inr (.inl 0)))) (
   some (.inr (.inr ())))
noncomputable def impl_DepthOf_l0_S (a0 : TScene) : ((Int) × (Int)) → St := fun (x3, x4) => ⟨[(1, AV.int .i64 x3), (2, AV.optr 0 0 1), (5, AV.int .i64 x4)], [(0, Ob.box [AV.fsl (List.map eNode a0.nodes)])], 1⟩
noncomputable def impl_DepthOf_l0_X (a0 : TScene) : (((Int)) ⊕ (Unit)) → Ex × St := fun q => match q with
  | .inl y7 => (.ret, ⟨[(4, AV.int .i64 y7)], [], 0⟩)
  | .inr _ => ((.exit 0), ⟨[], [], 0⟩)
noncomputable def impl_DepthOf (a0 : TScene) (a1 : Int) : Option ((Int)) :=
  cnd (ieq a1 0) (
   some 0) (
   bnd (loopI (impl_DepthOf_l0 a0) (a1, 1)) fun q => match q with
   | .inl y7 =>
    some y7
   | .inr () =>
    some 0)
noncomputable def impl_DepthOf_e (q : (TScene) × (Int)) : List AV × List Ob := ([AV.agg [AV.fsl (List.map eNode q.1.nodes)], AV.int .i64 q.2], [])
noncomputable def impl_DepthOf_v (q : (TScene) × (Int)) (r : (Int)) : AV × List Ob := (AV.int .i64 r, [])
noncomputable def impl_DepthOf_x : List AV → List Ob → Option (AV × List Ob) := xOf impl_DepthOf_e (fun q => impl_DepthOf q.1 q.2) impl_DepthOf_v
theorem impl_DepthOf_i : ∀ a b, impl_DepthOf_e a = impl_DepthOf_e b → a = b := by rintro ⟨⟨x0⟩, x1⟩ ⟨⟨y0⟩, y1⟩ h; simp [impl_DepthOf_e] at h; simp [h]
@[simp] theorem impl_DepthOf_k (z0 : List TNode) (z1 : Int) : impl_DepthOf_x [AV.agg [AV.fsl (List.map eNode z0)], AV.int .i64 z1] [] = mapR (impl_DepthOf ⟨z0⟩ z1) (fun r => (AV.int .i64 r, [])) :=
  xOf_eq impl_DepthOf_i (⟨z0⟩, z1)
/-! impl_SceneOk: function 48 -/
noncomputable def impl_SceneOk_l0 (a0 : TScene) : ((Int)) → Option (((Int)) ⊕ ((Unit) ⊕ (Unit))) := fun x7 =>
  cnd (ile (List.length a0.nodes : Int) x7) (
   some (.inr (.inl ()))) (
   bnd (idx a0.nodes x7) fun v8 =>
   bnd (impl_NodeOk v8) fun v9 =>
   cnd v9 (
    bnd (impl_NodeAt a0 v8.id) fun v10 =>
    cnd (ieq v10 x7) (
     bnd (impl_Scene_isParent a0 v8.parent) fun v11 =>
     cnd v11 (
      bnd (impl_DepthOf a0 v8.id) fun v12 =>
      bnd (impl_inRange v12 1 4) fun v13 =>
      cnd v13 (
       some (.inl (IntKind.i64.wrap (x7 + 1)))) (
       some (.inr (.inr ())))) (
      some (.inr (.inr ())))) (
     some (.inr (.inr ())))) (
    some (.inr (.inr ()))))
noncomputable def impl_SceneOk_l0_S (a0 : TScene) : ((Int)) → St := fun x7 => ⟨[(1, AV.optr 0 0 1), (10, AV.fsl (List.map eNode a0.nodes)), (11, AV.int .i64 (List.length a0.nodes : Int)), (12, AV.int .i64 x7)], [(0, Ob.box [AV.fsl (List.map eNode a0.nodes)])], 1⟩
noncomputable def impl_SceneOk_l0_X (a0 : TScene) : ((Unit) ⊕ (Unit)) → Ex × St := fun q => match q with
  | .inl _ => ((.exit 0), ⟨[], [], 0⟩)
  | .inr _ => (.ret, ⟨[(2, AV.bool false)], [], 0⟩)
noncomputable def impl_SceneOk (a0 : TScene) : Option ((Bool)) :=
  cnd (ile (List.length a0.nodes : Int) 8) (
   bnd (loopI (impl_SceneOk_l0 a0) 0) fun q => match q with
   | .inl () =>
    some true
   | .inr () =>
    some false) (
   some false)
noncomputable def impl_SceneOk_e (q : (TScene)) : List AV × List Ob := ([AV.agg [AV.fsl (List.map eNode q.nodes)]], [])
noncomputable def impl_SceneOk_v (q : (TScene)) (r : (Bool)) : AV × List Ob := (AV.bool r, [])
noncomputable def impl_SceneOk_x : List AV → List Ob → Option (AV × List Ob) := xOf impl_SceneOk_e (fun q => impl_SceneOk q) impl_SceneOk_v
theorem impl_SceneOk_i : ∀ a b, impl_SceneOk_e a = impl_SceneOk_e b → a = b := by rintro ⟨x0⟩ ⟨y0⟩ h; simp [impl_SceneOk_e] at h; simp [h]
@[simp] theorem impl_SceneOk_k (z0 : List TNode) : impl_SceneOk_x [AV.agg [AV.fsl (List.map eNode z0)]] [] = mapR (impl_SceneOk ⟨z0⟩) (fun r => (AV.bool r, [])) :=
  xOf_eq impl_SceneOk_i ⟨z0⟩
/-! impl_CreateNode: function 46 -/
noncomputable def impl_CreateNode (a0 : TScene) (a1 : TNode) : Option ((TScene) × (Int)) :=
  bnd (impl_copyScene a0) fun v1 =>
  bnd (impl_NodeOk a1) fun v2 =>
  cnd v2 (
   bnd (impl_SceneOk a0) fun v3 =>
   cnd v3 (
    bnd (impl_NodeAt a0 a1.id) fun v4 =>
    cnd (ile 0 v4) (
     some ((TScene.mk v1), 3)) (
     bnd (impl_Scene_isParent a0 a1.parent) fun v5 =>
     cnd v5 (
      cnd (ile 8 (List.length a0.nodes : Int)) (
       some ((TScene.mk v1), 4)) (
       cnd (ieq a1.parent 0) (
        bnd (impl_copyNode a1) fun v6 =>
        chkP ((List.length v1 + 1) * 328 ≤ 17592186044416) (
        nam ((v1 ++ [v6]) : List TNode) fun l7 =>
        some ((TScene.mk l7), 0))) (
        bnd (impl_DepthOf a0 a1.parent) fun v8 =>
        cnd (ile 4 v8) (
         some ((TScene.mk v1), 5)) (
         bnd (impl_copyNode a1) fun v9 =>
         chkP ((List.length v1 + 1) * 328 ≤ 17592186044416) (
         nam ((v1 ++ [v9]) : List TNode) fun l10 =>
         some ((TScene.mk l10), 0)))))) (
      some ((TScene.mk v1), 2)))) (
    some ((TScene.mk v1), 1))) (
   some ((TScene.mk v1), 1))
noncomputable def impl_CreateNode_e (q : (TScene) × (TNode)) : List AV × List Ob := ([AV.agg [AV.fsl (List.map eNode q.1.nodes)], AV.agg [AV.int .i64 q.2.id, AV.int .i64 q.2.parent, AV.bool q.2.group, AV.int .i64 q.2.mat.a, AV.int .i64 q.2.mat.b, AV.int .i64 q.2.mat.c, AV.int .i64 q.2.mat.d, AV.int .i64 q.2.mat.e, AV.int .i64 q.2.mat.f, AV.fsl (List.map (AV.int .i64) q.2.path.verbs), AV.fsl (List.map ePoint q.2.path.points), AV.bool q.2.even, AV.int .i64 q.2.width, AV.fsl (List.map (AV.int .i64) q.2.dashes), AV.int .i64 q.2.paint.kind, AV.int .i64 q.2.paint.first.r, AV.int .i64 q.2.paint.first.g, AV.int .i64 q.2.paint.first.b, AV.int .i64 q.2.paint.first.a, AV.int .i64 q.2.paint.last.r, AV.int .i64 q.2.paint.last.g, AV.int .i64 q.2.paint.last.b, AV.int .i64 q.2.paint.last.a, AV.int .i64 q.2.paint.from_.x, AV.int .i64 q.2.paint.from_.y, AV.int .i64 q.2.paint.to.x, AV.int .i64 q.2.paint.to.y, AV.int .i64 q.2.mode, AV.int .i64 q.2.fade, AV.fsl (List.map (AV.int .i64) q.2.clip.verbs), AV.fsl (List.map ePoint q.2.clip.points)]], [])
noncomputable def impl_CreateNode_v (q : (TScene) × (TNode)) (r : (TScene) × (Int)) : AV × List Ob := (AV.tup [AV.agg [AV.fsl (List.map eNode r.1.nodes)], AV.int .i64 r.2], [])
noncomputable def impl_CreateNode_x : List AV → List Ob → Option (AV × List Ob) := xOf impl_CreateNode_e (fun q => impl_CreateNode q.1 q.2) impl_CreateNode_v
theorem impl_CreateNode_i : ∀ a b, impl_CreateNode_e a = impl_CreateNode_e b → a = b := by rintro ⟨⟨x0⟩, ⟨x1, x2, x3, ⟨x4, x5, x6, x7, x8, x9⟩, ⟨x10, x11⟩, x12, x13, x14, ⟨x15, ⟨x16, x17, x18, x19⟩, ⟨x20, x21, x22, x23⟩, ⟨x24, x25⟩, ⟨x26, x27⟩⟩, x28, x29, ⟨x30, x31⟩⟩⟩ ⟨⟨y0⟩, ⟨y1, y2, y3, ⟨y4, y5, y6, y7, y8, y9⟩, ⟨y10, y11⟩, y12, y13, y14, ⟨y15, ⟨y16, y17, y18, y19⟩, ⟨y20, y21, y22, y23⟩, ⟨y24, y25⟩, ⟨y26, y27⟩⟩, y28, y29, ⟨y30, y31⟩⟩⟩ h; simp [impl_CreateNode_e] at h; simp [h]
@[simp] theorem impl_CreateNode_k (z0 : List TNode) (z1 : Int) (z2 : Int) (z3 : Bool) (z4 : Int) (z5 : Int) (z6 : Int) (z7 : Int) (z8 : Int) (z9 : Int) (z10 : List Int) (z11 : List TPoint) (z12 : Bool) (z13 : Int) (z14 : List Int) (z15 : Int) (z16 : Int) (z17 : Int) (z18 : Int) (z19 : Int) (z20 : Int) (z21 : Int) (z22 : Int) (z23 : Int) (z24 : Int) (z25 : Int) (z26 : Int) (z27 : Int) (z28 : Int) (z29 : Int) (z30 : List Int) (z31 : List TPoint) : impl_CreateNode_x [AV.agg [AV.fsl (List.map eNode z0)], AV.agg [AV.int .i64 z1, AV.int .i64 z2, AV.bool z3, AV.int .i64 z4, AV.int .i64 z5, AV.int .i64 z6, AV.int .i64 z7, AV.int .i64 z8, AV.int .i64 z9, AV.fsl (List.map (AV.int .i64) z10), AV.fsl (List.map ePoint z11), AV.bool z12, AV.int .i64 z13, AV.fsl (List.map (AV.int .i64) z14), AV.int .i64 z15, AV.int .i64 z16, AV.int .i64 z17, AV.int .i64 z18, AV.int .i64 z19, AV.int .i64 z20, AV.int .i64 z21, AV.int .i64 z22, AV.int .i64 z23, AV.int .i64 z24, AV.int .i64 z25, AV.int .i64 z26, AV.int .i64 z27, AV.int .i64 z28, AV.int .i64 z29, AV.fsl (List.map (AV.int .i64) z30), AV.fsl (List.map ePoint z31)]] [] = mapR (impl_CreateNode ⟨z0⟩ ⟨z1, z2, z3, ⟨z4, z5, z6, z7, z8, z9⟩, ⟨z10, z11⟩, z12, z13, z14, ⟨z15, ⟨z16, z17, z18, z19⟩, ⟨z20, z21, z22, z23⟩, ⟨z24, z25⟩, ⟨z26, z27⟩⟩, z28, z29, ⟨z30, z31⟩⟩) (fun r => (AV.tup [AV.agg [AV.fsl (List.map eNode r.1.nodes)], AV.int .i64 r.2], [])) :=
  xOf_eq impl_CreateNode_i (⟨z0⟩, ⟨z1, z2, z3, ⟨z4, z5, z6, z7, z8, z9⟩, ⟨z10, z11⟩, z12, z13, z14, ⟨z15, ⟨z16, z17, z18, z19⟩, ⟨z20, z21, z22, z23⟩, ⟨z24, z25⟩, ⟨z26, z27⟩⟩, z28, z29, ⟨z30, z31⟩⟩)
/-! spec_l15CopyPath: function 189 -/
noncomputable def spec_l15CopyPath (a0 : TPath) : Option ((TPath)) :=
  chkP ((0 + List.length a0.verbs) * 8 ≤ 17592186044416) (
  nam (([] ++ a0.verbs) : List Int) fun l1 =>
  chkP ((0 + List.length a0.points) * 16 ≤ 17592186044416) (
  nam (([] ++ a0.points) : List TPoint) fun l2 =>
  some (TPath.mk l1 l2)))
noncomputable def spec_l15CopyPath_e (q : (TPath)) : List AV × List Ob := ([AV.agg [AV.fsl (List.map (AV.int .i64) q.verbs), AV.fsl (List.map ePoint q.points)]], [])
noncomputable def spec_l15CopyPath_v (q : (TPath)) (r : (TPath)) : AV × List Ob := (AV.agg [AV.fsl (List.map (AV.int .i64) r.verbs), AV.fsl (List.map ePoint r.points)], [])
noncomputable def spec_l15CopyPath_x : List AV → List Ob → Option (AV × List Ob) := xOf spec_l15CopyPath_e (fun q => spec_l15CopyPath q) spec_l15CopyPath_v
theorem spec_l15CopyPath_i : ∀ a b, spec_l15CopyPath_e a = spec_l15CopyPath_e b → a = b := by rintro ⟨x0, x1⟩ ⟨y0, y1⟩ h; simp [spec_l15CopyPath_e] at h; simp [h]
@[simp] theorem spec_l15CopyPath_k (z0 : List Int) (z1 : List TPoint) : spec_l15CopyPath_x [AV.agg [AV.fsl (List.map (AV.int .i64) z0), AV.fsl (List.map ePoint z1)]] [] = mapR (spec_l15CopyPath ⟨z0, z1⟩) (fun r => (AV.agg [AV.fsl (List.map (AV.int .i64) r.verbs), AV.fsl (List.map ePoint r.points)], [])) :=
  xOf_eq spec_l15CopyPath_i ⟨z0, z1⟩
/-! spec_l15CopyNode: function 121 -/
noncomputable def spec_l15CopyNode (a0 : TNode) : Option ((TNode)) :=
  bnd (spec_l15CopyPath a0.path) fun v1 =>
  bnd (spec_l15CopyPath a0.clip) fun v2 =>
  chkP ((0 + List.length a0.dashes) * 8 ≤ 17592186044416) (
  nam (([] ++ a0.dashes) : List Int) fun l3 =>
  some (TNode.mk a0.id a0.parent a0.group a0.mat v1 a0.even a0.width l3 a0.paint a0.mode a0.fade v2))
noncomputable def spec_l15CopyNode_e (q : (TNode)) : List AV × List Ob := ([AV.agg [AV.int .i64 q.id, AV.int .i64 q.parent, AV.bool q.group, AV.int .i64 q.mat.a, AV.int .i64 q.mat.b, AV.int .i64 q.mat.c, AV.int .i64 q.mat.d, AV.int .i64 q.mat.e, AV.int .i64 q.mat.f, AV.fsl (List.map (AV.int .i64) q.path.verbs), AV.fsl (List.map ePoint q.path.points), AV.bool q.even, AV.int .i64 q.width, AV.fsl (List.map (AV.int .i64) q.dashes), AV.int .i64 q.paint.kind, AV.int .i64 q.paint.first.r, AV.int .i64 q.paint.first.g, AV.int .i64 q.paint.first.b, AV.int .i64 q.paint.first.a, AV.int .i64 q.paint.last.r, AV.int .i64 q.paint.last.g, AV.int .i64 q.paint.last.b, AV.int .i64 q.paint.last.a, AV.int .i64 q.paint.from_.x, AV.int .i64 q.paint.from_.y, AV.int .i64 q.paint.to.x, AV.int .i64 q.paint.to.y, AV.int .i64 q.mode, AV.int .i64 q.fade, AV.fsl (List.map (AV.int .i64) q.clip.verbs), AV.fsl (List.map ePoint q.clip.points)]], [])
noncomputable def spec_l15CopyNode_v (q : (TNode)) (r : (TNode)) : AV × List Ob := (AV.agg [AV.int .i64 r.id, AV.int .i64 r.parent, AV.bool r.group, AV.int .i64 r.mat.a, AV.int .i64 r.mat.b, AV.int .i64 r.mat.c, AV.int .i64 r.mat.d, AV.int .i64 r.mat.e, AV.int .i64 r.mat.f, AV.fsl (List.map (AV.int .i64) r.path.verbs), AV.fsl (List.map ePoint r.path.points), AV.bool r.even, AV.int .i64 r.width, AV.fsl (List.map (AV.int .i64) r.dashes), AV.int .i64 r.paint.kind, AV.int .i64 r.paint.first.r, AV.int .i64 r.paint.first.g, AV.int .i64 r.paint.first.b, AV.int .i64 r.paint.first.a, AV.int .i64 r.paint.last.r, AV.int .i64 r.paint.last.g, AV.int .i64 r.paint.last.b, AV.int .i64 r.paint.last.a, AV.int .i64 r.paint.from_.x, AV.int .i64 r.paint.from_.y, AV.int .i64 r.paint.to.x, AV.int .i64 r.paint.to.y, AV.int .i64 r.mode, AV.int .i64 r.fade, AV.fsl (List.map (AV.int .i64) r.clip.verbs), AV.fsl (List.map ePoint r.clip.points)], [])
noncomputable def spec_l15CopyNode_x : List AV → List Ob → Option (AV × List Ob) := xOf spec_l15CopyNode_e (fun q => spec_l15CopyNode q) spec_l15CopyNode_v
theorem spec_l15CopyNode_i : ∀ a b, spec_l15CopyNode_e a = spec_l15CopyNode_e b → a = b := by rintro ⟨x0, x1, x2, ⟨x3, x4, x5, x6, x7, x8⟩, ⟨x9, x10⟩, x11, x12, x13, ⟨x14, ⟨x15, x16, x17, x18⟩, ⟨x19, x20, x21, x22⟩, ⟨x23, x24⟩, ⟨x25, x26⟩⟩, x27, x28, ⟨x29, x30⟩⟩ ⟨y0, y1, y2, ⟨y3, y4, y5, y6, y7, y8⟩, ⟨y9, y10⟩, y11, y12, y13, ⟨y14, ⟨y15, y16, y17, y18⟩, ⟨y19, y20, y21, y22⟩, ⟨y23, y24⟩, ⟨y25, y26⟩⟩, y27, y28, ⟨y29, y30⟩⟩ h; simp [spec_l15CopyNode_e] at h; simp [h]
@[simp] theorem spec_l15CopyNode_k (z0 : Int) (z1 : Int) (z2 : Bool) (z3 : Int) (z4 : Int) (z5 : Int) (z6 : Int) (z7 : Int) (z8 : Int) (z9 : List Int) (z10 : List TPoint) (z11 : Bool) (z12 : Int) (z13 : List Int) (z14 : Int) (z15 : Int) (z16 : Int) (z17 : Int) (z18 : Int) (z19 : Int) (z20 : Int) (z21 : Int) (z22 : Int) (z23 : Int) (z24 : Int) (z25 : Int) (z26 : Int) (z27 : Int) (z28 : Int) (z29 : List Int) (z30 : List TPoint) : spec_l15CopyNode_x [AV.agg [AV.int .i64 z0, AV.int .i64 z1, AV.bool z2, AV.int .i64 z3, AV.int .i64 z4, AV.int .i64 z5, AV.int .i64 z6, AV.int .i64 z7, AV.int .i64 z8, AV.fsl (List.map (AV.int .i64) z9), AV.fsl (List.map ePoint z10), AV.bool z11, AV.int .i64 z12, AV.fsl (List.map (AV.int .i64) z13), AV.int .i64 z14, AV.int .i64 z15, AV.int .i64 z16, AV.int .i64 z17, AV.int .i64 z18, AV.int .i64 z19, AV.int .i64 z20, AV.int .i64 z21, AV.int .i64 z22, AV.int .i64 z23, AV.int .i64 z24, AV.int .i64 z25, AV.int .i64 z26, AV.int .i64 z27, AV.int .i64 z28, AV.fsl (List.map (AV.int .i64) z29), AV.fsl (List.map ePoint z30)]] [] = mapR (spec_l15CopyNode ⟨z0, z1, z2, ⟨z3, z4, z5, z6, z7, z8⟩, ⟨z9, z10⟩, z11, z12, z13, ⟨z14, ⟨z15, z16, z17, z18⟩, ⟨z19, z20, z21, z22⟩, ⟨z23, z24⟩, ⟨z25, z26⟩⟩, z27, z28, ⟨z29, z30⟩⟩) (fun r => (AV.agg [AV.int .i64 r.id, AV.int .i64 r.parent, AV.bool r.group, AV.int .i64 r.mat.a, AV.int .i64 r.mat.b, AV.int .i64 r.mat.c, AV.int .i64 r.mat.d, AV.int .i64 r.mat.e, AV.int .i64 r.mat.f, AV.fsl (List.map (AV.int .i64) r.path.verbs), AV.fsl (List.map ePoint r.path.points), AV.bool r.even, AV.int .i64 r.width, AV.fsl (List.map (AV.int .i64) r.dashes), AV.int .i64 r.paint.kind, AV.int .i64 r.paint.first.r, AV.int .i64 r.paint.first.g, AV.int .i64 r.paint.first.b, AV.int .i64 r.paint.first.a, AV.int .i64 r.paint.last.r, AV.int .i64 r.paint.last.g, AV.int .i64 r.paint.last.b, AV.int .i64 r.paint.last.a, AV.int .i64 r.paint.from_.x, AV.int .i64 r.paint.from_.y, AV.int .i64 r.paint.to.x, AV.int .i64 r.paint.to.y, AV.int .i64 r.mode, AV.int .i64 r.fade, AV.fsl (List.map (AV.int .i64) r.clip.verbs), AV.fsl (List.map ePoint r.clip.points)], [])) :=
  xOf_eq spec_l15CopyNode_i ⟨z0, z1, z2, ⟨z3, z4, z5, z6, z7, z8⟩, ⟨z9, z10⟩, z11, z12, z13, ⟨z14, ⟨z15, z16, z17, z18⟩, ⟨z19, z20, z21, z22⟩, ⟨z23, z24⟩, ⟨z25, z26⟩⟩, z27, z28, ⟨z29, z30⟩⟩
/-! spec_l15Copy: function 116 -/
noncomputable def spec_l15Copy_l0 (a0 : TScene) : ((Int) × (List TNode)) → Option (((Int) × (List TNode)) ⊕ ((List TNode))) := fun (x3, x4) =>
  cnd (ile (List.length a0.nodes : Int) x3) (
   some (.inr x4)) (
   bnd (idx a0.nodes x3) fun v5 =>
   bnd (spec_l15CopyNode v5) fun v6 =>
   chkP ((List.length x4 + 1) * 328 ≤ 17592186044416) (
   nam ((x4 ++ [v6]) : List TNode) fun l7 =>
   some (.inl ((IntKind.i64.wrap (x3 + 1)), l7))))
noncomputable def spec_l15Copy_l0_S (a0 : TScene) : ((Int) × (List TNode)) → St := fun (x3, x4) => ⟨[(1, AV.optr 0 0 1), (2, AV.optr 1 0 1), (3, AV.optr 2 0 1), (4, AV.int .i64 x3)], [(0, Ob.box [AV.fsl (List.map eNode a0.nodes)]), (1, Ob.box [AV.nilsl]), (2, Ob.box [AV.osl 3 0 (List.length x4) (List.length x4)]), (3, Ob.arr 31 (List.map eNode x4) false)], 4⟩
noncomputable def spec_l15Copy_l0_X (a0 : TScene) : ((List TNode)) → Ex × St := fun y8 => ((.exit 0), ⟨[(2, AV.optr 0 0 1), (3, AV.optr 1 0 1)], [(0, Ob.box [AV.nilsl]), (1, Ob.box [AV.osl 2 0 (List.length y8) (List.length y8)]), (2, Ob.arr 31 (List.map eNode y8) false)], 3⟩)
noncomputable def spec_l15Copy (a0 : TScene) : Option ((List TNode)) :=
  bnd (loopI (spec_l15Copy_l0 a0) (0, [])) fun y8 =>
  some y8
noncomputable def spec_l15Copy_e (q : (TScene)) : List AV × List Ob := ([AV.agg [AV.fsl (List.map eNode q.nodes)]], [])
noncomputable def spec_l15Copy_v (q : (TScene)) (r : (List TNode)) : AV × List Ob := (AV.agg [AV.osl 0 0 (List.length r) (List.length r)], [Ob.arr 31 (List.map eNode r) false])
noncomputable def spec_l15Copy_x : List AV → List Ob → Option (AV × List Ob) := xOf spec_l15Copy_e (fun q => spec_l15Copy q) spec_l15Copy_v
theorem spec_l15Copy_i : ∀ a b, spec_l15Copy_e a = spec_l15Copy_e b → a = b := by rintro ⟨x0⟩ ⟨y0⟩ h; simp [spec_l15Copy_e] at h; simp [h]
@[simp] theorem spec_l15Copy_k (z0 : List TNode) : spec_l15Copy_x [AV.agg [AV.fsl (List.map eNode z0)]] [] = mapR (spec_l15Copy ⟨z0⟩) (fun r => (AV.agg [AV.osl 0 0 (List.length r) (List.length r)], [Ob.arr 31 (List.map eNode r) false])) :=
  xOf_eq spec_l15Copy_i ⟨z0⟩
/-! spec_MatOk: function 183 -/
noncomputable def spec_MatOk (a0 : TMat) : Option ((Bool)) :=
  bnd (spec_l01In a0.a (IntKind.i64.wrap (0 - 1048576)) 1048576) fun v1 =>
  cnd v1 (
   bnd (spec_l01In a0.b (IntKind.i64.wrap (0 - 1048576)) 1048576) fun v2 =>
   cnd v2 (
    bnd (spec_l01In a0.c (IntKind.i64.wrap (0 - 1048576)) 1048576) fun v3 =>
    cnd v3 (
     bnd (spec_l01In a0.d (IntKind.i64.wrap (0 - 1048576)) 1048576) fun v4 =>
     cnd v4 (
      bnd (spec_l01In a0.e (-8388608) 8388608) fun v5 =>
      cnd v5 (
       bnd (spec_l01In a0.f (-8388608) 8388608) fun v6 =>
       some v6) (
       some false)) (
      some false)) (
     some false)) (
    some false)) (
   some false)
noncomputable def spec_MatOk_e (q : (TMat)) : List AV × List Ob := ([AV.agg [AV.int .i64 q.a, AV.int .i64 q.b, AV.int .i64 q.c, AV.int .i64 q.d, AV.int .i64 q.e, AV.int .i64 q.f]], [])
noncomputable def spec_MatOk_v (q : (TMat)) (r : (Bool)) : AV × List Ob := (AV.bool r, [])
noncomputable def spec_MatOk_x : List AV → List Ob → Option (AV × List Ob) := xOf spec_MatOk_e (fun q => spec_MatOk q) spec_MatOk_v
theorem spec_MatOk_i : ∀ a b, spec_MatOk_e a = spec_MatOk_e b → a = b := by rintro ⟨x0, x1, x2, x3, x4, x5⟩ ⟨y0, y1, y2, y3, y4, y5⟩ h; simp [spec_MatOk_e] at h; simp [h]
@[simp] theorem spec_MatOk_k (z0 : Int) (z1 : Int) (z2 : Int) (z3 : Int) (z4 : Int) (z5 : Int) : spec_MatOk_x [AV.agg [AV.int .i64 z0, AV.int .i64 z1, AV.int .i64 z2, AV.int .i64 z3, AV.int .i64 z4, AV.int .i64 z5]] [] = mapR (spec_MatOk ⟨z0, z1, z2, z3, z4, z5⟩) (fun r => (AV.bool r, [])) :=
  xOf_eq spec_MatOk_i ⟨z0, z1, z2, z3, z4, z5⟩
/-! spec_PathOk: function 184 -/
noncomputable def spec_PathOk_l0 (a0 : TPath) : ((Int) × (Int)) → Option (((Int) × (Int)) ⊕ (((Int)) ⊕ (Unit))) := fun (x3, x4) =>
  cnd (ile (List.length a0.verbs : Int) x4) (
   some (.inr (.inl x3))) (
   bnd (idx a0.verbs x4) fun v5 =>
   bnd (spec_NeedOf v5) fun v6 =>
   cnd (ile 0 v6) (
    cnd (ieq x4 0) (
     cnd (ieq v5 1) (
      some (.inl ((IntKind.i64.wrap (x3 + v6)), (IntKind.i64.wrap (x4 + 1))))) (
      some (.inr (.inr ())))) (
     bnd (idx a0.verbs (IntKind.i64.wrap (x4 - 1))) fun v7 =>
     cnd (ieq v7 5) (
      cnd (ieq v5 1) (
       some (.inl ((IntKind.i64.wrap (x3 + v6)), (IntKind.i64.wrap (x4 + 1))))) (
       some (.inr (.inr ())))) (
      some (.inl ((IntKind.i64.wrap (x3 + v6)), (IntKind.i64.wrap (x4 + 1))))))) (
    some (.inr (.inr ()))))
noncomputable def spec_PathOk_l0_S (a0 : TPath) : ((Int) × (Int)) → St := fun (x3, x4) => ⟨[(1, AV.optr 0 0 2), (3, AV.int .i64 x3), (4, AV.int .i64 x4)], [(0, Ob.box [AV.fsl (List.map (AV.int .i64) a0.verbs), AV.fsl (List.map ePoint a0.points)])], 1⟩
noncomputable def spec_PathOk_l0_X (a0 : TPath) : (((Int)) ⊕ (Unit)) → Ex × St := fun q => match q with
  | .inl y8 => ((.exit 0), ⟨[(1, AV.optr 0 0 2), (3, AV.int .i64 y8)], [(0, Ob.box [AV.fsl (List.map (AV.int .i64) a0.verbs), AV.fsl (List.map ePoint a0.points)])], 1⟩)
  | .inr _ => (.ret, ⟨[(2, AV.bool false)], [], 0⟩)
noncomputable def spec_PathOk_l1 (a0 : TPath) (y8 : Int) : ((Int)) → Option (((Int)) ⊕ ((Unit) ⊕ (Unit))) := fun x11 =>
  cnd (ile (List.length a0.points : Int) x11) (
   some (.inr (.inl ()))) (
   bnd (idx a0.points x11) fun v12 =>
   bnd (spec_PointOk v12) fun v13 =>
   cnd v13 (
    some (.inl (IntKind.i64.wrap (x11 + 1)))) (
    some (.inr (.inr ()))))
noncomputable def spec_PathOk_l1_S (a0 : TPath) (y8 : Int) : ((Int)) → St := fun x11 => ⟨[(1, AV.optr 0 0 2), (3, AV.int .i64 y8), (6, AV.int .i64 x11)], [(0, Ob.box [AV.fsl (List.map (AV.int .i64) a0.verbs), AV.fsl (List.map ePoint a0.points)])], 1⟩
noncomputable def spec_PathOk_l1_X (a0 : TPath) (y8 : Int) : ((Unit) ⊕ (Unit)) → Ex × St := fun q => match q with
  | .inl _ => ((.exit 2), ⟨[(1, AV.optr 0 0 2), (3, AV.int .i64 y8)], [(0, Ob.box [AV.fsl (List.map (AV.int .i64) a0.verbs), AV.fsl (List.map ePoint a0.points)])], 1⟩)
  | .inr _ => (.ret, ⟨[(2, AV.bool false)], [], 0⟩)
noncomputable def spec_PathOk (a0 : TPath) : Option ((Bool)) :=
  cnd (ile (List.length a0.points : Int) 24) (
   cnd (ile (List.length a0.verbs : Int) 24) (
    bnd (loopI (spec_PathOk_l0 a0) (0, 0)) fun q => match q with
    | .inl y8 =>
     bnd (loopI (spec_PathOk_l1 a0 y8) 0) fun q => match q with
     | .inl () =>
      some (ieq y8 (List.length a0.points : Int))
     | .inr () =>
      some false
    | .inr () =>
     some false) (
    some false)) (
   some false)
noncomputable def spec_PathOk_e (q : (TPath)) : List AV × List Ob := ([AV.agg [AV.fsl (List.map (AV.int .i64) q.verbs), AV.fsl (List.map ePoint q.points)]], [])
noncomputable def spec_PathOk_v (q : (TPath)) (r : (Bool)) : AV × List Ob := (AV.bool r, [])
noncomputable def spec_PathOk_x : List AV → List Ob → Option (AV × List Ob) := xOf spec_PathOk_e (fun q => spec_PathOk q) spec_PathOk_v
theorem spec_PathOk_i : ∀ a b, spec_PathOk_e a = spec_PathOk_e b → a = b := by rintro ⟨x0, x1⟩ ⟨y0, y1⟩ h; simp [spec_PathOk_e] at h; simp [h]
@[simp] theorem spec_PathOk_k (z0 : List Int) (z1 : List TPoint) : spec_PathOk_x [AV.agg [AV.fsl (List.map (AV.int .i64) z0), AV.fsl (List.map ePoint z1)]] [] = mapR (spec_PathOk ⟨z0, z1⟩) (fun r => (AV.bool r, [])) :=
  xOf_eq spec_PathOk_i ⟨z0, z1⟩
/-! spec_DashOk: function 185 -/
noncomputable def spec_DashOk_l0 (a0 : List Int) : ((Int)) → Option (((Int)) ⊕ ((Unit) ⊕ (Unit))) := fun x3 =>
  cnd (ile (List.length a0 : Int) x3) (
   some (.inr (.inl ()))) (
   bnd (idx a0 x3) fun v4 =>
   bnd (spec_l01In v4 1 20000) fun v5 =>
   cnd v5 (
    some (.inl (IntKind.i64.wrap (x3 + 1)))) (
    some (.inr (.inr ()))))
noncomputable def spec_DashOk_l0_S (a0 : List Int) : ((Int)) → St := fun x3 => ⟨[(0, AV.fsl (List.map (AV.int .i64) a0)), (3, AV.int .i64 x3)], [], 0⟩
noncomputable def spec_DashOk_l0_X (a0 : List Int) : ((Unit) ⊕ (Unit)) → Ex × St := fun q => match q with
  | .inl _ => ((.exit 0), ⟨[(0, AV.fsl (List.map (AV.int .i64) a0))], [], 0⟩)
  | .inr _ => (.ret, ⟨[(2, AV.bool false)], [], 0⟩)
noncomputable def spec_DashOk (a0 : List Int) : Option ((Bool)) :=
  bnd (loopI (spec_DashOk_l0 a0) 0) fun q => match q with
  | .inl () =>
   cnd (ieq (Int.tmod (List.length a0 : Int) 2) 0) (
    some (ile (List.length a0 : Int) 4)) (
    some false)
  | .inr () =>
   some false
noncomputable def spec_DashOk_e (q : (List Int)) : List AV × List Ob := ([AV.fsl (List.map (AV.int .i64) q)], [])
noncomputable def spec_DashOk_v (q : (List Int)) (r : (Bool)) : AV × List Ob := (AV.bool r, [])
noncomputable def spec_DashOk_x : List AV → List Ob → Option (AV × List Ob) := xOf spec_DashOk_e (fun q => spec_DashOk q) spec_DashOk_v
theorem spec_DashOk_i : ∀ a b, spec_DashOk_e a = spec_DashOk_e b → a = b := by rintro x0 y0 h; simp [spec_DashOk_e] at h; simp [h]
@[simp] theorem spec_DashOk_k (z0 : List Int) : spec_DashOk_x [AV.fsl (List.map (AV.int .i64) z0)] [] = mapR (spec_DashOk z0) (fun r => (AV.bool r, [])) :=
  xOf_eq spec_DashOk_i z0
/-! spec_l15NoPath: function 186 -/
noncomputable def spec_l15NoPath (a0 : TPath) : Option ((Bool)) :=
  cnd (ieq (List.length a0.verbs : Int) 0) (
   some (ieq (List.length a0.points : Int) 0)) (
   some false)
noncomputable def spec_l15NoPath_e (q : (TPath)) : List AV × List Ob := ([AV.agg [AV.fsl (List.map (AV.int .i64) q.verbs), AV.fsl (List.map ePoint q.points)]], [])
noncomputable def spec_l15NoPath_v (q : (TPath)) (r : (Bool)) : AV × List Ob := (AV.bool r, [])
noncomputable def spec_l15NoPath_x : List AV → List Ob → Option (AV × List Ob) := xOf spec_l15NoPath_e (fun q => spec_l15NoPath q) spec_l15NoPath_v
theorem spec_l15NoPath_i : ∀ a b, spec_l15NoPath_e a = spec_l15NoPath_e b → a = b := by rintro ⟨x0, x1⟩ ⟨y0, y1⟩ h; simp [spec_l15NoPath_e] at h; simp [h]
@[simp] theorem spec_l15NoPath_k (z0 : List Int) (z1 : List TPoint) : spec_l15NoPath_x [AV.agg [AV.fsl (List.map (AV.int .i64) z0), AV.fsl (List.map ePoint z1)]] [] = mapR (spec_l15NoPath ⟨z0, z1⟩) (fun r => (AV.bool r, [])) :=
  xOf_eq spec_l15NoPath_i ⟨z0, z1⟩
/-! spec_l15NoPaint: function 187 -/
noncomputable def spec_l15NoPaint (a0 : TPaint) : Option ((Bool)) :=
  some (andB (decide (a0.kind = 0)) (andB (decide (a0.first.r = 0)) (andB (decide (a0.first.g = 0)) (andB (decide (a0.first.b = 0)) (andB (decide (a0.first.a = 0)) (andB (decide (a0.last.r = 0)) (andB (decide (a0.last.g = 0)) (andB (decide (a0.last.b = 0)) (andB (decide (a0.last.a = 0)) (andB (decide (a0.from_.x = 0)) (andB (decide (a0.from_.y = 0)) (andB (decide (a0.to.x = 0)) (andB (decide (a0.to.y = 0)) true)))))))))))))
noncomputable def spec_l15NoPaint_e (q : (TPaint)) : List AV × List Ob := ([AV.agg [AV.int .i64 q.kind, AV.int .i64 q.first.r, AV.int .i64 q.first.g, AV.int .i64 q.first.b, AV.int .i64 q.first.a, AV.int .i64 q.last.r, AV.int .i64 q.last.g, AV.int .i64 q.last.b, AV.int .i64 q.last.a, AV.int .i64 q.from_.x, AV.int .i64 q.from_.y, AV.int .i64 q.to.x, AV.int .i64 q.to.y]], [])
noncomputable def spec_l15NoPaint_v (q : (TPaint)) (r : (Bool)) : AV × List Ob := (AV.bool r, [])
noncomputable def spec_l15NoPaint_x : List AV → List Ob → Option (AV × List Ob) := xOf spec_l15NoPaint_e (fun q => spec_l15NoPaint q) spec_l15NoPaint_v
theorem spec_l15NoPaint_i : ∀ a b, spec_l15NoPaint_e a = spec_l15NoPaint_e b → a = b := by rintro ⟨x0, ⟨x1, x2, x3, x4⟩, ⟨x5, x6, x7, x8⟩, ⟨x9, x10⟩, ⟨x11, x12⟩⟩ ⟨y0, ⟨y1, y2, y3, y4⟩, ⟨y5, y6, y7, y8⟩, ⟨y9, y10⟩, ⟨y11, y12⟩⟩ h; simp [spec_l15NoPaint_e] at h; simp [h]
@[simp] theorem spec_l15NoPaint_k (z0 : Int) (z1 : Int) (z2 : Int) (z3 : Int) (z4 : Int) (z5 : Int) (z6 : Int) (z7 : Int) (z8 : Int) (z9 : Int) (z10 : Int) (z11 : Int) (z12 : Int) : spec_l15NoPaint_x [AV.agg [AV.int .i64 z0, AV.int .i64 z1, AV.int .i64 z2, AV.int .i64 z3, AV.int .i64 z4, AV.int .i64 z5, AV.int .i64 z6, AV.int .i64 z7, AV.int .i64 z8, AV.int .i64 z9, AV.int .i64 z10, AV.int .i64 z11, AV.int .i64 z12]] [] = mapR (spec_l15NoPaint ⟨z0, ⟨z1, z2, z3, z4⟩, ⟨z5, z6, z7, z8⟩, ⟨z9, z10⟩, ⟨z11, z12⟩⟩) (fun r => (AV.bool r, [])) :=
  xOf_eq spec_l15NoPaint_i ⟨z0, ⟨z1, z2, z3, z4⟩, ⟨z5, z6, z7, z8⟩, ⟨z9, z10⟩, ⟨z11, z12⟩⟩
/-! spec_ColorOk: function 202 -/
noncomputable def spec_ColorOk (a0 : TColor) : Option ((Bool)) :=
  bnd (spec_l01In a0.r 0 255) fun v1 =>
  cnd v1 (
   bnd (spec_l01In a0.g 0 255) fun v2 =>
   cnd v2 (
    bnd (spec_l01In a0.b 0 255) fun v3 =>
    cnd v3 (
     bnd (spec_l01In a0.a 0 255) fun v4 =>
     some v4) (
     some false)) (
    some false)) (
   some false)
noncomputable def spec_ColorOk_e (q : (TColor)) : List AV × List Ob := ([AV.agg [AV.int .i64 q.r, AV.int .i64 q.g, AV.int .i64 q.b, AV.int .i64 q.a]], [])
noncomputable def spec_ColorOk_v (q : (TColor)) (r : (Bool)) : AV × List Ob := (AV.bool r, [])
noncomputable def spec_ColorOk_x : List AV → List Ob → Option (AV × List Ob) := xOf spec_ColorOk_e (fun q => spec_ColorOk q) spec_ColorOk_v
theorem spec_ColorOk_i : ∀ a b, spec_ColorOk_e a = spec_ColorOk_e b → a = b := by rintro ⟨x0, x1, x2, x3⟩ ⟨y0, y1, y2, y3⟩ h; simp [spec_ColorOk_e] at h; simp [h]
@[simp] theorem spec_ColorOk_k (z0 : Int) (z1 : Int) (z2 : Int) (z3 : Int) : spec_ColorOk_x [AV.agg [AV.int .i64 z0, AV.int .i64 z1, AV.int .i64 z2, AV.int .i64 z3]] [] = mapR (spec_ColorOk ⟨z0, z1, z2, z3⟩) (fun r => (AV.bool r, [])) :=
  xOf_eq spec_ColorOk_i ⟨z0, z1, z2, z3⟩
/-! spec_PaintOk: function 188 -/
noncomputable def spec_PaintOk (a0 : TPaint) : Option ((Bool)) :=
  bnd (spec_ColorOk a0.first) fun v1 =>
  cnd v1 (
   cnd (ieq a0.kind 1) (
    cnd (andB (decide (a0.last.r = 0)) (andB (decide (a0.last.g = 0)) (andB (decide (a0.last.b = 0)) (andB (decide (a0.last.a = 0)) true)))) (
     cnd (andB (decide (a0.from_.x = 0)) (andB (decide (a0.from_.y = 0)) true)) (
      some (andB (decide (a0.to.x = 0)) (andB (decide (a0.to.y = 0)) true))) (
      some false)) (
     some false)) (
    cnd (ieq a0.kind 2) (
     bnd (spec_ColorOk a0.last) fun v2 =>
     cnd v2 (
      bnd (spec_PointOk a0.from_) fun v3 =>
      cnd v3 (
       bnd (spec_PointOk a0.to) fun v4 =>
       cnd v4 (
        some (!(andB (decide (a0.from_.x = a0.to.x)) (andB (decide (a0.from_.y = a0.to.y)) true)))) (
        some false)) (
       some false)) (
      some false)) (
     some false))) (
   some false)
noncomputable def spec_PaintOk_e (q : (TPaint)) : List AV × List Ob := ([AV.agg [AV.int .i64 q.kind, AV.int .i64 q.first.r, AV.int .i64 q.first.g, AV.int .i64 q.first.b, AV.int .i64 q.first.a, AV.int .i64 q.last.r, AV.int .i64 q.last.g, AV.int .i64 q.last.b, AV.int .i64 q.last.a, AV.int .i64 q.from_.x, AV.int .i64 q.from_.y, AV.int .i64 q.to.x, AV.int .i64 q.to.y]], [])
noncomputable def spec_PaintOk_v (q : (TPaint)) (r : (Bool)) : AV × List Ob := (AV.bool r, [])
noncomputable def spec_PaintOk_x : List AV → List Ob → Option (AV × List Ob) := xOf spec_PaintOk_e (fun q => spec_PaintOk q) spec_PaintOk_v
theorem spec_PaintOk_i : ∀ a b, spec_PaintOk_e a = spec_PaintOk_e b → a = b := by rintro ⟨x0, ⟨x1, x2, x3, x4⟩, ⟨x5, x6, x7, x8⟩, ⟨x9, x10⟩, ⟨x11, x12⟩⟩ ⟨y0, ⟨y1, y2, y3, y4⟩, ⟨y5, y6, y7, y8⟩, ⟨y9, y10⟩, ⟨y11, y12⟩⟩ h; simp [spec_PaintOk_e] at h; simp [h]
@[simp] theorem spec_PaintOk_k (z0 : Int) (z1 : Int) (z2 : Int) (z3 : Int) (z4 : Int) (z5 : Int) (z6 : Int) (z7 : Int) (z8 : Int) (z9 : Int) (z10 : Int) (z11 : Int) (z12 : Int) : spec_PaintOk_x [AV.agg [AV.int .i64 z0, AV.int .i64 z1, AV.int .i64 z2, AV.int .i64 z3, AV.int .i64 z4, AV.int .i64 z5, AV.int .i64 z6, AV.int .i64 z7, AV.int .i64 z8, AV.int .i64 z9, AV.int .i64 z10, AV.int .i64 z11, AV.int .i64 z12]] [] = mapR (spec_PaintOk ⟨z0, ⟨z1, z2, z3, z4⟩, ⟨z5, z6, z7, z8⟩, ⟨z9, z10⟩, ⟨z11, z12⟩⟩) (fun r => (AV.bool r, [])) :=
  xOf_eq spec_PaintOk_i ⟨z0, ⟨z1, z2, z3, z4⟩, ⟨z5, z6, z7, z8⟩, ⟨z9, z10⟩, ⟨z11, z12⟩⟩
/-! spec_NodeOk: function 118 -/
noncomputable def spec_NodeOk (a0 : TNode) : Option ((Bool)) :=
  bnd (spec_l01In a0.id 1 99) fun v1 =>
  cnd v1 (
   bnd (spec_l01In a0.parent 0 99) fun v2 =>
   cnd v2 (
    cnd (ieq a0.id a0.parent) (
     some false) (
     bnd (spec_MatOk a0.mat) fun v3 =>
     cnd v3 (
      bnd (spec_PathOk a0.path) fun v4 =>
      cnd v4 (
       bnd (spec_PathOk a0.clip) fun v5 =>
       cnd v5 (
        bnd (spec_l01In a0.width 0 2048) fun v6 =>
        cnd v6 (
         bnd (spec_DashOk a0.dashes) fun v7 =>
         cnd v7 (
          bnd (spec_l01In a0.mode 1 5) fun v8 =>
          cnd v8 (
           bnd (spec_l01In a0.fade 0 255) fun v9 =>
           cnd v9 (
            cnd a0.group (
             bnd (spec_l15NoPath a0.path) fun v10 =>
             cnd v10 (
              bnd (spec_l15NoPaint a0.paint) fun v11 =>
              cnd v11 (
               cnd (ieq a0.width 0) (
                cnd (ieq (List.length a0.dashes : Int) 0) (
                 some (!a0.even)) (
                 some false)) (
                some false)) (
               some false)) (
              some false)) (
             bnd (spec_PaintOk a0.paint) fun v12 =>
             some v12)) (
            some false)) (
           some false)) (
          some false)) (
         some false)) (
        some false)) (
       some false)) (
      some false))) (
    some false)) (
   some false)
noncomputable def spec_NodeOk_e (q : (TNode)) : List AV × List Ob := ([AV.agg [AV.int .i64 q.id, AV.int .i64 q.parent, AV.bool q.group, AV.int .i64 q.mat.a, AV.int .i64 q.mat.b, AV.int .i64 q.mat.c, AV.int .i64 q.mat.d, AV.int .i64 q.mat.e, AV.int .i64 q.mat.f, AV.fsl (List.map (AV.int .i64) q.path.verbs), AV.fsl (List.map ePoint q.path.points), AV.bool q.even, AV.int .i64 q.width, AV.fsl (List.map (AV.int .i64) q.dashes), AV.int .i64 q.paint.kind, AV.int .i64 q.paint.first.r, AV.int .i64 q.paint.first.g, AV.int .i64 q.paint.first.b, AV.int .i64 q.paint.first.a, AV.int .i64 q.paint.last.r, AV.int .i64 q.paint.last.g, AV.int .i64 q.paint.last.b, AV.int .i64 q.paint.last.a, AV.int .i64 q.paint.from_.x, AV.int .i64 q.paint.from_.y, AV.int .i64 q.paint.to.x, AV.int .i64 q.paint.to.y, AV.int .i64 q.mode, AV.int .i64 q.fade, AV.fsl (List.map (AV.int .i64) q.clip.verbs), AV.fsl (List.map ePoint q.clip.points)]], [])
noncomputable def spec_NodeOk_v (q : (TNode)) (r : (Bool)) : AV × List Ob := (AV.bool r, [])
noncomputable def spec_NodeOk_x : List AV → List Ob → Option (AV × List Ob) := xOf spec_NodeOk_e (fun q => spec_NodeOk q) spec_NodeOk_v
theorem spec_NodeOk_i : ∀ a b, spec_NodeOk_e a = spec_NodeOk_e b → a = b := by rintro ⟨x0, x1, x2, ⟨x3, x4, x5, x6, x7, x8⟩, ⟨x9, x10⟩, x11, x12, x13, ⟨x14, ⟨x15, x16, x17, x18⟩, ⟨x19, x20, x21, x22⟩, ⟨x23, x24⟩, ⟨x25, x26⟩⟩, x27, x28, ⟨x29, x30⟩⟩ ⟨y0, y1, y2, ⟨y3, y4, y5, y6, y7, y8⟩, ⟨y9, y10⟩, y11, y12, y13, ⟨y14, ⟨y15, y16, y17, y18⟩, ⟨y19, y20, y21, y22⟩, ⟨y23, y24⟩, ⟨y25, y26⟩⟩, y27, y28, ⟨y29, y30⟩⟩ h; simp [spec_NodeOk_e] at h; simp [h]
@[simp] theorem spec_NodeOk_k (z0 : Int) (z1 : Int) (z2 : Bool) (z3 : Int) (z4 : Int) (z5 : Int) (z6 : Int) (z7 : Int) (z8 : Int) (z9 : List Int) (z10 : List TPoint) (z11 : Bool) (z12 : Int) (z13 : List Int) (z14 : Int) (z15 : Int) (z16 : Int) (z17 : Int) (z18 : Int) (z19 : Int) (z20 : Int) (z21 : Int) (z22 : Int) (z23 : Int) (z24 : Int) (z25 : Int) (z26 : Int) (z27 : Int) (z28 : Int) (z29 : List Int) (z30 : List TPoint) : spec_NodeOk_x [AV.agg [AV.int .i64 z0, AV.int .i64 z1, AV.bool z2, AV.int .i64 z3, AV.int .i64 z4, AV.int .i64 z5, AV.int .i64 z6, AV.int .i64 z7, AV.int .i64 z8, AV.fsl (List.map (AV.int .i64) z9), AV.fsl (List.map ePoint z10), AV.bool z11, AV.int .i64 z12, AV.fsl (List.map (AV.int .i64) z13), AV.int .i64 z14, AV.int .i64 z15, AV.int .i64 z16, AV.int .i64 z17, AV.int .i64 z18, AV.int .i64 z19, AV.int .i64 z20, AV.int .i64 z21, AV.int .i64 z22, AV.int .i64 z23, AV.int .i64 z24, AV.int .i64 z25, AV.int .i64 z26, AV.int .i64 z27, AV.int .i64 z28, AV.fsl (List.map (AV.int .i64) z29), AV.fsl (List.map ePoint z30)]] [] = mapR (spec_NodeOk ⟨z0, z1, z2, ⟨z3, z4, z5, z6, z7, z8⟩, ⟨z9, z10⟩, z11, z12, z13, ⟨z14, ⟨z15, z16, z17, z18⟩, ⟨z19, z20, z21, z22⟩, ⟨z23, z24⟩, ⟨z25, z26⟩⟩, z27, z28, ⟨z29, z30⟩⟩) (fun r => (AV.bool r, [])) :=
  xOf_eq spec_NodeOk_i ⟨z0, z1, z2, ⟨z3, z4, z5, z6, z7, z8⟩, ⟨z9, z10⟩, z11, z12, z13, ⟨z14, ⟨z15, z16, z17, z18⟩, ⟨z19, z20, z21, z22⟩, ⟨z23, z24⟩, ⟨z25, z26⟩⟩, z27, z28, ⟨z29, z30⟩⟩
/-! spec_SceneOk: function 117 -/
noncomputable def spec_SceneOk_l0 (a0 : TScene) : ((Int)) → Option (((Int)) ⊕ ((Unit) ⊕ (Unit))) := fun x8 =>
  cnd (ile (List.length a0.nodes : Int) x8) (
   some (.inr (.inl ()))) (
   bnd (idx a0.nodes x8) fun v9 =>
   bnd (spec_NodeOk v9) fun v10 =>
   cnd v10 (
    bnd (spec_NodeAt a0 v9.id) fun v11 =>
    cnd (ieq v11 x8) (
     bnd (spec_DepthOf a0 v9.id) fun v12 =>
     bnd (spec_l01In v12 1 4) fun v13 =>
     cnd v13 (
      bnd (spec_NodeAt a0 v9.parent) fun v14 =>
      cnd (ieq v9.parent 0) (
       some (.inl (IntKind.i64.wrap (x8 + 1)))) (
       cnd (ile 0 v14) (
        bnd (idx a0.nodes v14) fun v15 =>
        cnd v15.group (
         some (.inl (IntKind.i64.wrap (x8 + 1)))) (
         some (.inr (.inr ())))) (
        some (.inr (.inr ()))))) (
      some (.inr (.inr ())))) (
     some (.inr (.inr ())))) (
    some (.inr (.inr ()))))
noncomputable def spec_SceneOk_l0_S (a0 : TScene) : ((Int)) → St := fun x8 => ⟨[(1, AV.optr 0 0 1), (3, AV.int .i64 x8)], [(0, Ob.box [AV.fsl (List.map eNode a0.nodes)])], 1⟩
noncomputable def spec_SceneOk_l0_X (a0 : TScene) : ((Unit) ⊕ (Unit)) → Ex × St := fun q => match q with
  | .inl _ => ((.exit 0), ⟨[], [], 0⟩)
  | .inr _ => (.ret, ⟨[(2, AV.bool false)], [], 0⟩)
noncomputable def spec_SceneOk (a0 : TScene) : Option ((Bool)) :=
  cnd (ile (List.length a0.nodes : Int) 8) (
   bnd (loopI (spec_SceneOk_l0 a0) 0) fun q => match q with
   | .inl () =>
    some true
   | .inr () =>
    some false) (
   some false)
noncomputable def spec_SceneOk_e (q : (TScene)) : List AV × List Ob := ([AV.agg [AV.fsl (List.map eNode q.nodes)]], [])
noncomputable def spec_SceneOk_v (q : (TScene)) (r : (Bool)) : AV × List Ob := (AV.bool r, [])
noncomputable def spec_SceneOk_x : List AV → List Ob → Option (AV × List Ob) := xOf spec_SceneOk_e (fun q => spec_SceneOk q) spec_SceneOk_v
theorem spec_SceneOk_i : ∀ a b, spec_SceneOk_e a = spec_SceneOk_e b → a = b := by rintro ⟨x0⟩ ⟨y0⟩ h; simp [spec_SceneOk_e] at h; simp [h]
@[simp] theorem spec_SceneOk_k (z0 : List TNode) : spec_SceneOk_x [AV.agg [AV.fsl (List.map eNode z0)]] [] = mapR (spec_SceneOk ⟨z0⟩) (fun r => (AV.bool r, [])) :=
  xOf_eq spec_SceneOk_i ⟨z0⟩
/-! spec_CreateNode: function 47 -/
noncomputable def spec_CreateNode (a0 : TScene) (a1 : TNode) : Option ((TScene) × (Int)) :=
  bnd (spec_l15Copy a0) fun v1 =>
  bnd (spec_SceneOk a0) fun v2 =>
  cnd v2 (
   bnd (spec_NodeOk a1) fun v3 =>
   cnd v3 (
    bnd (spec_NodeAt a0 a1.id) fun v4 =>
    cnd (ile 0 v4) (
     some ((TScene.mk v1), 3)) (
     bnd (spec_NodeAt a0 a1.parent) fun v5 =>
     cnd (ieq a1.parent 0) (
      cnd (ieq (List.length a0.nodes : Int) 8) (
       some ((TScene.mk v1), 4)) (
       bnd (spec_DepthOf a0 a1.parent) fun v6 =>
       cnd (ile 4 v6) (
        some ((TScene.mk v1), 5)) (
        bnd (spec_l15CopyNode a1) fun v7 =>
        chkP ((List.length v1 + 1) * 328 ≤ 17592186044416) (
        nam ((v1 ++ [v7]) : List TNode) fun l8 =>
        some ((TScene.mk l8), 0))))) (
      cnd (ile 0 v5) (
       bnd (idx a0.nodes v5) fun v9 =>
       cnd v9.group (
        cnd (ieq (List.length a0.nodes : Int) 8) (
         some ((TScene.mk v1), 4)) (
         bnd (spec_DepthOf a0 a1.parent) fun v10 =>
         cnd (ile 4 v10) (
          some ((TScene.mk v1), 5)) (
          bnd (spec_l15CopyNode a1) fun v11 =>
          chkP ((List.length v1 + 1) * 328 ≤ 17592186044416) (
          nam ((v1 ++ [v11]) : List TNode) fun l12 =>
          some ((TScene.mk l12), 0))))) (
        some ((TScene.mk v1), 2))) (
       some ((TScene.mk v1), 2))))) (
    some ((TScene.mk v1), 1))) (
   some ((TScene.mk v1), 1))
noncomputable def spec_CreateNode_e (q : (TScene) × (TNode)) : List AV × List Ob := ([AV.agg [AV.fsl (List.map eNode q.1.nodes)], AV.agg [AV.int .i64 q.2.id, AV.int .i64 q.2.parent, AV.bool q.2.group, AV.int .i64 q.2.mat.a, AV.int .i64 q.2.mat.b, AV.int .i64 q.2.mat.c, AV.int .i64 q.2.mat.d, AV.int .i64 q.2.mat.e, AV.int .i64 q.2.mat.f, AV.fsl (List.map (AV.int .i64) q.2.path.verbs), AV.fsl (List.map ePoint q.2.path.points), AV.bool q.2.even, AV.int .i64 q.2.width, AV.fsl (List.map (AV.int .i64) q.2.dashes), AV.int .i64 q.2.paint.kind, AV.int .i64 q.2.paint.first.r, AV.int .i64 q.2.paint.first.g, AV.int .i64 q.2.paint.first.b, AV.int .i64 q.2.paint.first.a, AV.int .i64 q.2.paint.last.r, AV.int .i64 q.2.paint.last.g, AV.int .i64 q.2.paint.last.b, AV.int .i64 q.2.paint.last.a, AV.int .i64 q.2.paint.from_.x, AV.int .i64 q.2.paint.from_.y, AV.int .i64 q.2.paint.to.x, AV.int .i64 q.2.paint.to.y, AV.int .i64 q.2.mode, AV.int .i64 q.2.fade, AV.fsl (List.map (AV.int .i64) q.2.clip.verbs), AV.fsl (List.map ePoint q.2.clip.points)]], [])
noncomputable def spec_CreateNode_v (q : (TScene) × (TNode)) (r : (TScene) × (Int)) : AV × List Ob := (AV.tup [AV.agg [AV.fsl (List.map eNode r.1.nodes)], AV.int .i64 r.2], [])
noncomputable def spec_CreateNode_x : List AV → List Ob → Option (AV × List Ob) := xOf spec_CreateNode_e (fun q => spec_CreateNode q.1 q.2) spec_CreateNode_v
theorem spec_CreateNode_i : ∀ a b, spec_CreateNode_e a = spec_CreateNode_e b → a = b := by rintro ⟨⟨x0⟩, ⟨x1, x2, x3, ⟨x4, x5, x6, x7, x8, x9⟩, ⟨x10, x11⟩, x12, x13, x14, ⟨x15, ⟨x16, x17, x18, x19⟩, ⟨x20, x21, x22, x23⟩, ⟨x24, x25⟩, ⟨x26, x27⟩⟩, x28, x29, ⟨x30, x31⟩⟩⟩ ⟨⟨y0⟩, ⟨y1, y2, y3, ⟨y4, y5, y6, y7, y8, y9⟩, ⟨y10, y11⟩, y12, y13, y14, ⟨y15, ⟨y16, y17, y18, y19⟩, ⟨y20, y21, y22, y23⟩, ⟨y24, y25⟩, ⟨y26, y27⟩⟩, y28, y29, ⟨y30, y31⟩⟩⟩ h; simp [spec_CreateNode_e] at h; simp [h]
@[simp] theorem spec_CreateNode_k (z0 : List TNode) (z1 : Int) (z2 : Int) (z3 : Bool) (z4 : Int) (z5 : Int) (z6 : Int) (z7 : Int) (z8 : Int) (z9 : Int) (z10 : List Int) (z11 : List TPoint) (z12 : Bool) (z13 : Int) (z14 : List Int) (z15 : Int) (z16 : Int) (z17 : Int) (z18 : Int) (z19 : Int) (z20 : Int) (z21 : Int) (z22 : Int) (z23 : Int) (z24 : Int) (z25 : Int) (z26 : Int) (z27 : Int) (z28 : Int) (z29 : Int) (z30 : List Int) (z31 : List TPoint) : spec_CreateNode_x [AV.agg [AV.fsl (List.map eNode z0)], AV.agg [AV.int .i64 z1, AV.int .i64 z2, AV.bool z3, AV.int .i64 z4, AV.int .i64 z5, AV.int .i64 z6, AV.int .i64 z7, AV.int .i64 z8, AV.int .i64 z9, AV.fsl (List.map (AV.int .i64) z10), AV.fsl (List.map ePoint z11), AV.bool z12, AV.int .i64 z13, AV.fsl (List.map (AV.int .i64) z14), AV.int .i64 z15, AV.int .i64 z16, AV.int .i64 z17, AV.int .i64 z18, AV.int .i64 z19, AV.int .i64 z20, AV.int .i64 z21, AV.int .i64 z22, AV.int .i64 z23, AV.int .i64 z24, AV.int .i64 z25, AV.int .i64 z26, AV.int .i64 z27, AV.int .i64 z28, AV.int .i64 z29, AV.fsl (List.map (AV.int .i64) z30), AV.fsl (List.map ePoint z31)]] [] = mapR (spec_CreateNode ⟨z0⟩ ⟨z1, z2, z3, ⟨z4, z5, z6, z7, z8, z9⟩, ⟨z10, z11⟩, z12, z13, z14, ⟨z15, ⟨z16, z17, z18, z19⟩, ⟨z20, z21, z22, z23⟩, ⟨z24, z25⟩, ⟨z26, z27⟩⟩, z28, z29, ⟨z30, z31⟩⟩) (fun r => (AV.tup [AV.agg [AV.fsl (List.map eNode r.1.nodes)], AV.int .i64 r.2], [])) :=
  xOf_eq spec_CreateNode_i (⟨z0⟩, ⟨z1, z2, z3, ⟨z4, z5, z6, z7, z8, z9⟩, ⟨z10, z11⟩, z12, z13, z14, ⟨z15, ⟨z16, z17, z18, z19⟩, ⟨z20, z21, z22, z23⟩, ⟨z24, z25⟩, ⟨z26, z27⟩⟩, z28, z29, ⟨z30, z31⟩⟩)
/-! impl_Scene_comesTo: function 190 -/
noncomputable def impl_Scene_comesTo_l0 (a0 : TScene) (a2 : Int) : ((Int) × (Int)) → Option (((Int) × (Int)) ⊕ ((Int))) := fun (x3, x4) =>
  cnd (ile 8 x4) (
   some (.inr x3)) (
   bnd (impl_NodeAt a0 x3) fun v5 =>
   cnd (ieq x3 a2) (
    some (.inr x3)) (
    cnd (ile 0 v5) (
     bnd (idx a0.nodes v5) fun v6 =>
     some (.inl (v6.parent, (IntKind.i64.wrap (x4 + 1))))) (
     some (.inr x3))))
noncomputable def impl_Scene_comesTo_l0_S (a0 : TScene) (a2 : Int) : ((Int) × (Int)) → St := fun (x3, x4) => ⟨[(0, AV.fptr [AV.fsl (List.map eNode a0.nodes)] 0), (1, AV.int .i64 x3), (2, AV.int .i64 a2), (8, AV.int .i64 x4)], [], 0⟩
noncomputable def impl_Scene_comesTo_l0_X (a0 : TScene) (a2 : Int) : ((Int)) → Ex × St := fun y7 => ((.exit 0), ⟨[(1, AV.int .i64 y7), (2, AV.int .i64 a2)], [], 0⟩)
noncomputable def impl_Scene_comesTo (a0 : TScene) (a1 : Int) (a2 : Int) : Option ((Bool)) :=
  bnd (loopI (impl_Scene_comesTo_l0 a0 a2) (a1, 0)) fun y7 =>
  some (ieq y7 a2)
noncomputable def impl_Scene_comesTo_e (q : (TScene) × (Int) × (Int)) : List AV × List Ob := ([AV.fptr [AV.fsl (List.map eNode q.1.nodes)] 0, AV.int .i64 q.2.1, AV.int .i64 q.2.2], [])
noncomputable def impl_Scene_comesTo_v (q : (TScene) × (Int) × (Int)) (r : (Bool)) : AV × List Ob := (AV.bool r, [])
noncomputable def impl_Scene_comesTo_x : List AV → List Ob → Option (AV × List Ob) := xOf impl_Scene_comesTo_e (fun q => impl_Scene_comesTo q.1 q.2.1 q.2.2) impl_Scene_comesTo_v
theorem impl_Scene_comesTo_i : ∀ a b, impl_Scene_comesTo_e a = impl_Scene_comesTo_e b → a = b := by rintro ⟨⟨x0⟩, x1, x2⟩ ⟨⟨y0⟩, y1, y2⟩ h; simp [impl_Scene_comesTo_e] at h; simp [h]
@[simp] theorem impl_Scene_comesTo_k (z0 : List TNode) (z1 : Int) (z2 : Int) : impl_Scene_comesTo_x [AV.fptr [AV.fsl (List.map eNode z0)] 0, AV.int .i64 z1, AV.int .i64 z2] [] = mapR (impl_Scene_comesTo ⟨z0⟩ z1 z2) (fun r => (AV.bool r, [])) :=
  xOf_eq impl_Scene_comesTo_i (⟨z0⟩, z1, z2)
/-! impl_UnderOf: function 122 -/
noncomputable def impl_UnderOf_l0 (a0 : TScene) (a1 : Int) : ((List Int) × (Int)) → Option (((List Int) × (Int)) ⊕ ((List Int))) := fun (x4, x5) =>
  cnd (ile (List.length a0.nodes : Int) x5) (
   some (.inr x4)) (
   bnd (idx a0.nodes x5) fun v6 =>
   bnd (impl_Scene_comesTo a0 v6.id a1) fun v7 =>
   cnd v7 (
    chkP ((List.length x4 + 1) * 8 ≤ 17592186044416) (
    nam ((x4 ++ [v6.id]) : List Int) fun l8 =>
    some (.inl (l8, (IntKind.i64.wrap (x5 + 1)))))) (
    some (.inl (x4, (IntKind.i64.wrap (x5 + 1))))))
noncomputable def impl_UnderOf_l0_S (a0 : TScene) (a1 : Int) : ((List Int) × (Int)) → St := fun (x4, x5) => ⟨[(1, AV.int .i64 a1), (2, AV.optr 0 0 1), (5, AV.osl 1 0 (List.length x4) (List.length x4)), (13, AV.fsl (List.map eNode a0.nodes)), (14, AV.int .i64 (List.length a0.nodes : Int)), (15, AV.int .i64 x5)], [(0, Ob.box [AV.fsl (List.map eNode a0.nodes)]), (1, Ob.arr 1 (List.map (AV.int .i64) x4) false)], 2⟩
noncomputable def impl_UnderOf_l0_X (a0 : TScene) (a1 : Int) : ((List Int)) → Ex × St := fun y9 => ((.exit 0), ⟨[(5, AV.osl 0 0 (List.length y9) (List.length y9))], [(0, Ob.arr 1 (List.map (AV.int .i64) y9) false)], 1⟩)
noncomputable def impl_UnderOf (a0 : TScene) (a1 : Int) : Option ((List Int)) :=
  bnd (impl_NodeAt a0 a1) fun v1 =>
  cnd (ile 0 v1) (
   bnd (loopI (impl_UnderOf_l0 a0 a1) ([], 0)) fun y9 =>
   some y9) (
   some [])
noncomputable def impl_UnderOf_e (q : (TScene) × (Int)) : List AV × List Ob := ([AV.agg [AV.fsl (List.map eNode q.1.nodes)], AV.int .i64 q.2], [])
noncomputable def impl_UnderOf_v (q : (TScene) × (Int)) (r : (List Int)) : AV × List Ob := (AV.fsl (List.map (AV.int .i64) r), [])
noncomputable def impl_UnderOf_x : List AV → List Ob → Option (AV × List Ob) := xOf impl_UnderOf_e (fun q => impl_UnderOf q.1 q.2) impl_UnderOf_v
theorem impl_UnderOf_i : ∀ a b, impl_UnderOf_e a = impl_UnderOf_e b → a = b := by rintro ⟨⟨x0⟩, x1⟩ ⟨⟨y0⟩, y1⟩ h; simp [impl_UnderOf_e] at h; simp [h]
@[simp] theorem impl_UnderOf_k (z0 : List TNode) (z1 : Int) : impl_UnderOf_x [AV.agg [AV.fsl (List.map eNode z0)], AV.int .i64 z1] [] = mapR (impl_UnderOf ⟨z0⟩ z1) (fun r => (AV.fsl (List.map (AV.int .i64) r), [])) :=
  xOf_eq impl_UnderOf_i (⟨z0⟩, z1)
/-! slices_Index_int: function 159 -/
noncomputable def slices_Index_int_l0 (a0 : List Int) (a1 : Int) : ((Int)) → Option (((Int)) ⊕ ((Unit) ⊕ ((Int)))) := fun x2 =>
  cnd (ile (List.length a0 : Int) x2) (
   some (.inr (.inl ()))) (
   bnd (idx a0 x2) fun v3 =>
   cnd (ieq a1 v3) (
    some (.inr (.inr x2))) (
    some (.inl (IntKind.i64.wrap (x2 + 1)))))
noncomputable def slices_Index_int_l0_S (a0 : List Int) (a1 : Int) : ((Int)) → St := fun x2 => ⟨[(0, AV.fsl (List.map (AV.int .i64) a0)), (1, AV.int .i64 a1), (7, AV.int .i64 (List.length a0 : Int)), (8, AV.int .i64 x2)], [], 0⟩
noncomputable def slices_Index_int_l0_X (a0 : List Int) (a1 : Int) : ((Unit) ⊕ ((Int))) → Ex × St := fun q => match q with
  | .inl _ => ((.exit 0), ⟨[], [], 0⟩)
  | .inr y4 => (.ret, ⟨[(4, AV.int .i64 y4)], [], 0⟩)
noncomputable def slices_Index_int (a0 : List Int) (a1 : Int) : Option ((Int)) :=
  bnd (loopI (slices_Index_int_l0 a0 a1) 0) fun q => match q with
  | .inl () =>
   some (-1)
  | .inr y4 =>
   some y4
noncomputable def slices_Index_int_e (q : (List Int) × (Int)) : List AV × List Ob := ([AV.fsl (List.map (AV.int .i64) q.1), AV.int .i64 q.2], [])
noncomputable def slices_Index_int_v (q : (List Int) × (Int)) (r : (Int)) : AV × List Ob := (AV.int .i64 r, [])
noncomputable def slices_Index_int_x : List AV → List Ob → Option (AV × List Ob) := xOf slices_Index_int_e (fun q => slices_Index_int q.1 q.2) slices_Index_int_v
theorem slices_Index_int_i : ∀ a b, slices_Index_int_e a = slices_Index_int_e b → a = b := by rintro ⟨x0, x1⟩ ⟨y0, y1⟩ h; simp [slices_Index_int_e] at h; simp [h]
@[simp] theorem slices_Index_int_k (z0 : List Int) (z1 : Int) : slices_Index_int_x [AV.fsl (List.map (AV.int .i64) z0), AV.int .i64 z1] [] = mapR (slices_Index_int z0 z1) (fun r => (AV.int .i64 r, [])) :=
  xOf_eq slices_Index_int_i (z0, z1)
/-! slices_Contains_int: function 85 -/
noncomputable def slices_Contains_int (a0 : List Int) (a1 : Int) : Option ((Bool)) :=
  bnd (slices_Index_int a0 a1) fun v1 =>
  some (ile 0 v1)
noncomputable def slices_Contains_int_e (q : (List Int) × (Int)) : List AV × List Ob := ([AV.fsl (List.map (AV.int .i64) q.1), AV.int .i64 q.2], [])
noncomputable def slices_Contains_int_v (q : (List Int) × (Int)) (r : (Bool)) : AV × List Ob := (AV.bool r, [])
noncomputable def slices_Contains_int_x : List AV → List Ob → Option (AV × List Ob) := xOf slices_Contains_int_e (fun q => slices_Contains_int q.1 q.2) slices_Contains_int_v
theorem slices_Contains_int_i : ∀ a b, slices_Contains_int_e a = slices_Contains_int_e b → a = b := by rintro ⟨x0, x1⟩ ⟨y0, y1⟩ h; simp [slices_Contains_int_e] at h; simp [h]
@[simp] theorem slices_Contains_int_k (z0 : List Int) (z1 : Int) : slices_Contains_int_x [AV.fsl (List.map (AV.int .i64) z0), AV.int .i64 z1] [] = mapR (slices_Contains_int z0 z1) (fun r => (AV.bool r, [])) :=
  xOf_eq slices_Contains_int_i (z0, z1)
/-! impl_DropNode_1: function 124 -/
noncomputable def impl_DropNode_1 (a0 : TNode) (a1 : List Int) : Option ((Bool)) :=
  bnd (slices_Contains_int a1 a0.id) fun v1 =>
  some v1
noncomputable def impl_DropNode_1_e (q : (TNode) × (List Int)) : List AV × List Ob := ([AV.agg [AV.int .i64 q.1.id, AV.int .i64 q.1.parent, AV.bool q.1.group, AV.int .i64 q.1.mat.a, AV.int .i64 q.1.mat.b, AV.int .i64 q.1.mat.c, AV.int .i64 q.1.mat.d, AV.int .i64 q.1.mat.e, AV.int .i64 q.1.mat.f, AV.fsl (List.map (AV.int .i64) q.1.path.verbs), AV.fsl (List.map ePoint q.1.path.points), AV.bool q.1.even, AV.int .i64 q.1.width, AV.fsl (List.map (AV.int .i64) q.1.dashes), AV.int .i64 q.1.paint.kind, AV.int .i64 q.1.paint.first.r, AV.int .i64 q.1.paint.first.g, AV.int .i64 q.1.paint.first.b, AV.int .i64 q.1.paint.first.a, AV.int .i64 q.1.paint.last.r, AV.int .i64 q.1.paint.last.g, AV.int .i64 q.1.paint.last.b, AV.int .i64 q.1.paint.last.a, AV.int .i64 q.1.paint.from_.x, AV.int .i64 q.1.paint.from_.y, AV.int .i64 q.1.paint.to.x, AV.int .i64 q.1.paint.to.y, AV.int .i64 q.1.mode, AV.int .i64 q.1.fade, AV.fsl (List.map (AV.int .i64) q.1.clip.verbs), AV.fsl (List.map ePoint q.1.clip.points)], AV.fptr [AV.fsl (List.map (AV.int .i64) q.2)] 0], [])
noncomputable def impl_DropNode_1_v (q : (TNode) × (List Int)) (r : (Bool)) : AV × List Ob := (AV.bool r, [])
noncomputable def impl_DropNode_1_x : List AV → List Ob → Option (AV × List Ob) := xOf impl_DropNode_1_e (fun q => impl_DropNode_1 q.1 q.2) impl_DropNode_1_v
theorem impl_DropNode_1_i : ∀ a b, impl_DropNode_1_e a = impl_DropNode_1_e b → a = b := by rintro ⟨⟨x0, x1, x2, ⟨x3, x4, x5, x6, x7, x8⟩, ⟨x9, x10⟩, x11, x12, x13, ⟨x14, ⟨x15, x16, x17, x18⟩, ⟨x19, x20, x21, x22⟩, ⟨x23, x24⟩, ⟨x25, x26⟩⟩, x27, x28, ⟨x29, x30⟩⟩, x31⟩ ⟨⟨y0, y1, y2, ⟨y3, y4, y5, y6, y7, y8⟩, ⟨y9, y10⟩, y11, y12, y13, ⟨y14, ⟨y15, y16, y17, y18⟩, ⟨y19, y20, y21, y22⟩, ⟨y23, y24⟩, ⟨y25, y26⟩⟩, y27, y28, ⟨y29, y30⟩⟩, y31⟩ h; simp [impl_DropNode_1_e] at h; simp [h]
@[simp] theorem impl_DropNode_1_k (z0 : Int) (z1 : Int) (z2 : Bool) (z3 : Int) (z4 : Int) (z5 : Int) (z6 : Int) (z7 : Int) (z8 : Int) (z9 : List Int) (z10 : List TPoint) (z11 : Bool) (z12 : Int) (z13 : List Int) (z14 : Int) (z15 : Int) (z16 : Int) (z17 : Int) (z18 : Int) (z19 : Int) (z20 : Int) (z21 : Int) (z22 : Int) (z23 : Int) (z24 : Int) (z25 : Int) (z26 : Int) (z27 : Int) (z28 : Int) (z29 : List Int) (z30 : List TPoint) (z31 : List Int) : impl_DropNode_1_x [AV.agg [AV.int .i64 z0, AV.int .i64 z1, AV.bool z2, AV.int .i64 z3, AV.int .i64 z4, AV.int .i64 z5, AV.int .i64 z6, AV.int .i64 z7, AV.int .i64 z8, AV.fsl (List.map (AV.int .i64) z9), AV.fsl (List.map ePoint z10), AV.bool z11, AV.int .i64 z12, AV.fsl (List.map (AV.int .i64) z13), AV.int .i64 z14, AV.int .i64 z15, AV.int .i64 z16, AV.int .i64 z17, AV.int .i64 z18, AV.int .i64 z19, AV.int .i64 z20, AV.int .i64 z21, AV.int .i64 z22, AV.int .i64 z23, AV.int .i64 z24, AV.int .i64 z25, AV.int .i64 z26, AV.int .i64 z27, AV.int .i64 z28, AV.fsl (List.map (AV.int .i64) z29), AV.fsl (List.map ePoint z30)], AV.fptr [AV.fsl (List.map (AV.int .i64) z31)] 0] [] = mapR (impl_DropNode_1 ⟨z0, z1, z2, ⟨z3, z4, z5, z6, z7, z8⟩, ⟨z9, z10⟩, z11, z12, z13, ⟨z14, ⟨z15, z16, z17, z18⟩, ⟨z19, z20, z21, z22⟩, ⟨z23, z24⟩, ⟨z25, z26⟩⟩, z27, z28, ⟨z29, z30⟩⟩ z31) (fun r => (AV.bool r, [])) :=
  xOf_eq impl_DropNode_1_i (⟨z0, z1, z2, ⟨z3, z4, z5, z6, z7, z8⟩, ⟨z9, z10⟩, z11, z12, z13, ⟨z14, ⟨z15, z16, z17, z18⟩, ⟨z19, z20, z21, z22⟩, ⟨z23, z24⟩, ⟨z25, z26⟩⟩, z27, z28, ⟨z29, z30⟩⟩, z31)
/-! slices_IndexFunc_Node_DropNode_1: function 127 -/
noncomputable def slices_IndexFunc_Node_DropNode_1_l0 (a0 : List TNode) (a1 : List Int) : ((Int)) → Option (((Int)) ⊕ ((Unit) ⊕ ((Int)))) := fun x3 =>
  cnd (ile (List.length a0 : Int) x3) (
   some (.inr (.inl ()))) (
   bnd (idx a0 x3) fun v4 =>
   bnd (impl_DropNode_1 v4 a1) fun v5 =>
   cnd v5 (
    some (.inr (.inr x3))) (
    some (.inl (IntKind.i64.wrap (x3 + 1)))))
noncomputable def slices_IndexFunc_Node_DropNode_1_l0_S (a0 : List TNode) (a1 : List Int) : ((Int)) → St := fun x3 => ⟨[(0, AV.fsl (List.map eNode a0)), (1, AV.func (.func 124) [] [AV.fptr [AV.fsl (List.map (AV.int .i64) a1)] 0]), (7, AV.int .i64 (List.length a0 : Int)), (8, AV.int .i64 x3)], [], 0⟩
noncomputable def slices_IndexFunc_Node_DropNode_1_l0_X (a0 : List TNode) (a1 : List Int) : ((Unit) ⊕ ((Int))) → Ex × St := fun q => match q with
  | .inl _ => ((.exit 0), ⟨[], [], 0⟩)
  | .inr y6 => (.ret, ⟨[(4, AV.int .i64 y6)], [], 0⟩)
noncomputable def slices_IndexFunc_Node_DropNode_1 (a0 : List TNode) (a1 : List Int) : Option ((Int)) :=
  bnd (loopI (slices_IndexFunc_Node_DropNode_1_l0 a0 a1) 0) fun q => match q with
  | .inl () =>
   some (-1)
  | .inr y6 =>
   some y6
noncomputable def slices_IndexFunc_Node_DropNode_1_e (q : (List TNode) × (List Int)) : List AV × List Ob := ([AV.fsl (List.map eNode q.1), AV.func (.func 124) [] [AV.fptr [AV.fsl (List.map (AV.int .i64) q.2)] 0]], [])
noncomputable def slices_IndexFunc_Node_DropNode_1_v (q : (List TNode) × (List Int)) (r : (Int)) : AV × List Ob := (AV.int .i64 r, [])
noncomputable def slices_IndexFunc_Node_DropNode_1_x : List AV → List Ob → Option (AV × List Ob) := xOf slices_IndexFunc_Node_DropNode_1_e (fun q => slices_IndexFunc_Node_DropNode_1 q.1 q.2) slices_IndexFunc_Node_DropNode_1_v
theorem slices_IndexFunc_Node_DropNode_1_i : ∀ a b, slices_IndexFunc_Node_DropNode_1_e a = slices_IndexFunc_Node_DropNode_1_e b → a = b := by rintro ⟨x0, x1⟩ ⟨y0, y1⟩ h; simp [slices_IndexFunc_Node_DropNode_1_e] at h; simp [h]
@[simp] theorem slices_IndexFunc_Node_DropNode_1_k (z0 : List TNode) (z1 : List Int) : slices_IndexFunc_Node_DropNode_1_x [AV.fsl (List.map eNode z0), AV.func (.func 124) [] [AV.fptr [AV.fsl (List.map (AV.int .i64) z1)] 0]] [] = mapR (slices_IndexFunc_Node_DropNode_1 z0 z1) (fun r => (AV.int .i64 r, [])) :=
  xOf_eq slices_IndexFunc_Node_DropNode_1_i (z0, z1)
/-! slices_DeleteFunc_Node_DropNode_1: function 123 -/
noncomputable def slices_DeleteFunc_Node_DropNode_1_l0 (a1 : List Int) : ((Int) × (Int) × (List TNode)) → Option (((Int) × (Int) × (List TNode)) ⊕ ((List TNode) × (Int))) := fun (x6, x7, x8) =>
  cnd (ile (List.length x8 : Int) x6) (
   some (.inr (x8, x7))) (
   bnd (idx x8 x6) fun v9 =>
   bnd (impl_DropNode_1 v9 a1) fun v10 =>
   cnd v10 (
    some (.inl ((IntKind.i64.wrap (x6 + 1)), x7, x8))) (
    bnd (idx x8 x7) fun v11 =>
    nam ((List.set x8 (Int.toNat x7) v9) : List TNode) fun l12 =>
    some (.inl ((IntKind.i64.wrap (x6 + 1)), (IntKind.i64.wrap (x7 + 1)), l12))))
noncomputable def slices_DeleteFunc_Node_DropNode_1_l0_S (a1 : List Int) : ((Int) × (Int) × (List TNode)) → St := fun (x6, x7, x8) => ⟨[(0, AV.osl 0 0 (List.length x8) (List.length x8)), (1, AV.func (.func 124) [] [AV.optr 1 0 1]), (5, AV.int .i64 x7), (6, AV.int .i64 x6)], [(0, Ob.arr 31 (List.map eNode x8) false), (1, Ob.box [AV.fsl (List.map (AV.int .i64) a1)])], 2⟩
noncomputable def slices_DeleteFunc_Node_DropNode_1_l0_X (a1 : List Int) : ((List TNode) × (Int)) → Ex × St := fun (y13, y14) => ((.exit 0), ⟨[(0, AV.osl 0 0 (List.length y13) (List.length y13)), (5, AV.int .i64 y14)], [(0, Ob.arr 31 (List.map eNode y13) false), (1, Ob.box [AV.fsl (List.map (AV.int .i64) a1)])], 2⟩)
noncomputable def slices_DeleteFunc_Node_DropNode_1 (a0 : List TNode) (a1 : List Int) : Option ((List TNode) × (List TNode)) :=
  bnd (slices_IndexFunc_Node_DropNode_1 a0 a1) fun v1 =>
  cnd (ieq v1 (-1)) (
   some (a0, a0)) (
   bnd (loopI (slices_DeleteFunc_Node_DropNode_1_l0 a1) ((IntKind.i64.wrap (v1 + 1)), v1, a0)) fun (y13, y14) =>
   bnd (slc y13 y14 (List.length y13 : Int)) fun v15 =>
   nam ((clrL y13 (Int.toNat y14) (List.length v15) (TNode.mk 0 0 false (TMat.mk 0 0 0 0 0 0) (TPath.mk [] []) false 0 [] (TPaint.mk 0 (TColor.mk 0 0 0 0) (TColor.mk 0 0 0 0) (TPoint.mk 0 0) (TPoint.mk 0 0)) 0 0 (TPath.mk [] []))) : List TNode) fun l16 =>
   bnd (slc l16 0 y14) fun v17 =>
   some (v17, l16))
noncomputable def slices_DeleteFunc_Node_DropNode_1_e (q : (List TNode) × (List Int)) : List AV × List Ob := ([AV.osl 0 0 (List.length q.1) (List.length q.1), AV.func (.func 124) [] [AV.optr 1 0 1]], [Ob.arr 31 (List.map eNode q.1) false, Ob.box [AV.fsl (List.map (AV.int .i64) q.2)]])
noncomputable def slices_DeleteFunc_Node_DropNode_1_v (q : (List TNode) × (List Int)) (r : (List TNode) × (List TNode)) : AV × List Ob := (AV.osl 0 0 (List.length r.1) (List.length r.2), [Ob.arr 31 (List.map eNode r.2) false, Ob.box [AV.fsl (List.map (AV.int .i64) q.2)]])
noncomputable def slices_DeleteFunc_Node_DropNode_1_x : List AV → List Ob → Option (AV × List Ob) := xOf slices_DeleteFunc_Node_DropNode_1_e (fun q => slices_DeleteFunc_Node_DropNode_1 q.1 q.2) slices_DeleteFunc_Node_DropNode_1_v
theorem slices_DeleteFunc_Node_DropNode_1_i : ∀ a b, slices_DeleteFunc_Node_DropNode_1_e a = slices_DeleteFunc_Node_DropNode_1_e b → a = b := by rintro ⟨x0, x1⟩ ⟨y0, y1⟩ h; simp [slices_DeleteFunc_Node_DropNode_1_e] at h; simp [h]
@[simp] theorem slices_DeleteFunc_Node_DropNode_1_k (z0 : List TNode) (z1 : List Int) : slices_DeleteFunc_Node_DropNode_1_x [AV.osl 0 0 (List.length z0) (List.length z0), AV.func (.func 124) [] [AV.optr 1 0 1]] [Ob.arr 31 (List.map eNode z0) false, Ob.box [AV.fsl (List.map (AV.int .i64) z1)]] = mapR (slices_DeleteFunc_Node_DropNode_1 z0 z1) (fun r => (AV.osl 0 0 (List.length r.1) (List.length r.2), [Ob.arr 31 (List.map eNode r.2) false, Ob.box [AV.fsl (List.map (AV.int .i64) z1)]])) :=
  xOf_eq slices_DeleteFunc_Node_DropNode_1_i (z0, z1)
/-! impl_DropNode: function 50 -/
noncomputable def impl_DropNode (a0 : TScene) (a1 : Int) : Option ((TScene) × (Int)) :=
  bnd (impl_copyScene a0) fun v1 =>
  bnd (impl_SceneOk a0) fun v2 =>
  cnd v2 (
   bnd (impl_NodeAt a0 a1) fun v3 =>
   cnd (ile 0 v3) (
    bnd (impl_UnderOf a0 a1) fun v4 =>
    bnd (slices_DeleteFunc_Node_DropNode_1 v1 v4) fun (w6, w7) =>
    bnd (slc w7 0 (List.length w6 : Int)) fun v8 =>
    some ((TScene.mk v8), 0)) (
    some ((TScene.mk v1), 2))) (
   some ((TScene.mk v1), 1))
noncomputable def impl_DropNode_e (q : (TScene) × (Int)) : List AV × List Ob := ([AV.agg [AV.fsl (List.map eNode q.1.nodes)], AV.int .i64 q.2], [])
noncomputable def impl_DropNode_v (q : (TScene) × (Int)) (r : (TScene) × (Int)) : AV × List Ob := (AV.tup [AV.agg [AV.fsl (List.map eNode r.1.nodes)], AV.int .i64 r.2], [])
noncomputable def impl_DropNode_x : List AV → List Ob → Option (AV × List Ob) := xOf impl_DropNode_e (fun q => impl_DropNode q.1 q.2) impl_DropNode_v
theorem impl_DropNode_i : ∀ a b, impl_DropNode_e a = impl_DropNode_e b → a = b := by rintro ⟨⟨x0⟩, x1⟩ ⟨⟨y0⟩, y1⟩ h; simp [impl_DropNode_e] at h; simp [h]
@[simp] theorem impl_DropNode_k (z0 : List TNode) (z1 : Int) : impl_DropNode_x [AV.agg [AV.fsl (List.map eNode z0)], AV.int .i64 z1] [] = mapR (impl_DropNode ⟨z0⟩ z1) (fun r => (AV.tup [AV.agg [AV.fsl (List.map eNode r.1.nodes)], AV.int .i64 r.2], [])) :=
  xOf_eq impl_DropNode_i (⟨z0⟩, z1)
/-! laws_sameInts: function 108 -/
noncomputable def laws_sameInts_l0 (a0 : List Int) (a1 : List Int) : ((Int)) → Option (((Int)) ⊕ ((Unit) ⊕ (Unit))) := fun x3 =>
  cnd (ile (List.length a0 : Int) x3) (
   some (.inr (.inl ()))) (
   bnd (idx a0 x3) fun v4 =>
   bnd (idx a1 x3) fun v5 =>
   cnd (ieq v4 v5) (
    some (.inl (IntKind.i64.wrap (x3 + 1)))) (
    some (.inr (.inr ()))))
noncomputable def laws_sameInts_l0_S (a0 : List Int) (a1 : List Int) : ((Int)) → St := fun x3 => ⟨[(0, AV.fsl (List.map (AV.int .i64) a0)), (1, AV.fsl (List.map (AV.int .i64) a1)), (5, AV.int .i64 x3)], [], 0⟩
noncomputable def laws_sameInts_l0_X (a0 : List Int) (a1 : List Int) : ((Unit) ⊕ (Unit)) → Ex × St := fun q => match q with
  | .inl _ => ((.exit 0), ⟨[], [], 0⟩)
  | .inr _ => (.ret, ⟨[(4, AV.bool false)], [], 0⟩)
noncomputable def laws_sameInts (a0 : List Int) (a1 : List Int) : Option ((Bool)) :=
  cnd (ieq (List.length a0 : Int) (List.length a1 : Int)) (
   bnd (loopI (laws_sameInts_l0 a0 a1) 0) fun q => match q with
   | .inl () =>
    some true
   | .inr () =>
    some false) (
   some false)
noncomputable def laws_sameInts_e (q : (List Int) × (List Int)) : List AV × List Ob := ([AV.fsl (List.map (AV.int .i64) q.1), AV.fsl (List.map (AV.int .i64) q.2)], [])
noncomputable def laws_sameInts_v (q : (List Int) × (List Int)) (r : (Bool)) : AV × List Ob := (AV.bool r, [])
noncomputable def laws_sameInts_x : List AV → List Ob → Option (AV × List Ob) := xOf laws_sameInts_e (fun q => laws_sameInts q.1 q.2) laws_sameInts_v
theorem laws_sameInts_i : ∀ a b, laws_sameInts_e a = laws_sameInts_e b → a = b := by rintro ⟨x0, x1⟩ ⟨y0, y1⟩ h; simp [laws_sameInts_e] at h; simp [h]
@[simp] theorem laws_sameInts_k (z0 : List Int) (z1 : List Int) : laws_sameInts_x [AV.fsl (List.map (AV.int .i64) z0), AV.fsl (List.map (AV.int .i64) z1)] [] = mapR (laws_sameInts z0 z1) (fun r => (AV.bool r, [])) :=
  xOf_eq laws_sameInts_i (z0, z1)
/-! laws_samePoints: function 191 -/
noncomputable def laws_samePoints_l0 (a0 : List TPoint) (a1 : List TPoint) : ((Int)) → Option (((Int)) ⊕ ((Unit) ⊕ (Unit))) := fun x3 =>
  cnd (ile (List.length a0 : Int) x3) (
   some (.inr (.inl ()))) (
   bnd (idx a0 x3) fun v4 =>
   bnd (idx a1 x3) fun v5 =>
   cnd (andB (decide (v4.x = v5.x)) (andB (decide (v4.y = v5.y)) true)) (
    some (.inl (IntKind.i64.wrap (x3 + 1)))) (
    some (.inr (.inr ()))))
noncomputable def laws_samePoints_l0_S (a0 : List TPoint) (a1 : List TPoint) : ((Int)) → St := fun x3 => ⟨[(0, AV.fsl (List.map ePoint a0)), (1, AV.fsl (List.map ePoint a1)), (5, AV.int .i64 x3)], [], 0⟩
noncomputable def laws_samePoints_l0_X (a0 : List TPoint) (a1 : List TPoint) : ((Unit) ⊕ (Unit)) → Ex × St := fun q => match q with
  | .inl _ => ((.exit 0), ⟨[], [], 0⟩)
  | .inr _ => (.ret, ⟨[(4, AV.bool false)], [], 0⟩)
noncomputable def laws_samePoints (a0 : List TPoint) (a1 : List TPoint) : Option ((Bool)) :=
  cnd (ieq (List.length a0 : Int) (List.length a1 : Int)) (
   bnd (loopI (laws_samePoints_l0 a0 a1) 0) fun q => match q with
   | .inl () =>
    some true
   | .inr () =>
    some false) (
   some false)
noncomputable def laws_samePoints_e (q : (List TPoint) × (List TPoint)) : List AV × List Ob := ([AV.fsl (List.map ePoint q.1), AV.fsl (List.map ePoint q.2)], [])
noncomputable def laws_samePoints_v (q : (List TPoint) × (List TPoint)) (r : (Bool)) : AV × List Ob := (AV.bool r, [])
noncomputable def laws_samePoints_x : List AV → List Ob → Option (AV × List Ob) := xOf laws_samePoints_e (fun q => laws_samePoints q.1 q.2) laws_samePoints_v
theorem laws_samePoints_i : ∀ a b, laws_samePoints_e a = laws_samePoints_e b → a = b := by rintro ⟨x0, x1⟩ ⟨y0, y1⟩ h; simp [laws_samePoints_e] at h; simp [h]
@[simp] theorem laws_samePoints_k (z0 : List TPoint) (z1 : List TPoint) : laws_samePoints_x [AV.fsl (List.map ePoint z0), AV.fsl (List.map ePoint z1)] [] = mapR (laws_samePoints z0 z1) (fun r => (AV.bool r, [])) :=
  xOf_eq laws_samePoints_i (z0, z1)
/-! laws_samePath: function 125 -/
noncomputable def laws_samePath (a0 : TPath) (a1 : TPath) : Option ((Bool)) :=
  bnd (laws_sameInts a0.verbs a1.verbs) fun v1 =>
  cnd v1 (
   bnd (laws_samePoints a0.points a1.points) fun v2 =>
   some v2) (
   some false)
noncomputable def laws_samePath_e (q : (TPath) × (TPath)) : List AV × List Ob := ([AV.agg [AV.fsl (List.map (AV.int .i64) q.1.verbs), AV.fsl (List.map ePoint q.1.points)], AV.agg [AV.fsl (List.map (AV.int .i64) q.2.verbs), AV.fsl (List.map ePoint q.2.points)]], [])
noncomputable def laws_samePath_v (q : (TPath) × (TPath)) (r : (Bool)) : AV × List Ob := (AV.bool r, [])
noncomputable def laws_samePath_x : List AV → List Ob → Option (AV × List Ob) := xOf laws_samePath_e (fun q => laws_samePath q.1 q.2) laws_samePath_v
theorem laws_samePath_i : ∀ a b, laws_samePath_e a = laws_samePath_e b → a = b := by rintro ⟨⟨x0, x1⟩, ⟨x2, x3⟩⟩ ⟨⟨y0, y1⟩, ⟨y2, y3⟩⟩ h; simp [laws_samePath_e] at h; simp [h]
@[simp] theorem laws_samePath_k (z0 : List Int) (z1 : List TPoint) (z2 : List Int) (z3 : List TPoint) : laws_samePath_x [AV.agg [AV.fsl (List.map (AV.int .i64) z0), AV.fsl (List.map ePoint z1)], AV.agg [AV.fsl (List.map (AV.int .i64) z2), AV.fsl (List.map ePoint z3)]] [] = mapR (laws_samePath ⟨z0, z1⟩ ⟨z2, z3⟩) (fun r => (AV.bool r, [])) :=
  xOf_eq laws_samePath_i (⟨z0, z1⟩, ⟨z2, z3⟩)
/-! laws_sameNode: function 51 -/
noncomputable def laws_sameNode (a0 : TNode) (a1 : TNode) : Option ((Bool)) :=
  cnd (ieq a0.id a1.id) (
   cnd (ieq a0.parent a1.parent) (
    cnd (andB (decide (a0.group = a1.group)) true) (
     cnd (andB (decide (a0.mat.a = a1.mat.a)) (andB (decide (a0.mat.b = a1.mat.b)) (andB (decide (a0.mat.c = a1.mat.c)) (andB (decide (a0.mat.d = a1.mat.d)) (andB (decide (a0.mat.e = a1.mat.e)) (andB (decide (a0.mat.f = a1.mat.f)) true)))))) (
      bnd (laws_samePath a0.path a1.path) fun v1 =>
      cnd v1 (
       cnd (andB (decide (a0.even = a1.even)) true) (
        cnd (ieq a0.width a1.width) (
         bnd (laws_sameInts a0.dashes a1.dashes) fun v2 =>
         cnd v2 (
          cnd (andB (decide (a0.paint.kind = a1.paint.kind)) (andB (decide (a0.paint.first.r = a1.paint.first.r)) (andB (decide (a0.paint.first.g = a1.paint.first.g)) (andB (decide (a0.paint.first.b = a1.paint.first.b)) (andB (decide (a0.paint.first.a = a1.paint.first.a)) (andB (decide (a0.paint.last.r = a1.paint.last.r)) (andB (decide (a0.paint.last.g = a1.paint.last.g)) (andB (decide (a0.paint.last.b = a1.paint.last.b)) (andB (decide (a0.paint.last.a = a1.paint.last.a)) (andB (decide (a0.paint.from_.x = a1.paint.from_.x)) (andB (decide (a0.paint.from_.y = a1.paint.from_.y)) (andB (decide (a0.paint.to.x = a1.paint.to.x)) (andB (decide (a0.paint.to.y = a1.paint.to.y)) true))))))))))))) (
           cnd (ieq a0.mode a1.mode) (
            cnd (ieq a0.fade a1.fade) (
             bnd (laws_samePath a0.clip a1.clip) fun v3 =>
             some v3) (
             some false)) (
            some false)) (
           some false)) (
          some false)) (
         some false)) (
        some false)) (
       some false)) (
      some false)) (
     some false)) (
    some false)) (
   some false)
noncomputable def laws_sameNode_e (q : (TNode) × (TNode)) : List AV × List Ob := ([AV.agg [AV.int .i64 q.1.id, AV.int .i64 q.1.parent, AV.bool q.1.group, AV.int .i64 q.1.mat.a, AV.int .i64 q.1.mat.b, AV.int .i64 q.1.mat.c, AV.int .i64 q.1.mat.d, AV.int .i64 q.1.mat.e, AV.int .i64 q.1.mat.f, AV.fsl (List.map (AV.int .i64) q.1.path.verbs), AV.fsl (List.map ePoint q.1.path.points), AV.bool q.1.even, AV.int .i64 q.1.width, AV.fsl (List.map (AV.int .i64) q.1.dashes), AV.int .i64 q.1.paint.kind, AV.int .i64 q.1.paint.first.r, AV.int .i64 q.1.paint.first.g, AV.int .i64 q.1.paint.first.b, AV.int .i64 q.1.paint.first.a, AV.int .i64 q.1.paint.last.r, AV.int .i64 q.1.paint.last.g, AV.int .i64 q.1.paint.last.b, AV.int .i64 q.1.paint.last.a, AV.int .i64 q.1.paint.from_.x, AV.int .i64 q.1.paint.from_.y, AV.int .i64 q.1.paint.to.x, AV.int .i64 q.1.paint.to.y, AV.int .i64 q.1.mode, AV.int .i64 q.1.fade, AV.fsl (List.map (AV.int .i64) q.1.clip.verbs), AV.fsl (List.map ePoint q.1.clip.points)], AV.agg [AV.int .i64 q.2.id, AV.int .i64 q.2.parent, AV.bool q.2.group, AV.int .i64 q.2.mat.a, AV.int .i64 q.2.mat.b, AV.int .i64 q.2.mat.c, AV.int .i64 q.2.mat.d, AV.int .i64 q.2.mat.e, AV.int .i64 q.2.mat.f, AV.fsl (List.map (AV.int .i64) q.2.path.verbs), AV.fsl (List.map ePoint q.2.path.points), AV.bool q.2.even, AV.int .i64 q.2.width, AV.fsl (List.map (AV.int .i64) q.2.dashes), AV.int .i64 q.2.paint.kind, AV.int .i64 q.2.paint.first.r, AV.int .i64 q.2.paint.first.g, AV.int .i64 q.2.paint.first.b, AV.int .i64 q.2.paint.first.a, AV.int .i64 q.2.paint.last.r, AV.int .i64 q.2.paint.last.g, AV.int .i64 q.2.paint.last.b, AV.int .i64 q.2.paint.last.a, AV.int .i64 q.2.paint.from_.x, AV.int .i64 q.2.paint.from_.y, AV.int .i64 q.2.paint.to.x, AV.int .i64 q.2.paint.to.y, AV.int .i64 q.2.mode, AV.int .i64 q.2.fade, AV.fsl (List.map (AV.int .i64) q.2.clip.verbs), AV.fsl (List.map ePoint q.2.clip.points)]], [])
noncomputable def laws_sameNode_v (q : (TNode) × (TNode)) (r : (Bool)) : AV × List Ob := (AV.bool r, [])
noncomputable def laws_sameNode_x : List AV → List Ob → Option (AV × List Ob) := xOf laws_sameNode_e (fun q => laws_sameNode q.1 q.2) laws_sameNode_v
theorem laws_sameNode_i : ∀ a b, laws_sameNode_e a = laws_sameNode_e b → a = b := by rintro ⟨⟨x0, x1, x2, ⟨x3, x4, x5, x6, x7, x8⟩, ⟨x9, x10⟩, x11, x12, x13, ⟨x14, ⟨x15, x16, x17, x18⟩, ⟨x19, x20, x21, x22⟩, ⟨x23, x24⟩, ⟨x25, x26⟩⟩, x27, x28, ⟨x29, x30⟩⟩, ⟨x31, x32, x33, ⟨x34, x35, x36, x37, x38, x39⟩, ⟨x40, x41⟩, x42, x43, x44, ⟨x45, ⟨x46, x47, x48, x49⟩, ⟨x50, x51, x52, x53⟩, ⟨x54, x55⟩, ⟨x56, x57⟩⟩, x58, x59, ⟨x60, x61⟩⟩⟩ ⟨⟨y0, y1, y2, ⟨y3, y4, y5, y6, y7, y8⟩, ⟨y9, y10⟩, y11, y12, y13, ⟨y14, ⟨y15, y16, y17, y18⟩, ⟨y19, y20, y21, y22⟩, ⟨y23, y24⟩, ⟨y25, y26⟩⟩, y27, y28, ⟨y29, y30⟩⟩, ⟨y31, y32, y33, ⟨y34, y35, y36, y37, y38, y39⟩, ⟨y40, y41⟩, y42, y43, y44, ⟨y45, ⟨y46, y47, y48, y49⟩, ⟨y50, y51, y52, y53⟩, ⟨y54, y55⟩, ⟨y56, y57⟩⟩, y58, y59, ⟨y60, y61⟩⟩⟩ h; simp [laws_sameNode_e] at h; simp [h]
@[simp] theorem laws_sameNode_k (z0 : Int) (z1 : Int) (z2 : Bool) (z3 : Int) (z4 : Int) (z5 : Int) (z6 : Int) (z7 : Int) (z8 : Int) (z9 : List Int) (z10 : List TPoint) (z11 : Bool) (z12 : Int) (z13 : List Int) (z14 : Int) (z15 : Int) (z16 : Int) (z17 : Int) (z18 : Int) (z19 : Int) (z20 : Int) (z21 : Int) (z22 : Int) (z23 : Int) (z24 : Int) (z25 : Int) (z26 : Int) (z27 : Int) (z28 : Int) (z29 : List Int) (z30 : List TPoint) (z31 : Int) (z32 : Int) (z33 : Bool) (z34 : Int) (z35 : Int) (z36 : Int) (z37 : Int) (z38 : Int) (z39 : Int) (z40 : List Int) (z41 : List TPoint) (z42 : Bool) (z43 : Int) (z44 : List Int) (z45 : Int) (z46 : Int) (z47 : Int) (z48 : Int) (z49 : Int) (z50 : Int) (z51 : Int) (z52 : Int) (z53 : Int) (z54 : Int) (z55 : Int) (z56 : Int) (z57 : Int) (z58 : Int) (z59 : Int) (z60 : List Int) (z61 : List TPoint) : laws_sameNode_x [AV.agg [AV.int .i64 z0, AV.int .i64 z1, AV.bool z2, AV.int .i64 z3, AV.int .i64 z4, AV.int .i64 z5, AV.int .i64 z6, AV.int .i64 z7, AV.int .i64 z8, AV.fsl (List.map (AV.int .i64) z9), AV.fsl (List.map ePoint z10), AV.bool z11, AV.int .i64 z12, AV.fsl (List.map (AV.int .i64) z13), AV.int .i64 z14, AV.int .i64 z15, AV.int .i64 z16, AV.int .i64 z17, AV.int .i64 z18, AV.int .i64 z19, AV.int .i64 z20, AV.int .i64 z21, AV.int .i64 z22, AV.int .i64 z23, AV.int .i64 z24, AV.int .i64 z25, AV.int .i64 z26, AV.int .i64 z27, AV.int .i64 z28, AV.fsl (List.map (AV.int .i64) z29), AV.fsl (List.map ePoint z30)], AV.agg [AV.int .i64 z31, AV.int .i64 z32, AV.bool z33, AV.int .i64 z34, AV.int .i64 z35, AV.int .i64 z36, AV.int .i64 z37, AV.int .i64 z38, AV.int .i64 z39, AV.fsl (List.map (AV.int .i64) z40), AV.fsl (List.map ePoint z41), AV.bool z42, AV.int .i64 z43, AV.fsl (List.map (AV.int .i64) z44), AV.int .i64 z45, AV.int .i64 z46, AV.int .i64 z47, AV.int .i64 z48, AV.int .i64 z49, AV.int .i64 z50, AV.int .i64 z51, AV.int .i64 z52, AV.int .i64 z53, AV.int .i64 z54, AV.int .i64 z55, AV.int .i64 z56, AV.int .i64 z57, AV.int .i64 z58, AV.int .i64 z59, AV.fsl (List.map (AV.int .i64) z60), AV.fsl (List.map ePoint z61)]] [] = mapR (laws_sameNode ⟨z0, z1, z2, ⟨z3, z4, z5, z6, z7, z8⟩, ⟨z9, z10⟩, z11, z12, z13, ⟨z14, ⟨z15, z16, z17, z18⟩, ⟨z19, z20, z21, z22⟩, ⟨z23, z24⟩, ⟨z25, z26⟩⟩, z27, z28, ⟨z29, z30⟩⟩ ⟨z31, z32, z33, ⟨z34, z35, z36, z37, z38, z39⟩, ⟨z40, z41⟩, z42, z43, z44, ⟨z45, ⟨z46, z47, z48, z49⟩, ⟨z50, z51, z52, z53⟩, ⟨z54, z55⟩, ⟨z56, z57⟩⟩, z58, z59, ⟨z60, z61⟩⟩) (fun r => (AV.bool r, [])) :=
  xOf_eq laws_sameNode_i (⟨z0, z1, z2, ⟨z3, z4, z5, z6, z7, z8⟩, ⟨z9, z10⟩, z11, z12, z13, ⟨z14, ⟨z15, z16, z17, z18⟩, ⟨z19, z20, z21, z22⟩, ⟨z23, z24⟩, ⟨z25, z26⟩⟩, z27, z28, ⟨z29, z30⟩⟩, ⟨z31, z32, z33, ⟨z34, z35, z36, z37, z38, z39⟩, ⟨z40, z41⟩, z42, z43, z44, ⟨z45, ⟨z46, z47, z48, z49⟩, ⟨z50, z51, z52, z53⟩, ⟨z54, z55⟩, ⟨z56, z57⟩⟩, z58, z59, ⟨z60, z61⟩⟩)
/-! laws_sameScene: function 49 -/
noncomputable def laws_sameScene_l0 (a0 : TScene) (a1 : TScene) : ((Int)) → Option (((Int)) ⊕ ((Unit) ⊕ (Unit))) := fun x4 =>
  cnd (ile (List.length a0.nodes : Int) x4) (
   some (.inr (.inl ()))) (
   bnd (idx a0.nodes x4) fun v5 =>
   bnd (idx a1.nodes x4) fun v6 =>
   bnd (laws_sameNode v5 v6) fun v7 =>
   cnd v7 (
    some (.inl (IntKind.i64.wrap (x4 + 1)))) (
    some (.inr (.inr ()))))
noncomputable def laws_sameScene_l0_S (a0 : TScene) (a1 : TScene) : ((Int)) → St := fun x4 => ⟨[(2, AV.optr 0 0 1), (3, AV.optr 1 0 1), (5, AV.int .i64 x4)], [(0, Ob.box [AV.fsl (List.map eNode a0.nodes)]), (1, Ob.box [AV.fsl (List.map eNode a1.nodes)])], 2⟩
noncomputable def laws_sameScene_l0_X (a0 : TScene) (a1 : TScene) : ((Unit) ⊕ (Unit)) → Ex × St := fun q => match q with
  | .inl _ => ((.exit 0), ⟨[], [], 0⟩)
  | .inr _ => (.ret, ⟨[(4, AV.bool false)], [], 0⟩)
noncomputable def laws_sameScene (a0 : TScene) (a1 : TScene) : Option ((Bool)) :=
  cnd (ieq (List.length a0.nodes : Int) (List.length a1.nodes : Int)) (
   bnd (loopI (laws_sameScene_l0 a0 a1) 0) fun q => match q with
   | .inl () =>
    some true
   | .inr () =>
    some false) (
   some false)
noncomputable def laws_sameScene_e (q : (TScene) × (TScene)) : List AV × List Ob := ([AV.agg [AV.fsl (List.map eNode q.1.nodes)], AV.agg [AV.fsl (List.map eNode q.2.nodes)]], [])
noncomputable def laws_sameScene_v (q : (TScene) × (TScene)) (r : (Bool)) : AV × List Ob := (AV.bool r, [])
noncomputable def laws_sameScene_x : List AV → List Ob → Option (AV × List Ob) := xOf laws_sameScene_e (fun q => laws_sameScene q.1 q.2) laws_sameScene_v
theorem laws_sameScene_i : ∀ a b, laws_sameScene_e a = laws_sameScene_e b → a = b := by rintro ⟨⟨x0⟩, ⟨x1⟩⟩ ⟨⟨y0⟩, ⟨y1⟩⟩ h; simp [laws_sameScene_e] at h; simp [h]
@[simp] theorem laws_sameScene_k (z0 : List TNode) (z1 : List TNode) : laws_sameScene_x [AV.agg [AV.fsl (List.map eNode z0)], AV.agg [AV.fsl (List.map eNode z1)]] [] = mapR (laws_sameScene ⟨z0⟩ ⟨z1⟩) (fun r => (AV.bool r, [])) :=
  xOf_eq laws_sameScene_i (⟨z0⟩, ⟨z1⟩)
/-! spec_l15Under: function 126 -/
noncomputable def spec_l15Under_l0 (a0 : TScene) (a2 : Int) : ((Int) × (Int)) → Option (((Int) × (Int)) ⊕ (((Bool)) ⊕ (Unit))) := fun (x3, x4) =>
  cnd (ile x4 8) (
   cnd (ieq x3 a2) (
    some (.inr (.inl true))) (
    bnd (spec_NodeAt a0 x3) fun v5 =>
    cnd (ile 0 v5) (
     bnd (idx a0.nodes v5) fun v6 =>
     some (.inl (v6.parent, (IntKind.i64.wrap (x4 + 1))))) (
     some (.inr (.inl false))))) (
   some (.inr (.inr ())))
noncomputable def spec_l15Under_l0_S (a0 : TScene) (a2 : Int) : ((Int) × (Int)) → St := fun (x3, x4) => ⟨[(1, AV.int .i64 x3), (2, AV.int .i64 a2), (3, AV.optr 0 0 1), (7, AV.int .i64 x4)], [(0, Ob.box [AV.fsl (List.map eNode a0.nodes)])], 1⟩
noncomputable def spec_l15Under_l0_X (a0 : TScene) (a2 : Int) : (((Bool)) ⊕ (Unit)) → Ex × St := fun q => match q with
  | .inl y7 => (.ret, ⟨[(6, AV.bool y7)], [], 0⟩)
  | .inr _ => ((.exit 0), ⟨[], [], 0⟩)
noncomputable def spec_l15Under (a0 : TScene) (a1 : Int) (a2 : Int) : Option ((Bool)) :=
  bnd (loopI (spec_l15Under_l0 a0 a2) (a1, 0)) fun q => match q with
  | .inl y7 =>
   some y7
  | .inr () =>
   some false
noncomputable def spec_l15Under_e (q : (TScene) × (Int) × (Int)) : List AV × List Ob := ([AV.agg [AV.fsl (List.map eNode q.1.nodes)], AV.int .i64 q.2.1, AV.int .i64 q.2.2], [])
noncomputable def spec_l15Under_v (q : (TScene) × (Int) × (Int)) (r : (Bool)) : AV × List Ob := (AV.bool r, [])
noncomputable def spec_l15Under_x : List AV → List Ob → Option (AV × List Ob) := xOf spec_l15Under_e (fun q => spec_l15Under q.1 q.2.1 q.2.2) spec_l15Under_v
theorem spec_l15Under_i : ∀ a b, spec_l15Under_e a = spec_l15Under_e b → a = b := by rintro ⟨⟨x0⟩, x1, x2⟩ ⟨⟨y0⟩, y1, y2⟩ h; simp [spec_l15Under_e] at h; simp [h]
@[simp] theorem spec_l15Under_k (z0 : List TNode) (z1 : Int) (z2 : Int) : spec_l15Under_x [AV.agg [AV.fsl (List.map eNode z0)], AV.int .i64 z1, AV.int .i64 z2] [] = mapR (spec_l15Under ⟨z0⟩ z1 z2) (fun r => (AV.bool r, [])) :=
  xOf_eq spec_l15Under_i (⟨z0⟩, z1, z2)
/-! spec_UnderOf: function 52 -/
noncomputable def spec_UnderOf_l0 (a0 : TScene) (a1 : Int) : ((Int) × (List Int)) → Option (((Int) × (List Int)) ⊕ ((List Int))) := fun (x4, x5) =>
  cnd (ile (List.length a0.nodes : Int) x4) (
   some (.inr x5)) (
   bnd (idx a0.nodes x4) fun v6 =>
   bnd (spec_l15Under a0 v6.id a1) fun v7 =>
   cnd v7 (
    chkP ((List.length x5 + 1) * 8 ≤ 17592186044416) (
    nam ((x5 ++ [v6.id]) : List Int) fun l8 =>
    some (.inl ((IntKind.i64.wrap (x4 + 1)), l8)))) (
    some (.inl ((IntKind.i64.wrap (x4 + 1)), x5))))
noncomputable def spec_UnderOf_l0_S (a0 : TScene) (a1 : Int) : ((Int) × (List Int)) → St := fun (x4, x5) => ⟨[(1, AV.int .i64 a1), (2, AV.optr 0 0 1), (5, AV.osl 1 0 (List.length x5) (List.length x5)), (6, AV.int .i64 x4)], [(0, Ob.box [AV.fsl (List.map eNode a0.nodes)]), (1, Ob.arr 1 (List.map (AV.int .i64) x5) false)], 2⟩
noncomputable def spec_UnderOf_l0_X (a0 : TScene) (a1 : Int) : ((List Int)) → Ex × St := fun y9 => ((.exit 0), ⟨[(5, AV.osl 0 0 (List.length y9) (List.length y9))], [(0, Ob.arr 1 (List.map (AV.int .i64) y9) false)], 1⟩)
noncomputable def spec_UnderOf (a0 : TScene) (a1 : Int) : Option ((List Int)) :=
  bnd (spec_NodeAt a0 a1) fun v1 =>
  cnd (ile 0 v1) (
   bnd (loopI (spec_UnderOf_l0 a0 a1) (0, [])) fun y9 =>
   some y9) (
   some [])
noncomputable def spec_UnderOf_e (q : (TScene) × (Int)) : List AV × List Ob := ([AV.agg [AV.fsl (List.map eNode q.1.nodes)], AV.int .i64 q.2], [])
noncomputable def spec_UnderOf_v (q : (TScene) × (Int)) (r : (List Int)) : AV × List Ob := (AV.fsl (List.map (AV.int .i64) r), [])
noncomputable def spec_UnderOf_x : List AV → List Ob → Option (AV × List Ob) := xOf spec_UnderOf_e (fun q => spec_UnderOf q.1 q.2) spec_UnderOf_v
theorem spec_UnderOf_i : ∀ a b, spec_UnderOf_e a = spec_UnderOf_e b → a = b := by rintro ⟨⟨x0⟩, x1⟩ ⟨⟨y0⟩, y1⟩ h; simp [spec_UnderOf_e] at h; simp [h]
@[simp] theorem spec_UnderOf_k (z0 : List TNode) (z1 : Int) : spec_UnderOf_x [AV.agg [AV.fsl (List.map eNode z0)], AV.int .i64 z1] [] = mapR (spec_UnderOf ⟨z0⟩ z1) (fun r => (AV.fsl (List.map (AV.int .i64) r), [])) :=
  xOf_eq spec_UnderOf_i (⟨z0⟩, z1)
/-! laws_FnCreates: function 8 -/
noncomputable def laws_FnCreates_l0 (v2 : TScene) : ((Int)) → Option (((Int)) ⊕ ((Unit) ⊕ (Unit))) := fun x24 =>
  cnd (ile (List.length v2.nodes : Int) x24) (
   some (.inr (.inl ()))) (
   bnd (idx v2.nodes x24) fun v25 =>
   bnd (spec_UnderOf v2 v25.id) fun v26 =>
   bnd (impl_DropNode v2 v25.id) fun (w28, w29) =>
   cnd (ieq w29 0) (
    bnd (impl_SceneOk w28) fun v30 =>
    cnd v30 (
     cnd (ieq (IntKind.i64.wrap ((List.length w28.nodes : Int) + (List.length v26 : Int))) (List.length v2.nodes : Int)) (
      bnd (impl_NodeAt w28 v25.id) fun v31 =>
      cnd (ile 0 v31) (
       some (.inr (.inr ()))) (
       some (.inl (IntKind.i64.wrap (x24 + 1))))) (
      some (.inr (.inr ())))) (
     some (.inr (.inr ())))) (
    some (.inr (.inr ()))))
noncomputable def laws_FnCreates_l0_S (v2 : TScene) : ((Int)) → St := fun x24 => ⟨[(3, AV.optr 0 0 1), (11, AV.int .i64 x24)], [(0, Ob.box [AV.fsl (List.map eNode v2.nodes)])], 1⟩
noncomputable def laws_FnCreates_l0_X (v2 : TScene) : ((Unit) ⊕ (Unit)) → Ex × St := fun q => match q with
  | .inl _ => ((.exit 0), ⟨[(3, AV.optr 0 0 1)], [(0, Ob.box [AV.fsl (List.map eNode v2.nodes)])], 1⟩)
  | .inr _ => (.ret, ⟨[(2, AV.bool false)], [], 0⟩)
noncomputable def laws_FnCreates_l1 (v2 : TScene) : ((Int)) → Option (((Int)) ⊕ ((Unit) ⊕ (Unit))) := fun x46 =>
  cnd (ile (List.length v2.nodes : Int) x46) (
   some (.inr (.inl ()))) (
   bnd (idx v2.nodes x46) fun v47 =>
   bnd (spec_UnderOf v2 v47.id) fun v48 =>
   bnd (impl_DropNode v2 v47.id) fun (w50, w51) =>
   cnd (ieq w51 0) (
    bnd (impl_SceneOk w50) fun v52 =>
    cnd v52 (
     cnd (ieq (IntKind.i64.wrap ((List.length w50.nodes : Int) + (List.length v48 : Int))) (List.length v2.nodes : Int)) (
      bnd (impl_NodeAt w50 v47.id) fun v53 =>
      cnd (ile 0 v53) (
       some (.inr (.inr ()))) (
       some (.inl (IntKind.i64.wrap (x46 + 1))))) (
      some (.inr (.inr ())))) (
     some (.inr (.inr ())))) (
    some (.inr (.inr ()))))
noncomputable def laws_FnCreates_l1_S (v2 : TScene) : ((Int)) → St := fun x46 => ⟨[(3, AV.optr 0 0 1), (11, AV.int .i64 x46)], [(0, Ob.box [AV.fsl (List.map eNode v2.nodes)])], 1⟩
noncomputable def laws_FnCreates_l1_X (v2 : TScene) : ((Unit) ⊕ (Unit)) → Ex × St := fun q => match q with
  | .inl _ => ((.exit 0), ⟨[(3, AV.optr 0 0 1)], [(0, Ob.box [AV.fsl (List.map eNode v2.nodes)])], 1⟩)
  | .inr _ => (.ret, ⟨[(2, AV.bool false)], [], 0⟩)
noncomputable def laws_FnCreates (a0 : List Int) : Option ((Bool)) :=
  bnd (laws_big a0) fun v1 =>
  cnd v1 (
   some true) (
   bnd (spec_DrawScene a0) fun v2 =>
   bnd (spec_DrawNode a0) fun v3 =>
   bnd (impl_CreateNode v2 v3) fun (w5, w6) =>
   bnd (spec_CreateNode v2 v3) fun (w8, w9) =>
   cnd (ieq w6 w9) (
    bnd (impl_SceneOk w5) fun v10 =>
    cnd v10 (
     cnd (ieq w6 0) (
      bnd (impl_DropNode w5 v3.id) fun (w12, w13) =>
      bnd (idx w5.nodes (IntKind.i64.wrap ((List.length w5.nodes : Int) - 1))) fun v14 =>
      bnd (laws_sameNode v14 v3) fun v15 =>
      cnd v15 (
       cnd (ieq w13 0) (
        bnd (laws_sameScene w12 v2) fun v16 =>
        cnd v16 (
         bnd (loopI (laws_FnCreates_l0 v2) 0) fun q => match q with
         | .inl () =>
          bnd (impl_DropNode v2 98) fun (w33, w34) =>
          bnd (impl_CreateNode v2 (TNode.mk 0 0 false (TMat.mk 0 0 0 0 0 0) (TPath.mk [] []) false 0 [] (TPaint.mk 0 (TColor.mk 0 0 0 0) (TColor.mk 0 0 0 0) (TPoint.mk 0 0) (TPoint.mk 0 0)) 0 0 (TPath.mk [] []))) fun (w36, w37) =>
          cnd (ieq w34 2) (
           some (ieq w37 1)) (
           some false)
         | .inr () =>
          some false) (
         some false)) (
        some false)) (
       some false)) (
      bnd (laws_sameScene w5 v2) fun v38 =>
      cnd v38 (
       bnd (loopI (laws_FnCreates_l1 v2) 0) fun q => match q with
       | .inl () =>
        bnd (impl_DropNode v2 98) fun (w55, w56) =>
        bnd (impl_CreateNode v2 (TNode.mk 0 0 false (TMat.mk 0 0 0 0 0 0) (TPath.mk [] []) false 0 [] (TPaint.mk 0 (TColor.mk 0 0 0 0) (TColor.mk 0 0 0 0) (TPoint.mk 0 0) (TPoint.mk 0 0)) 0 0 (TPath.mk [] []))) fun (w58, w59) =>
        cnd (ieq w56 2) (
         some (ieq w59 1)) (
         some false)
       | .inr () =>
        some false) (
       some false))) (
     some false)) (
    some false))
noncomputable def laws_FnCreates_e (q : (List Int)) : List AV × List Ob := ([AV.fsl (List.map (AV.int .u8) q)], [])
noncomputable def laws_FnCreates_v (q : (List Int)) (r : (Bool)) : AV × List Ob := (AV.bool r, [])
noncomputable def laws_FnCreates_x : List AV → List Ob → Option (AV × List Ob) := xOf laws_FnCreates_e (fun q => laws_FnCreates q) laws_FnCreates_v
theorem laws_FnCreates_i : ∀ a b, laws_FnCreates_e a = laws_FnCreates_e b → a = b := by rintro x0 y0 h; simp [laws_FnCreates_e] at h; simp [h]
@[simp] theorem laws_FnCreates_k (z0 : List Int) : laws_FnCreates_x [AV.fsl (List.map (AV.int .u8) z0)] [] = mapR (laws_FnCreates z0) (fun r => (AV.bool r, [])) :=
  xOf_eq laws_FnCreates_i z0
end Go.Proofs.Ytafljhadfoaceaa.Am
