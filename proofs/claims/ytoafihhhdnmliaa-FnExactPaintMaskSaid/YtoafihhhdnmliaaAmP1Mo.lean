import Derived.Test.YtoafihhhdnmliaaAmP1Ty
set_option linter.unusedVariables false
set_option linter.unusedSimpArgs false
set_option linter.unusedSectionVars false
namespace Go.Proofs.Ytoafihhhdnmliaa.Am
open Go Go.Proofs
set_option maxRecDepth 100000
set_option linter.unusedSimpArgs false
set_option linter.unusedVariables false
set_option maxHeartbeats 4000000
/-! laws_szColorS: function 140 -/
noncomputable def laws_szColorS (a0 : List TColor) (a1 : Int) : Option ((Int)) :=
  cnd (ile 0 (IntKind.i64.wrap (a1 - (List.length a0 : Int)))) (
   some (IntKind.i64.wrap (a1 - (List.length a0 : Int)))) (
   some (-1))
noncomputable def laws_szColorS_e (q : (List TColor) × (Int)) : List AV × List Ob := ([AV.fsl (List.map eColor q.1), AV.int .i64 q.2], [])
noncomputable def laws_szColorS_v (q : (List TColor) × (Int)) (r : (Int)) : AV × List Ob := (AV.int .i64 r, [])
noncomputable def laws_szColorS_x : List AV → List Ob → Option (AV × List Ob) := xOf laws_szColorS_e (fun q => laws_szColorS q.1 q.2) laws_szColorS_v
theorem laws_szColorS_i : ∀ a b, laws_szColorS_e a = laws_szColorS_e b → a = b := by rintro ⟨x0, x1⟩ ⟨y0, y1⟩ h; simp [laws_szColorS_e] at h; simp [h]
@[simp] theorem laws_szColorS_k (z0 : List TColor) (z1 : Int) : laws_szColorS_x [AV.fsl (List.map eColor z0), AV.int .i64 z1] [] = mapR (laws_szColorS z0 z1) (fun r => (AV.int .i64 r, [])) :=
  xOf_eq laws_szColorS_i (z0, z1)
/-! laws_szSurface: function 61 -/
noncomputable def laws_szSurface (a0 : TSurface) (a1 : Int) : Option ((Int)) :=
  bnd (laws_szColorS a0.pix a1) fun v1 =>
  cnd (ile 0 v1) (
   some v1) (
   some (-1))
noncomputable def laws_szSurface_e (q : (TSurface) × (Int)) : List AV × List Ob := ([AV.agg [AV.int .i64 q.1.w, AV.int .i64 q.1.h, AV.fsl (List.map eColor q.1.pix)], AV.int .i64 q.2], [])
noncomputable def laws_szSurface_v (q : (TSurface) × (Int)) (r : (Int)) : AV × List Ob := (AV.int .i64 r, [])
noncomputable def laws_szSurface_x : List AV → List Ob → Option (AV × List Ob) := xOf laws_szSurface_e (fun q => laws_szSurface q.1 q.2) laws_szSurface_v
theorem laws_szSurface_i : ∀ a b, laws_szSurface_e a = laws_szSurface_e b → a = b := by rintro ⟨⟨x0, x1, x2⟩, x3⟩ ⟨⟨y0, y1, y2⟩, y3⟩ h; simp [laws_szSurface_e] at h; simp [h]
@[simp] theorem laws_szSurface_k (z0 : Int) (z1 : Int) (z2 : List TColor) (z3 : Int) : laws_szSurface_x [AV.agg [AV.int .i64 z0, AV.int .i64 z1, AV.fsl (List.map eColor z2)], AV.int .i64 z3] [] = mapR (laws_szSurface ⟨z0, z1, z2⟩ z3) (fun r => (AV.int .i64 r, [])) :=
  xOf_eq laws_szSurface_i (⟨z0, z1, z2⟩, z3)
/-! laws_szIntS: function 80 -/
noncomputable def laws_szIntS (a0 : List Int) (a1 : Int) : Option ((Int)) :=
  cnd (ile 0 (IntKind.i64.wrap (a1 - (List.length a0 : Int)))) (
   some (IntKind.i64.wrap (a1 - (List.length a0 : Int)))) (
   some (-1))
noncomputable def laws_szIntS_e (q : (List Int) × (Int)) : List AV × List Ob := ([AV.fsl (List.map (AV.int .i64) q.1), AV.int .i64 q.2], [])
noncomputable def laws_szIntS_v (q : (List Int) × (Int)) (r : (Int)) : AV × List Ob := (AV.int .i64 r, [])
noncomputable def laws_szIntS_x : List AV → List Ob → Option (AV × List Ob) := xOf laws_szIntS_e (fun q => laws_szIntS q.1 q.2) laws_szIntS_v
theorem laws_szIntS_i : ∀ a b, laws_szIntS_e a = laws_szIntS_e b → a = b := by rintro ⟨x0, x1⟩ ⟨y0, y1⟩ h; simp [laws_szIntS_e] at h; simp [h]
@[simp] theorem laws_szIntS_k (z0 : List Int) (z1 : Int) : laws_szIntS_x [AV.fsl (List.map (AV.int .i64) z0), AV.int .i64 z1] [] = mapR (laws_szIntS z0 z1) (fun r => (AV.int .i64 r, [])) :=
  xOf_eq laws_szIntS_i (z0, z1)
/-! laws_szMask: function 66 -/
noncomputable def laws_szMask (a0 : TMask) (a1 : Int) : Option ((Int)) :=
  bnd (laws_szIntS a0.bits a1) fun v1 =>
  cnd (ile 0 v1) (
   some v1) (
   some (-1))
noncomputable def laws_szMask_e (q : (TMask) × (Int)) : List AV × List Ob := ([AV.agg [AV.int .i64 q.1.box.x0, AV.int .i64 q.1.box.y0, AV.int .i64 q.1.box.x1, AV.int .i64 q.1.box.y1, AV.fsl (List.map (AV.int .i64) q.1.bits)], AV.int .i64 q.2], [])
noncomputable def laws_szMask_v (q : (TMask) × (Int)) (r : (Int)) : AV × List Ob := (AV.int .i64 r, [])
noncomputable def laws_szMask_x : List AV → List Ob → Option (AV × List Ob) := xOf laws_szMask_e (fun q => laws_szMask q.1 q.2) laws_szMask_v
theorem laws_szMask_i : ∀ a b, laws_szMask_e a = laws_szMask_e b → a = b := by rintro ⟨⟨⟨x0, x1, x2, x3⟩, x4⟩, x5⟩ ⟨⟨⟨y0, y1, y2, y3⟩, y4⟩, y5⟩ h; simp [laws_szMask_e] at h; simp [h]
@[simp] theorem laws_szMask_k (z0 : Int) (z1 : Int) (z2 : Int) (z3 : Int) (z4 : List Int) (z5 : Int) : laws_szMask_x [AV.agg [AV.int .i64 z0, AV.int .i64 z1, AV.int .i64 z2, AV.int .i64 z3, AV.fsl (List.map (AV.int .i64) z4)], AV.int .i64 z5] [] = mapR (laws_szMask ⟨⟨z0, z1, z2, z3⟩, z4⟩ z5) (fun r => (AV.int .i64 r, [])) :=
  xOf_eq laws_szMask_i (⟨⟨z0, z1, z2, z3⟩, z4⟩, z5)
/-! laws_toColor: function 145 -/
noncomputable def laws_toColor (a0 : TColor) : Option ((TColor)) :=
  some a0
noncomputable def laws_toColor_e (q : (TColor)) : List AV × List Ob := ([AV.agg [AV.int .i64 q.r, AV.int .i64 q.g, AV.int .i64 q.b, AV.int .i64 q.a]], [])
noncomputable def laws_toColor_v (q : (TColor)) (r : (TColor)) : AV × List Ob := (AV.agg [AV.int .i64 r.r, AV.int .i64 r.g, AV.int .i64 r.b, AV.int .i64 r.a], [])
noncomputable def laws_toColor_x : List AV → List Ob → Option (AV × List Ob) := xOf laws_toColor_e (fun q => laws_toColor q) laws_toColor_v
theorem laws_toColor_i : ∀ a b, laws_toColor_e a = laws_toColor_e b → a = b := by rintro ⟨x0, x1, x2, x3⟩ ⟨y0, y1, y2, y3⟩ h; simp [laws_toColor_e] at h; simp [h]
@[simp] theorem laws_toColor_k (z0 : Int) (z1 : Int) (z2 : Int) (z3 : Int) : laws_toColor_x [AV.agg [AV.int .i64 z0, AV.int .i64 z1, AV.int .i64 z2, AV.int .i64 z3]] [] = mapR (laws_toColor ⟨z0, z1, z2, z3⟩) (fun r => (AV.agg [AV.int .i64 r.r, AV.int .i64 r.g, AV.int .i64 r.b, AV.int .i64 r.a], [])) :=
  xOf_eq laws_toColor_i ⟨z0, z1, z2, z3⟩
/-! laws_toColorS: function 141 -/
noncomputable def laws_toColorS_l0 (a0 : List TColor) : ((Int) × (List TColor)) → Option (((Int) × (List TColor)) ⊕ ((List TColor))) := fun (x6, x7) =>
  cnd (ile (List.length a0 : Int) x6) (
   some (.inr x7)) (
   bnd (idx a0 x6) fun v8 =>
   bnd (laws_toColor v8) fun v9 =>
   bnd (idx x7 x6) fun v10 =>
   nam ((List.set x7 (Int.toNat x6) v9) : List TColor) fun l11 =>
   some (.inl ((IntKind.i64.wrap (x6 + 1)), l11)))
noncomputable def laws_toColorS_l0_S (a0 : List TColor) : ((Int) × (List TColor)) → St := fun (x6, x7) => ⟨[(0, AV.fsl (List.map eColor a0)), (3, AV.osl 0 0 (List.length x7) (List.length x7)), (4, AV.int .i64 x6)], [(0, Ob.arr 4 (List.map eColor x7) false)], 1⟩
noncomputable def laws_toColorS_l0_X (a0 : List TColor) : ((List TColor)) → Ex × St := fun y12 => ((.exit 0), ⟨[(3, AV.osl 0 0 (List.length y12) (List.length y12))], [(0, Ob.arr 4 (List.map eColor y12) false)], 1⟩)
noncomputable def laws_toColorS (a0 : List TColor) : Option ((List TColor)) :=
  chkP (0 ≤ (List.length a0 : Int) ∧ (List.length a0 : Int) ≤ (List.length a0 : Int) ∧ (List.length a0 : Int) ≤ 17592186044416 ∧ (List.length a0 : Int) * 32 ≤ 17592186044416) (
  nam ((List.replicate (Int.toNat (List.length a0 : Int)) (TColor.mk 0 0 0 0)) : List TColor) fun l1 =>
  bnd (loopI (laws_toColorS_l0 a0) (0, l1)) fun y12 =>
  some y12)
noncomputable def laws_toColorS_e (q : (List TColor)) : List AV × List Ob := ([AV.fsl (List.map eColor q)], [])
noncomputable def laws_toColorS_v (q : (List TColor)) (r : (List TColor)) : AV × List Ob := (AV.osl 0 0 (List.length r) (List.length r), [Ob.arr 4 (List.map eColor r) false])
noncomputable def laws_toColorS_x : List AV → List Ob → Option (AV × List Ob) := xOf laws_toColorS_e (fun q => laws_toColorS q) laws_toColorS_v
theorem laws_toColorS_i : ∀ a b, laws_toColorS_e a = laws_toColorS_e b → a = b := by rintro x0 y0 h; simp [laws_toColorS_e] at h; simp [h]
@[simp] theorem laws_toColorS_k (z0 : List TColor) : laws_toColorS_x [AV.fsl (List.map eColor z0)] [] = mapR (laws_toColorS z0) (fun r => (AV.osl 0 0 (List.length r) (List.length r), [Ob.arr 4 (List.map eColor r) false])) :=
  xOf_eq laws_toColorS_i z0
/-! laws_toSurface: function 62 -/
noncomputable def laws_toSurface (a0 : TSurface) : Option ((Int) × (Int) × (List TColor)) :=
  bnd (laws_toColorS a0.pix) fun v1 =>
  some (a0.w, a0.h, v1)
noncomputable def laws_toSurface_e (q : (TSurface)) : List AV × List Ob := ([AV.agg [AV.int .i64 q.w, AV.int .i64 q.h, AV.fsl (List.map eColor q.pix)]], [])
noncomputable def laws_toSurface_v (q : (TSurface)) (r : (Int) × (Int) × (List TColor)) : AV × List Ob := (AV.agg [AV.int .i64 r.1, AV.int .i64 r.2.1, AV.osl 0 0 (List.length r.2.2) (List.length r.2.2)], [Ob.arr 4 (List.map eColor r.2.2) false])
noncomputable def laws_toSurface_x : List AV → List Ob → Option (AV × List Ob) := xOf laws_toSurface_e (fun q => laws_toSurface q) laws_toSurface_v
theorem laws_toSurface_i : ∀ a b, laws_toSurface_e a = laws_toSurface_e b → a = b := by rintro ⟨x0, x1, x2⟩ ⟨y0, y1, y2⟩ h; simp [laws_toSurface_e] at h; simp [h]
@[simp] theorem laws_toSurface_k (z0 : Int) (z1 : Int) (z2 : List TColor) : laws_toSurface_x [AV.agg [AV.int .i64 z0, AV.int .i64 z1, AV.fsl (List.map eColor z2)]] [] = mapR (laws_toSurface ⟨z0, z1, z2⟩) (fun r => (AV.agg [AV.int .i64 r.1, AV.int .i64 r.2.1, AV.osl 0 0 (List.length r.2.2) (List.length r.2.2)], [Ob.arr 4 (List.map eColor r.2.2) false])) :=
  xOf_eq laws_toSurface_i ⟨z0, z1, z2⟩
/-! laws_toBox: function 137 -/
noncomputable def laws_toBox (a0 : TBox) : Option ((TBox)) :=
  some a0
noncomputable def laws_toBox_e (q : (TBox)) : List AV × List Ob := ([AV.agg [AV.int .i64 q.x0, AV.int .i64 q.y0, AV.int .i64 q.x1, AV.int .i64 q.y1]], [])
noncomputable def laws_toBox_v (q : (TBox)) (r : (TBox)) : AV × List Ob := (AV.agg [AV.int .i64 r.x0, AV.int .i64 r.y0, AV.int .i64 r.x1, AV.int .i64 r.y1], [])
noncomputable def laws_toBox_x : List AV → List Ob → Option (AV × List Ob) := xOf laws_toBox_e (fun q => laws_toBox q) laws_toBox_v
theorem laws_toBox_i : ∀ a b, laws_toBox_e a = laws_toBox_e b → a = b := by rintro ⟨x0, x1, x2, x3⟩ ⟨y0, y1, y2, y3⟩ h; simp [laws_toBox_e] at h; simp [h]
@[simp] theorem laws_toBox_k (z0 : Int) (z1 : Int) (z2 : Int) (z3 : Int) : laws_toBox_x [AV.agg [AV.int .i64 z0, AV.int .i64 z1, AV.int .i64 z2, AV.int .i64 z3]] [] = mapR (laws_toBox ⟨z0, z1, z2, z3⟩) (fun r => (AV.agg [AV.int .i64 r.x0, AV.int .i64 r.y0, AV.int .i64 r.x1, AV.int .i64 r.y1], [])) :=
  xOf_eq laws_toBox_i ⟨z0, z1, z2, z3⟩
/-! laws_toIntS: function 86 -/
noncomputable def laws_toIntS_l0 (a0 : List Int) : ((Int) × (List Int)) → Option (((Int) × (List Int)) ⊕ ((List Int))) := fun (x5, x6) =>
  cnd (ile (List.length a0 : Int) x5) (
   some (.inr x6)) (
   bnd (idx a0 x5) fun v7 =>
   bnd (idx x6 x5) fun v8 =>
   nam ((List.set x6 (Int.toNat x5) v7) : List Int) fun l9 =>
   some (.inl ((IntKind.i64.wrap (x5 + 1)), l9)))
noncomputable def laws_toIntS_l0_S (a0 : List Int) : ((Int) × (List Int)) → St := fun (x5, x6) => ⟨[(0, AV.fsl (List.map (AV.int .i64) a0)), (3, AV.osl 0 0 (List.length x6) (List.length x6)), (4, AV.int .i64 x5)], [(0, Ob.arr 1 (List.map (AV.int .i64) x6) false)], 1⟩
noncomputable def laws_toIntS_l0_X (a0 : List Int) : ((List Int)) → Ex × St := fun y10 => ((.exit 0), ⟨[(3, AV.osl 0 0 (List.length y10) (List.length y10))], [(0, Ob.arr 1 (List.map (AV.int .i64) y10) false)], 1⟩)
noncomputable def laws_toIntS (a0 : List Int) : Option ((List Int)) :=
  chkP (0 ≤ (List.length a0 : Int) ∧ (List.length a0 : Int) ≤ (List.length a0 : Int) ∧ (List.length a0 : Int) ≤ 17592186044416 ∧ (List.length a0 : Int) * 8 ≤ 17592186044416) (
  nam ((List.replicate (Int.toNat (List.length a0 : Int)) 0) : List Int) fun l1 =>
  bnd (loopI (laws_toIntS_l0 a0) (0, l1)) fun y10 =>
  some y10)
noncomputable def laws_toIntS_e (q : (List Int)) : List AV × List Ob := ([AV.fsl (List.map (AV.int .i64) q)], [])
noncomputable def laws_toIntS_v (q : (List Int)) (r : (List Int)) : AV × List Ob := (AV.osl 0 0 (List.length r) (List.length r), [Ob.arr 1 (List.map (AV.int .i64) r) false])
noncomputable def laws_toIntS_x : List AV → List Ob → Option (AV × List Ob) := xOf laws_toIntS_e (fun q => laws_toIntS q) laws_toIntS_v
theorem laws_toIntS_i : ∀ a b, laws_toIntS_e a = laws_toIntS_e b → a = b := by rintro x0 y0 h; simp [laws_toIntS_e] at h; simp [h]
@[simp] theorem laws_toIntS_k (z0 : List Int) : laws_toIntS_x [AV.fsl (List.map (AV.int .i64) z0)] [] = mapR (laws_toIntS z0) (fun r => (AV.osl 0 0 (List.length r) (List.length r), [Ob.arr 1 (List.map (AV.int .i64) r) false])) :=
  xOf_eq laws_toIntS_i z0
/-! laws_toMask: function 68 -/
noncomputable def laws_toMask (a0 : TMask) : Option ((TBox) × (List Int)) :=
  bnd (laws_toBox a0.box) fun v1 =>
  bnd (laws_toIntS a0.bits) fun v2 =>
  some (v1, v2)
noncomputable def laws_toMask_e (q : (TMask)) : List AV × List Ob := ([AV.agg [AV.int .i64 q.box.x0, AV.int .i64 q.box.y0, AV.int .i64 q.box.x1, AV.int .i64 q.box.y1, AV.fsl (List.map (AV.int .i64) q.bits)]], [])
noncomputable def laws_toMask_v (q : (TMask)) (r : (TBox) × (List Int)) : AV × List Ob := (AV.agg [AV.int .i64 r.1.x0, AV.int .i64 r.1.y0, AV.int .i64 r.1.x1, AV.int .i64 r.1.y1, AV.osl 0 0 (List.length r.2) (List.length r.2)], [Ob.arr 1 (List.map (AV.int .i64) r.2) false])
noncomputable def laws_toMask_x : List AV → List Ob → Option (AV × List Ob) := xOf laws_toMask_e (fun q => laws_toMask q) laws_toMask_v
theorem laws_toMask_i : ∀ a b, laws_toMask_e a = laws_toMask_e b → a = b := by rintro ⟨⟨x0, x1, x2, x3⟩, x4⟩ ⟨⟨y0, y1, y2, y3⟩, y4⟩ h; simp [laws_toMask_e] at h; simp [h]
@[simp] theorem laws_toMask_k (z0 : Int) (z1 : Int) (z2 : Int) (z3 : Int) (z4 : List Int) : laws_toMask_x [AV.agg [AV.int .i64 z0, AV.int .i64 z1, AV.int .i64 z2, AV.int .i64 z3, AV.fsl (List.map (AV.int .i64) z4)]] [] = mapR (laws_toMask ⟨⟨z0, z1, z2, z3⟩, z4⟩) (fun r => (AV.agg [AV.int .i64 r.1.x0, AV.int .i64 r.1.y0, AV.int .i64 r.1.x1, AV.int .i64 r.1.y1, AV.osl 0 0 (List.length r.2) (List.length r.2)], [Ob.arr 1 (List.map (AV.int .i64) r.2) false])) :=
  xOf_eq laws_toMask_i ⟨⟨z0, z1, z2, z3⟩, z4⟩
/-! laws_toPoint: function 146 -/
noncomputable def laws_toPoint (a0 : TPoint) : Option ((TPoint)) :=
  some a0
noncomputable def laws_toPoint_e (q : (TPoint)) : List AV × List Ob := ([AV.agg [AV.int .i64 q.x, AV.int .i64 q.y]], [])
noncomputable def laws_toPoint_v (q : (TPoint)) (r : (TPoint)) : AV × List Ob := (AV.agg [AV.int .i64 r.x, AV.int .i64 r.y], [])
noncomputable def laws_toPoint_x : List AV → List Ob → Option (AV × List Ob) := xOf laws_toPoint_e (fun q => laws_toPoint q) laws_toPoint_v
theorem laws_toPoint_i : ∀ a b, laws_toPoint_e a = laws_toPoint_e b → a = b := by rintro ⟨x0, x1⟩ ⟨y0, y1⟩ h; simp [laws_toPoint_e] at h; simp [h]
@[simp] theorem laws_toPoint_k (z0 : Int) (z1 : Int) : laws_toPoint_x [AV.agg [AV.int .i64 z0, AV.int .i64 z1]] [] = mapR (laws_toPoint ⟨z0, z1⟩) (fun r => (AV.agg [AV.int .i64 r.x, AV.int .i64 r.y], [])) :=
  xOf_eq laws_toPoint_i ⟨z0, z1⟩
/-! laws_toPaint: function 69 -/
noncomputable def laws_toPaint (a0 : TPaint) : Option ((TPaint)) :=
  bnd (laws_toColor a0.first) fun v1 =>
  bnd (laws_toColor a0.last) fun v2 =>
  bnd (laws_toPoint a0.from_) fun v3 =>
  bnd (laws_toPoint a0.to) fun v4 =>
  some (TPaint.mk a0.kind v1 v2 v3 v4)
noncomputable def laws_toPaint_e (q : (TPaint)) : List AV × List Ob := ([AV.agg [AV.int .i64 q.kind, AV.int .i64 q.first.r, AV.int .i64 q.first.g, AV.int .i64 q.first.b, AV.int .i64 q.first.a, AV.int .i64 q.last.r, AV.int .i64 q.last.g, AV.int .i64 q.last.b, AV.int .i64 q.last.a, AV.int .i64 q.from_.x, AV.int .i64 q.from_.y, AV.int .i64 q.to.x, AV.int .i64 q.to.y]], [])
noncomputable def laws_toPaint_v (q : (TPaint)) (r : (TPaint)) : AV × List Ob := (AV.agg [AV.int .i64 r.kind, AV.int .i64 r.first.r, AV.int .i64 r.first.g, AV.int .i64 r.first.b, AV.int .i64 r.first.a, AV.int .i64 r.last.r, AV.int .i64 r.last.g, AV.int .i64 r.last.b, AV.int .i64 r.last.a, AV.int .i64 r.from_.x, AV.int .i64 r.from_.y, AV.int .i64 r.to.x, AV.int .i64 r.to.y], [])
noncomputable def laws_toPaint_x : List AV → List Ob → Option (AV × List Ob) := xOf laws_toPaint_e (fun q => laws_toPaint q) laws_toPaint_v
theorem laws_toPaint_i : ∀ a b, laws_toPaint_e a = laws_toPaint_e b → a = b := by rintro ⟨x0, ⟨x1, x2, x3, x4⟩, ⟨x5, x6, x7, x8⟩, ⟨x9, x10⟩, ⟨x11, x12⟩⟩ ⟨y0, ⟨y1, y2, y3, y4⟩, ⟨y5, y6, y7, y8⟩, ⟨y9, y10⟩, ⟨y11, y12⟩⟩ h; simp [laws_toPaint_e] at h; simp [h]
@[simp] theorem laws_toPaint_k (z0 : Int) (z1 : Int) (z2 : Int) (z3 : Int) (z4 : Int) (z5 : Int) (z6 : Int) (z7 : Int) (z8 : Int) (z9 : Int) (z10 : Int) (z11 : Int) (z12 : Int) : laws_toPaint_x [AV.agg [AV.int .i64 z0, AV.int .i64 z1, AV.int .i64 z2, AV.int .i64 z3, AV.int .i64 z4, AV.int .i64 z5, AV.int .i64 z6, AV.int .i64 z7, AV.int .i64 z8, AV.int .i64 z9, AV.int .i64 z10, AV.int .i64 z11, AV.int .i64 z12]] [] = mapR (laws_toPaint ⟨z0, ⟨z1, z2, z3, z4⟩, ⟨z5, z6, z7, z8⟩, ⟨z9, z10⟩, ⟨z11, z12⟩⟩) (fun r => (AV.agg [AV.int .i64 r.kind, AV.int .i64 r.first.r, AV.int .i64 r.first.g, AV.int .i64 r.first.b, AV.int .i64 r.first.a, AV.int .i64 r.last.r, AV.int .i64 r.last.g, AV.int .i64 r.last.b, AV.int .i64 r.last.a, AV.int .i64 r.from_.x, AV.int .i64 r.from_.y, AV.int .i64 r.to.x, AV.int .i64 r.to.y], [])) :=
  xOf_eq laws_toPaint_i ⟨z0, ⟨z1, z2, z3, z4⟩, ⟨z5, z6, z7, z8⟩, ⟨z9, z10⟩, ⟨z11, z12⟩⟩
/-! spec_l14Copy: function 113 -/
noncomputable def spec_l14Copy (a0 : TSurface) : Option ((Int) × (Int) × (List TColor)) :=
  chkP ((0 + List.length a0.pix) * 32 ≤ 17592186044416) (
  nam (([] ++ a0.pix) : List TColor) fun l1 =>
  some (a0.w, a0.h, l1))
noncomputable def spec_l14Copy_e (q : (TSurface)) : List AV × List Ob := ([AV.agg [AV.int .i64 q.w, AV.int .i64 q.h, AV.fsl (List.map eColor q.pix)]], [])
noncomputable def spec_l14Copy_v (q : (TSurface)) (r : (Int) × (Int) × (List TColor)) : AV × List Ob := (AV.agg [AV.int .i64 r.1, AV.int .i64 r.2.1, AV.osl 0 0 (List.length r.2.2) (List.length r.2.2)], [Ob.arr 4 (List.map eColor r.2.2) false])
noncomputable def spec_l14Copy_x : List AV → List Ob → Option (AV × List Ob) := xOf spec_l14Copy_e (fun q => spec_l14Copy q) spec_l14Copy_v
theorem spec_l14Copy_i : ∀ a b, spec_l14Copy_e a = spec_l14Copy_e b → a = b := by rintro ⟨x0, x1, x2⟩ ⟨y0, y1, y2⟩ h; simp [spec_l14Copy_e] at h; simp [h]
@[simp] theorem spec_l14Copy_k (z0 : Int) (z1 : Int) (z2 : List TColor) : spec_l14Copy_x [AV.agg [AV.int .i64 z0, AV.int .i64 z1, AV.fsl (List.map eColor z2)]] [] = mapR (spec_l14Copy ⟨z0, z1, z2⟩) (fun r => (AV.agg [AV.int .i64 r.1, AV.int .i64 r.2.1, AV.osl 0 0 (List.length r.2.2) (List.length r.2.2)], [Ob.arr 4 (List.map eColor r.2.2) false])) :=
  xOf_eq spec_l14Copy_i ⟨z0, z1, z2⟩
/-! spec_l01In: function 73 -/
noncomputable def spec_l01In (a0 : Int) (a1 : Int) (a2 : Int) : Option ((Bool)) :=
  cnd (ile a1 a0) (
   some (ile a0 a2)) (
   some false)
noncomputable def spec_l01In_e (q : (Int) × (Int) × (Int)) : List AV × List Ob := ([AV.int .i64 q.1, AV.int .i64 q.2.1, AV.int .i64 q.2.2], [])
noncomputable def spec_l01In_v (q : (Int) × (Int) × (Int)) (r : (Bool)) : AV × List Ob := (AV.bool r, [])
noncomputable def spec_l01In_x : List AV → List Ob → Option (AV × List Ob) := xOf spec_l01In_e (fun q => spec_l01In q.1 q.2.1 q.2.2) spec_l01In_v
theorem spec_l01In_i : ∀ a b, spec_l01In_e a = spec_l01In_e b → a = b := by rintro ⟨x0, x1, x2⟩ ⟨y0, y1, y2⟩ h; simp [spec_l01In_e] at h; simp [h]
@[simp] theorem spec_l01In_k (z0 : Int) (z1 : Int) (z2 : Int) : spec_l01In_x [AV.int .i64 z0, AV.int .i64 z1, AV.int .i64 z2] [] = mapR (spec_l01In z0 z1 z2) (fun r => (AV.bool r, [])) :=
  xOf_eq spec_l01In_i (z0, z1, z2)
/-! spec_ColorOk: function 193 -/
noncomputable def spec_ColorOk (a0 : TColor) : Option ((Bool)) :=
  bnd (spec_l01In a0.r 0 255) fun v1 =>
  cnd v1 (
   bnd (spec_l01In a0.g 0 255) fun v2 =>
   cnd v2 (
    bnd (spec_l01In a0.b 0 255) fun v3 =>
    cnd v3 (
     bnd (spec_l01In a0.a 0 255) fun v4 =>
     some v4) (
     some false)) (
    some false)) (
   some false)
noncomputable def spec_ColorOk_e (q : (TColor)) : List AV × List Ob := ([AV.agg [AV.int .i64 q.r, AV.int .i64 q.g, AV.int .i64 q.b, AV.int .i64 q.a]], [])
noncomputable def spec_ColorOk_v (q : (TColor)) (r : (Bool)) : AV × List Ob := (AV.bool r, [])
noncomputable def spec_ColorOk_x : List AV → List Ob → Option (AV × List Ob) := xOf spec_ColorOk_e (fun q => spec_ColorOk q) spec_ColorOk_v
theorem spec_ColorOk_i : ∀ a b, spec_ColorOk_e a = spec_ColorOk_e b → a = b := by rintro ⟨x0, x1, x2, x3⟩ ⟨y0, y1, y2, y3⟩ h; simp [spec_ColorOk_e] at h; simp [h]
@[simp] theorem spec_ColorOk_k (z0 : Int) (z1 : Int) (z2 : Int) (z3 : Int) : spec_ColorOk_x [AV.agg [AV.int .i64 z0, AV.int .i64 z1, AV.int .i64 z2, AV.int .i64 z3]] [] = mapR (spec_ColorOk ⟨z0, z1, z2, z3⟩) (fun r => (AV.bool r, [])) :=
  xOf_eq spec_ColorOk_i ⟨z0, z1, z2, z3⟩
/-! spec_LaidOk: function 121 -/
noncomputable def spec_LaidOk (a0 : TColor) : Option ((Bool)) :=
  bnd (spec_ColorOk a0) fun v1 =>
  cnd v1 (
   cnd (ile a0.r a0.a) (
    cnd (ile a0.g a0.a) (
     some (ile a0.b a0.a)) (
     some false)) (
    some false)) (
   some false)
noncomputable def spec_LaidOk_e (q : (TColor)) : List AV × List Ob := ([AV.agg [AV.int .i64 q.r, AV.int .i64 q.g, AV.int .i64 q.b, AV.int .i64 q.a]], [])
noncomputable def spec_LaidOk_v (q : (TColor)) (r : (Bool)) : AV × List Ob := (AV.bool r, [])
noncomputable def spec_LaidOk_x : List AV → List Ob → Option (AV × List Ob) := xOf spec_LaidOk_e (fun q => spec_LaidOk q) spec_LaidOk_v
theorem spec_LaidOk_i : ∀ a b, spec_LaidOk_e a = spec_LaidOk_e b → a = b := by rintro ⟨x0, x1, x2, x3⟩ ⟨y0, y1, y2, y3⟩ h; simp [spec_LaidOk_e] at h; simp [h]
@[simp] theorem spec_LaidOk_k (z0 : Int) (z1 : Int) (z2 : Int) (z3 : Int) : spec_LaidOk_x [AV.agg [AV.int .i64 z0, AV.int .i64 z1, AV.int .i64 z2, AV.int .i64 z3]] [] = mapR (spec_LaidOk ⟨z0, z1, z2, z3⟩) (fun r => (AV.bool r, [])) :=
  xOf_eq spec_LaidOk_i ⟨z0, z1, z2, z3⟩
/-! spec_SurfaceOk: function 82 -/
noncomputable def spec_SurfaceOk_l0 (a0 : TSurface) : ((Int)) → Option (((Int)) ⊕ ((Unit) ⊕ (Unit))) := fun x5 =>
  cnd (ile (List.length a0.pix : Int) x5) (
   some (.inr (.inl ()))) (
   bnd (idx a0.pix x5) fun v6 =>
   bnd (spec_LaidOk v6) fun v7 =>
   cnd v7 (
    some (.inl (IntKind.i64.wrap (x5 + 1)))) (
    some (.inr (.inr ()))))
noncomputable def spec_SurfaceOk_l0_S (a0 : TSurface) : ((Int)) → St := fun x5 => ⟨[(1, AV.optr 0 0 3), (3, AV.int .i64 x5)], [(0, Ob.box [AV.int .i64 a0.w, AV.int .i64 a0.h, AV.fsl (List.map eColor a0.pix)])], 1⟩
noncomputable def spec_SurfaceOk_l0_X (a0 : TSurface) : ((Unit) ⊕ (Unit)) → Ex × St := fun q => match q with
  | .inl _ => ((.exit 0), ⟨[], [], 0⟩)
  | .inr _ => (.ret, ⟨[(2, AV.bool false)], [], 0⟩)
noncomputable def spec_SurfaceOk (a0 : TSurface) : Option ((Bool)) :=
  bnd (spec_l01In a0.w 1 12) fun v1 =>
  cnd v1 (
   bnd (spec_l01In a0.h 1 12) fun v2 =>
   cnd v2 (
    cnd (ieq (List.length a0.pix : Int) (IntKind.i64.wrap (a0.w * a0.h))) (
     bnd (loopI (spec_SurfaceOk_l0 a0) 0) fun q => match q with
     | .inl () =>
      some true
     | .inr () =>
      some false) (
     some false)) (
    some false)) (
   some false)
noncomputable def spec_SurfaceOk_e (q : (TSurface)) : List AV × List Ob := ([AV.agg [AV.int .i64 q.w, AV.int .i64 q.h, AV.fsl (List.map eColor q.pix)]], [])
noncomputable def spec_SurfaceOk_v (q : (TSurface)) (r : (Bool)) : AV × List Ob := (AV.bool r, [])
noncomputable def spec_SurfaceOk_x : List AV → List Ob → Option (AV × List Ob) := xOf spec_SurfaceOk_e (fun q => spec_SurfaceOk q) spec_SurfaceOk_v
theorem spec_SurfaceOk_i : ∀ a b, spec_SurfaceOk_e a = spec_SurfaceOk_e b → a = b := by rintro ⟨x0, x1, x2⟩ ⟨y0, y1, y2⟩ h; simp [spec_SurfaceOk_e] at h; simp [h]
@[simp] theorem spec_SurfaceOk_k (z0 : Int) (z1 : Int) (z2 : List TColor) : spec_SurfaceOk_x [AV.agg [AV.int .i64 z0, AV.int .i64 z1, AV.fsl (List.map eColor z2)]] [] = mapR (spec_SurfaceOk ⟨z0, z1, z2⟩) (fun r => (AV.bool r, [])) :=
  xOf_eq spec_SurfaceOk_i ⟨z0, z1, z2⟩
/-! spec_Empty: function 84 -/
noncomputable def spec_Empty (a0 : TBox) : Option ((Bool)) :=
  cnd (ile a0.x1 a0.x0) (
   some true) (
   some (ile a0.y1 a0.y0))
noncomputable def spec_Empty_e (q : (TBox)) : List AV × List Ob := ([AV.agg [AV.int .i64 q.x0, AV.int .i64 q.y0, AV.int .i64 q.x1, AV.int .i64 q.y1]], [])
noncomputable def spec_Empty_v (q : (TBox)) (r : (Bool)) : AV × List Ob := (AV.bool r, [])
noncomputable def spec_Empty_x : List AV → List Ob → Option (AV × List Ob) := xOf spec_Empty_e (fun q => spec_Empty q) spec_Empty_v
theorem spec_Empty_i : ∀ a b, spec_Empty_e a = spec_Empty_e b → a = b := by rintro ⟨x0, x1, x2, x3⟩ ⟨y0, y1, y2, y3⟩ h; simp [spec_Empty_e] at h; simp [h]
@[simp] theorem spec_Empty_k (z0 : Int) (z1 : Int) (z2 : Int) (z3 : Int) : spec_Empty_x [AV.agg [AV.int .i64 z0, AV.int .i64 z1, AV.int .i64 z2, AV.int .i64 z3]] [] = mapR (spec_Empty ⟨z0, z1, z2, z3⟩) (fun r => (AV.bool r, [])) :=
  xOf_eq spec_Empty_i ⟨z0, z1, z2, z3⟩
/-! spec_l11Box: function 148 -/
noncomputable def spec_l11Box (a0 : TBox) : Option ((Bool)) :=
  bnd (spec_Empty a0) fun v1 =>
  cnd v1 (
   some false) (
   bnd (spec_l01In a0.x0 (-2000) 2000) fun v2 =>
   cnd v2 (
    bnd (spec_l01In a0.y0 (-2000) 2000) fun v3 =>
    cnd v3 (
     bnd (spec_l01In a0.x1 (-2000) 2000) fun v4 =>
     cnd v4 (
      bnd (spec_l01In a0.y1 (-2000) 2000) fun v5 =>
      cnd v5 (
       cnd (ile (IntKind.i64.wrap (a0.x1 - a0.x0)) 60) (
        some (ile (IntKind.i64.wrap (a0.y1 - a0.y0)) 60)) (
        some false)) (
       some false)) (
      some false)) (
     some false)) (
    some false))
noncomputable def spec_l11Box_e (q : (TBox)) : List AV × List Ob := ([AV.agg [AV.int .i64 q.x0, AV.int .i64 q.y0, AV.int .i64 q.x1, AV.int .i64 q.y1]], [])
noncomputable def spec_l11Box_v (q : (TBox)) (r : (Bool)) : AV × List Ob := (AV.bool r, [])
noncomputable def spec_l11Box_x : List AV → List Ob → Option (AV × List Ob) := xOf spec_l11Box_e (fun q => spec_l11Box q) spec_l11Box_v
theorem spec_l11Box_i : ∀ a b, spec_l11Box_e a = spec_l11Box_e b → a = b := by rintro ⟨x0, x1, x2, x3⟩ ⟨y0, y1, y2, y3⟩ h; simp [spec_l11Box_e] at h; simp [h]
@[simp] theorem spec_l11Box_k (z0 : Int) (z1 : Int) (z2 : Int) (z3 : Int) : spec_l11Box_x [AV.agg [AV.int .i64 z0, AV.int .i64 z1, AV.int .i64 z2, AV.int .i64 z3]] [] = mapR (spec_l11Box ⟨z0, z1, z2, z3⟩) (fun r => (AV.bool r, [])) :=
  xOf_eq spec_l11Box_i ⟨z0, z1, z2, z3⟩
/-! spec_MaskOk: function 74 -/
noncomputable def spec_MaskOk_l0 (a0 : TMask) : ((Int)) → Option (((Int)) ⊕ ((Unit) ⊕ (Unit))) := fun x4 =>
  cnd (ile (List.length a0.bits : Int) x4) (
   some (.inr (.inl ()))) (
   bnd (idx a0.bits x4) fun v5 =>
   bnd (spec_l01In v5 0 15) fun v6 =>
   cnd v6 (
    some (.inl (IntKind.i64.wrap (x4 + 1)))) (
    some (.inr (.inr ()))))
noncomputable def spec_MaskOk_l0_S (a0 : TMask) : ((Int)) → St := fun x4 => ⟨[(1, AV.optr 0 0 5), (3, AV.int .i64 x4)], [(0, Ob.box [AV.int .i64 a0.box.x0, AV.int .i64 a0.box.y0, AV.int .i64 a0.box.x1, AV.int .i64 a0.box.y1, AV.fsl (List.map (AV.int .i64) a0.bits)])], 1⟩
noncomputable def spec_MaskOk_l0_X (a0 : TMask) : ((Unit) ⊕ (Unit)) → Ex × St := fun q => match q with
  | .inl _ => ((.exit 0), ⟨[], [], 0⟩)
  | .inr _ => (.ret, ⟨[(2, AV.bool false)], [], 0⟩)
noncomputable def spec_MaskOk (a0 : TMask) : Option ((Bool)) :=
  cnd (ieq (List.length a0.bits : Int) 0) (
   some (andB (decide (a0.box.x0 = 0)) (andB (decide (a0.box.y0 = 0)) (andB (decide (a0.box.x1 = 0)) (andB (decide (a0.box.y1 = 0)) true))))) (
   bnd (spec_l11Box a0.box) fun v1 =>
   cnd v1 (
    cnd (ieq (List.length a0.bits : Int) (IntKind.i64.wrap ((IntKind.i64.wrap (a0.box.x1 - a0.box.x0)) * (IntKind.i64.wrap (a0.box.y1 - a0.box.y0))))) (
     bnd (loopI (spec_MaskOk_l0 a0) 0) fun q => match q with
     | .inl () =>
      some true
     | .inr () =>
      some false) (
     some false)) (
    some false))
noncomputable def spec_MaskOk_e (q : (TMask)) : List AV × List Ob := ([AV.agg [AV.int .i64 q.box.x0, AV.int .i64 q.box.y0, AV.int .i64 q.box.x1, AV.int .i64 q.box.y1, AV.fsl (List.map (AV.int .i64) q.bits)]], [])
noncomputable def spec_MaskOk_v (q : (TMask)) (r : (Bool)) : AV × List Ob := (AV.bool r, [])
noncomputable def spec_MaskOk_x : List AV → List Ob → Option (AV × List Ob) := xOf spec_MaskOk_e (fun q => spec_MaskOk q) spec_MaskOk_v
theorem spec_MaskOk_i : ∀ a b, spec_MaskOk_e a = spec_MaskOk_e b → a = b := by rintro ⟨⟨x0, x1, x2, x3⟩, x4⟩ ⟨⟨y0, y1, y2, y3⟩, y4⟩ h; simp [spec_MaskOk_e] at h; simp [h]
@[simp] theorem spec_MaskOk_k (z0 : Int) (z1 : Int) (z2 : Int) (z3 : Int) (z4 : List Int) : spec_MaskOk_x [AV.agg [AV.int .i64 z0, AV.int .i64 z1, AV.int .i64 z2, AV.int .i64 z3, AV.fsl (List.map (AV.int .i64) z4)]] [] = mapR (spec_MaskOk ⟨⟨z0, z1, z2, z3⟩, z4⟩) (fun r => (AV.bool r, [])) :=
  xOf_eq spec_MaskOk_i ⟨⟨z0, z1, z2, z3⟩, z4⟩
/-! spec_PointOk: function 196 -/
noncomputable def spec_PointOk (a0 : TPoint) : Option ((Bool)) :=
  bnd (spec_l01In a0.x (-8388608) 8388608) fun v1 =>
  cnd v1 (
   bnd (spec_l01In a0.y (-8388608) 8388608) fun v2 =>
   some v2) (
   some false)
noncomputable def spec_PointOk_e (q : (TPoint)) : List AV × List Ob := ([AV.agg [AV.int .i64 q.x, AV.int .i64 q.y]], [])
noncomputable def spec_PointOk_v (q : (TPoint)) (r : (Bool)) : AV × List Ob := (AV.bool r, [])
noncomputable def spec_PointOk_x : List AV → List Ob → Option (AV × List Ob) := xOf spec_PointOk_e (fun q => spec_PointOk q) spec_PointOk_v
theorem spec_PointOk_i : ∀ a b, spec_PointOk_e a = spec_PointOk_e b → a = b := by rintro ⟨x0, x1⟩ ⟨y0, y1⟩ h; simp [spec_PointOk_e] at h; simp [h]
@[simp] theorem spec_PointOk_k (z0 : Int) (z1 : Int) : spec_PointOk_x [AV.agg [AV.int .i64 z0, AV.int .i64 z1]] [] = mapR (spec_PointOk ⟨z0, z1⟩) (fun r => (AV.bool r, [])) :=
  xOf_eq spec_PointOk_i ⟨z0, z1⟩
/-! spec_PaintOk: function 125 -/
noncomputable def spec_PaintOk (a0 : TPaint) : Option ((Bool)) :=
  bnd (spec_ColorOk a0.first) fun v1 =>
  cnd v1 (
   cnd (ieq a0.kind 1) (
    cnd (andB (decide (a0.last.r = 0)) (andB (decide (a0.last.g = 0)) (andB (decide (a0.last.b = 0)) (andB (decide (a0.last.a = 0)) true)))) (
     cnd (andB (decide (a0.from_.x = 0)) (andB (decide (a0.from_.y = 0)) true)) (
      some (andB (decide (a0.to.x = 0)) (andB (decide (a0.to.y = 0)) true))) (
      some false)) (
     some false)) (
    cnd (ieq a0.kind 2) (
     bnd (spec_ColorOk a0.last) fun v2 =>
     cnd v2 (
      bnd (spec_PointOk a0.from_) fun v3 =>
      cnd v3 (
       bnd (spec_PointOk a0.to) fun v4 =>
       cnd v4 (
        some (!(andB (decide (a0.from_.x = a0.to.x)) (andB (decide (a0.from_.y = a0.to.y)) true)))) (
        some false)) (
       some false)) (
      some false)) (
     some false))) (
   some false)
noncomputable def spec_PaintOk_e (q : (TPaint)) : List AV × List Ob := ([AV.agg [AV.int .i64 q.kind, AV.int .i64 q.first.r, AV.int .i64 q.first.g, AV.int .i64 q.first.b, AV.int .i64 q.first.a, AV.int .i64 q.last.r, AV.int .i64 q.last.g, AV.int .i64 q.last.b, AV.int .i64 q.last.a, AV.int .i64 q.from_.x, AV.int .i64 q.from_.y, AV.int .i64 q.to.x, AV.int .i64 q.to.y]], [])
noncomputable def spec_PaintOk_v (q : (TPaint)) (r : (Bool)) : AV × List Ob := (AV.bool r, [])
noncomputable def spec_PaintOk_x : List AV → List Ob → Option (AV × List Ob) := xOf spec_PaintOk_e (fun q => spec_PaintOk q) spec_PaintOk_v
theorem spec_PaintOk_i : ∀ a b, spec_PaintOk_e a = spec_PaintOk_e b → a = b := by rintro ⟨x0, ⟨x1, x2, x3, x4⟩, ⟨x5, x6, x7, x8⟩, ⟨x9, x10⟩, ⟨x11, x12⟩⟩ ⟨y0, ⟨y1, y2, y3, y4⟩, ⟨y5, y6, y7, y8⟩, ⟨y9, y10⟩, ⟨y11, y12⟩⟩ h; simp [spec_PaintOk_e] at h; simp [h]
@[simp] theorem spec_PaintOk_k (z0 : Int) (z1 : Int) (z2 : Int) (z3 : Int) (z4 : Int) (z5 : Int) (z6 : Int) (z7 : Int) (z8 : Int) (z9 : Int) (z10 : Int) (z11 : Int) (z12 : Int) : spec_PaintOk_x [AV.agg [AV.int .i64 z0, AV.int .i64 z1, AV.int .i64 z2, AV.int .i64 z3, AV.int .i64 z4, AV.int .i64 z5, AV.int .i64 z6, AV.int .i64 z7, AV.int .i64 z8, AV.int .i64 z9, AV.int .i64 z10, AV.int .i64 z11, AV.int .i64 z12]] [] = mapR (spec_PaintOk ⟨z0, ⟨z1, z2, z3, z4⟩, ⟨z5, z6, z7, z8⟩, ⟨z9, z10⟩, ⟨z11, z12⟩⟩) (fun r => (AV.bool r, [])) :=
  xOf_eq spec_PaintOk_i ⟨z0, ⟨z1, z2, z3, z4⟩, ⟨z5, z6, z7, z8⟩, ⟨z9, z10⟩, ⟨z11, z12⟩⟩
/-! spec_InBox: function 192 -/
noncomputable def spec_InBox (a0 : TBox) (a1 : TPoint) : Option ((Bool)) :=
  cnd (ile a0.x0 a1.x) (
   cnd (ile a0.x1 a1.x) (
    some false) (
    cnd (ile a0.y0 a1.y) (
     some (!(ile a0.y1 a1.y))) (
     some false))) (
   some false)
noncomputable def spec_InBox_e (q : (TBox) × (TPoint)) : List AV × List Ob := ([AV.agg [AV.int .i64 q.1.x0, AV.int .i64 q.1.y0, AV.int .i64 q.1.x1, AV.int .i64 q.1.y1], AV.agg [AV.int .i64 q.2.x, AV.int .i64 q.2.y]], [])
noncomputable def spec_InBox_v (q : (TBox) × (TPoint)) (r : (Bool)) : AV × List Ob := (AV.bool r, [])
noncomputable def spec_InBox_x : List AV → List Ob → Option (AV × List Ob) := xOf spec_InBox_e (fun q => spec_InBox q.1 q.2) spec_InBox_v
theorem spec_InBox_i : ∀ a b, spec_InBox_e a = spec_InBox_e b → a = b := by rintro ⟨⟨x0, x1, x2, x3⟩, ⟨x4, x5⟩⟩ ⟨⟨y0, y1, y2, y3⟩, ⟨y4, y5⟩⟩ h; simp [spec_InBox_e] at h; simp [h]
@[simp] theorem spec_InBox_k (z0 : Int) (z1 : Int) (z2 : Int) (z3 : Int) (z4 : Int) (z5 : Int) : spec_InBox_x [AV.agg [AV.int .i64 z0, AV.int .i64 z1, AV.int .i64 z2, AV.int .i64 z3], AV.agg [AV.int .i64 z4, AV.int .i64 z5]] [] = mapR (spec_InBox ⟨z0, z1, z2, z3⟩ ⟨z4, z5⟩) (fun r => (AV.bool r, [])) :=
  xOf_eq spec_InBox_i (⟨z0, z1, z2, z3⟩, ⟨z4, z5⟩)
/-! spec_l11Bits: function 120 -/
noncomputable def spec_l11Bits (a0 : TMask) (a1 : Int) (a2 : Int) : Option ((Int)) :=
  bnd (spec_InBox a0.box (TPoint.mk a1 a2)) fun v1 =>
  cnd v1 (
   bnd (idx a0.bits (IntKind.i64.wrap ((IntKind.i64.wrap ((IntKind.i64.wrap ((IntKind.i64.wrap (a2 - a0.box.y0)) * (IntKind.i64.wrap (a0.box.x1 - a0.box.x0)))) + a1)) - a0.box.x0))) fun v2 =>
   some v2) (
   some 0)
noncomputable def spec_l11Bits_e (q : (TMask) × (Int) × (Int)) : List AV × List Ob := ([AV.agg [AV.int .i64 q.1.box.x0, AV.int .i64 q.1.box.y0, AV.int .i64 q.1.box.x1, AV.int .i64 q.1.box.y1, AV.fsl (List.map (AV.int .i64) q.1.bits)], AV.int .i64 q.2.1, AV.int .i64 q.2.2], [])
noncomputable def spec_l11Bits_v (q : (TMask) × (Int) × (Int)) (r : (Int)) : AV × List Ob := (AV.int .i64 r, [])
noncomputable def spec_l11Bits_x : List AV → List Ob → Option (AV × List Ob) := xOf spec_l11Bits_e (fun q => spec_l11Bits q.1 q.2.1 q.2.2) spec_l11Bits_v
theorem spec_l11Bits_i : ∀ a b, spec_l11Bits_e a = spec_l11Bits_e b → a = b := by rintro ⟨⟨⟨x0, x1, x2, x3⟩, x4⟩, x5, x6⟩ ⟨⟨⟨y0, y1, y2, y3⟩, y4⟩, y5, y6⟩ h; simp [spec_l11Bits_e] at h; simp [h]
@[simp] theorem spec_l11Bits_k (z0 : Int) (z1 : Int) (z2 : Int) (z3 : Int) (z4 : List Int) (z5 : Int) (z6 : Int) : spec_l11Bits_x [AV.agg [AV.int .i64 z0, AV.int .i64 z1, AV.int .i64 z2, AV.int .i64 z3, AV.fsl (List.map (AV.int .i64) z4)], AV.int .i64 z5, AV.int .i64 z6] [] = mapR (spec_l11Bits ⟨⟨z0, z1, z2, z3⟩, z4⟩ z5 z6) (fun r => (AV.int .i64 r, [])) :=
  xOf_eq spec_l11Bits_i (⟨⟨z0, z1, z2, z3⟩, z4⟩, z5, z6)
/-! spec_Clamp: function 194 -/
noncomputable def spec_Clamp (a0 : Int) (a1 : Int) (a2 : Int) : Option ((Int)) :=
  cnd (ile a1 a0) (
   cnd (ile a0 a2) (
    some a0) (
    some a2)) (
   some a1)
noncomputable def spec_Clamp_e (q : (Int) × (Int) × (Int)) : List AV × List Ob := ([AV.int .i64 q.1, AV.int .i64 q.2.1, AV.int .i64 q.2.2], [])
noncomputable def spec_Clamp_v (q : (Int) × (Int) × (Int)) (r : (Int)) : AV × List Ob := (AV.int .i64 r, [])
noncomputable def spec_Clamp_x : List AV → List Ob → Option (AV × List Ob) := xOf spec_Clamp_e (fun q => spec_Clamp q.1 q.2.1 q.2.2) spec_Clamp_v
theorem spec_Clamp_i : ∀ a b, spec_Clamp_e a = spec_Clamp_e b → a = b := by rintro ⟨x0, x1, x2⟩ ⟨y0, y1, y2⟩ h; simp [spec_Clamp_e] at h; simp [h]
@[simp] theorem spec_Clamp_k (z0 : Int) (z1 : Int) (z2 : Int) : spec_Clamp_x [AV.int .i64 z0, AV.int .i64 z1, AV.int .i64 z2] [] = mapR (spec_Clamp z0 z1 z2) (fun r => (AV.int .i64 r, [])) :=
  xOf_eq spec_Clamp_i (z0, z1, z2)
/-! spec_FloorDiv: function 195 -/
noncomputable def spec_FloorDiv (a0 : Int) (a1 : Int) : Option ((Int)) :=
  cnd (ile 1 a1) (
   chkP (¬ a1 = 0) (
   cnd (ile 0 (Int.tmod a0 a1)) (
    some (IntKind.i64.wrap (Int.tdiv a0 a1))) (
    some (IntKind.i64.wrap ((IntKind.i64.wrap (Int.tdiv a0 a1)) - 1))))) (
   some 0)
noncomputable def spec_FloorDiv_e (q : (Int) × (Int)) : List AV × List Ob := ([AV.int .i64 q.1, AV.int .i64 q.2], [])
noncomputable def spec_FloorDiv_v (q : (Int) × (Int)) (r : (Int)) : AV × List Ob := (AV.int .i64 r, [])
noncomputable def spec_FloorDiv_x : List AV → List Ob → Option (AV × List Ob) := xOf spec_FloorDiv_e (fun q => spec_FloorDiv q.1 q.2) spec_FloorDiv_v
theorem spec_FloorDiv_i : ∀ a b, spec_FloorDiv_e a = spec_FloorDiv_e b → a = b := by rintro ⟨x0, x1⟩ ⟨y0, y1⟩ h; simp [spec_FloorDiv_e] at h; simp [h]
@[simp] theorem spec_FloorDiv_k (z0 : Int) (z1 : Int) : spec_FloorDiv_x [AV.int .i64 z0, AV.int .i64 z1] [] = mapR (spec_FloorDiv z0 z1) (fun r => (AV.int .i64 r, [])) :=
  xOf_eq spec_FloorDiv_i (z0, z1)
/-! spec_RoundDiv: function 124 -/
noncomputable def spec_RoundDiv (a0 : Int) (a1 : Int) : Option ((Int)) :=
  cnd (ile 1 a1) (
   bnd (spec_FloorDiv a0 a1) fun v1 =>
   cnd (ile (IntKind.i64.wrap (a1 - (IntKind.i64.wrap (a0 - (IntKind.i64.wrap (v1 * a1)))))) (IntKind.i64.wrap (a0 - (IntKind.i64.wrap (v1 * a1))))) (
    some (IntKind.i64.wrap (v1 + 1))) (
    some v1)) (
   some 0)
noncomputable def spec_RoundDiv_e (q : (Int) × (Int)) : List AV × List Ob := ([AV.int .i64 q.1, AV.int .i64 q.2], [])
noncomputable def spec_RoundDiv_v (q : (Int) × (Int)) (r : (Int)) : AV × List Ob := (AV.int .i64 r, [])
noncomputable def spec_RoundDiv_x : List AV → List Ob → Option (AV × List Ob) := xOf spec_RoundDiv_e (fun q => spec_RoundDiv q.1 q.2) spec_RoundDiv_v
theorem spec_RoundDiv_i : ∀ a b, spec_RoundDiv_e a = spec_RoundDiv_e b → a = b := by rintro ⟨x0, x1⟩ ⟨y0, y1⟩ h; simp [spec_RoundDiv_e] at h; simp [h]
@[simp] theorem spec_RoundDiv_k (z0 : Int) (z1 : Int) : spec_RoundDiv_x [AV.int .i64 z0, AV.int .i64 z1] [] = mapR (spec_RoundDiv z0 z1) (fun r => (AV.int .i64 r, [])) :=
  xOf_eq spec_RoundDiv_i (z0, z1)
/-! spec_Times255: function 123 -/
noncomputable def spec_Times255 (a0 : Int) (a1 : Int) : Option ((Int)) :=
  bnd (spec_Clamp a0 0 255) fun v1 =>
  bnd (spec_Clamp a1 0 255) fun v2 =>
  bnd (spec_RoundDiv (IntKind.i64.wrap (v1 * v2)) 255) fun v3 =>
  some v3
noncomputable def spec_Times255_e (q : (Int) × (Int)) : List AV × List Ob := ([AV.int .i64 q.1, AV.int .i64 q.2], [])
noncomputable def spec_Times255_v (q : (Int) × (Int)) (r : (Int)) : AV × List Ob := (AV.int .i64 r, [])
noncomputable def spec_Times255_x : List AV → List Ob → Option (AV × List Ob) := xOf spec_Times255_e (fun q => spec_Times255 q.1 q.2) spec_Times255_v
theorem spec_Times255_i : ∀ a b, spec_Times255_e a = spec_Times255_e b → a = b := by rintro ⟨x0, x1⟩ ⟨y0, y1⟩ h; simp [spec_Times255_e] at h; simp [h]
@[simp] theorem spec_Times255_k (z0 : Int) (z1 : Int) : spec_Times255_x [AV.int .i64 z0, AV.int .i64 z1] [] = mapR (spec_Times255 z0 z1) (fun r => (AV.int .i64 r, [])) :=
  xOf_eq spec_Times255_i (z0, z1)
/-! spec_Laid: function 126 -/
noncomputable def spec_Laid (a0 : TColor) : Option ((TColor)) :=
  bnd (spec_ColorOk a0) fun v1 =>
  cnd v1 (
   bnd (spec_Times255 a0.r a0.a) fun v2 =>
   bnd (spec_Times255 a0.g a0.a) fun v3 =>
   bnd (spec_Times255 a0.b a0.a) fun v4 =>
   some (TColor.mk v2 v3 v4 a0.a)) (
   some (TColor.mk 0 0 0 0))
noncomputable def spec_Laid_e (q : (TColor)) : List AV × List Ob := ([AV.agg [AV.int .i64 q.r, AV.int .i64 q.g, AV.int .i64 q.b, AV.int .i64 q.a]], [])
noncomputable def spec_Laid_v (q : (TColor)) (r : (TColor)) : AV × List Ob := (AV.agg [AV.int .i64 r.r, AV.int .i64 r.g, AV.int .i64 r.b, AV.int .i64 r.a], [])
noncomputable def spec_Laid_x : List AV → List Ob → Option (AV × List Ob) := xOf spec_Laid_e (fun q => spec_Laid q) spec_Laid_v
theorem spec_Laid_i : ∀ a b, spec_Laid_e a = spec_Laid_e b → a = b := by rintro ⟨x0, x1, x2, x3⟩ ⟨y0, y1, y2, y3⟩ h; simp [spec_Laid_e] at h; simp [h]
@[simp] theorem spec_Laid_k (z0 : Int) (z1 : Int) (z2 : Int) (z3 : Int) : spec_Laid_x [AV.agg [AV.int .i64 z0, AV.int .i64 z1, AV.int .i64 z2, AV.int .i64 z3]] [] = mapR (spec_Laid ⟨z0, z1, z2, z3⟩) (fun r => (AV.agg [AV.int .i64 r.r, AV.int .i64 r.g, AV.int .i64 r.b, AV.int .i64 r.a], [])) :=
  xOf_eq spec_Laid_i ⟨z0, z1, z2, z3⟩
/-! spec_PartOf: function 127 -/
noncomputable def spec_PartOf (a0 : TPaint) (a1 : Int) (a2 : Int) : Option ((Int)) :=
  cnd (ieq a0.kind 2) (
   bnd (spec_PaintOk a0) fun v1 =>
   cnd v1 (
    bnd (spec_Clamp a1 (-2000) 2000) fun v2 =>
    bnd (spec_Clamp a2 (-2000) 2000) fun v3 =>
    bnd (spec_FloorDiv (IntKind.i64.wrap (256 * (IntKind.i64.wrap ((IntKind.i64.wrap ((IntKind.i64.wrap ((IntKind.i64.wrap ((IntKind.i64.wrap (256 * v2)) + 128)) - a0.from_.x)) * (IntKind.i64.wrap (a0.to.x - a0.from_.x)))) + (IntKind.i64.wrap ((IntKind.i64.wrap ((IntKind.i64.wrap ((IntKind.i64.wrap (256 * v3)) + 128)) - a0.from_.y)) * (IntKind.i64.wrap (a0.to.y - a0.from_.y)))))))) (IntKind.i64.wrap ((IntKind.i64.wrap ((IntKind.i64.wrap (a0.to.x - a0.from_.x)) * (IntKind.i64.wrap (a0.to.x - a0.from_.x)))) + (IntKind.i64.wrap ((IntKind.i64.wrap (a0.to.y - a0.from_.y)) * (IntKind.i64.wrap (a0.to.y - a0.from_.y))))))) fun v4 =>
    bnd (spec_Clamp v4 0 256) fun v5 =>
    some v5) (
    some 0)) (
   some 0)
noncomputable def spec_PartOf_e (q : (TPaint) × (Int) × (Int)) : List AV × List Ob := ([AV.agg [AV.int .i64 q.1.kind, AV.int .i64 q.1.first.r, AV.int .i64 q.1.first.g, AV.int .i64 q.1.first.b, AV.int .i64 q.1.first.a, AV.int .i64 q.1.last.r, AV.int .i64 q.1.last.g, AV.int .i64 q.1.last.b, AV.int .i64 q.1.last.a, AV.int .i64 q.1.from_.x, AV.int .i64 q.1.from_.y, AV.int .i64 q.1.to.x, AV.int .i64 q.1.to.y], AV.int .i64 q.2.1, AV.int .i64 q.2.2], [])
noncomputable def spec_PartOf_v (q : (TPaint) × (Int) × (Int)) (r : (Int)) : AV × List Ob := (AV.int .i64 r, [])
noncomputable def spec_PartOf_x : List AV → List Ob → Option (AV × List Ob) := xOf spec_PartOf_e (fun q => spec_PartOf q.1 q.2.1 q.2.2) spec_PartOf_v
theorem spec_PartOf_i : ∀ a b, spec_PartOf_e a = spec_PartOf_e b → a = b := by rintro ⟨⟨x0, ⟨x1, x2, x3, x4⟩, ⟨x5, x6, x7, x8⟩, ⟨x9, x10⟩, ⟨x11, x12⟩⟩, x13, x14⟩ ⟨⟨y0, ⟨y1, y2, y3, y4⟩, ⟨y5, y6, y7, y8⟩, ⟨y9, y10⟩, ⟨y11, y12⟩⟩, y13, y14⟩ h; simp [spec_PartOf_e] at h; simp [h]
@[simp] theorem spec_PartOf_k (z0 : Int) (z1 : Int) (z2 : Int) (z3 : Int) (z4 : Int) (z5 : Int) (z6 : Int) (z7 : Int) (z8 : Int) (z9 : Int) (z10 : Int) (z11 : Int) (z12 : Int) (z13 : Int) (z14 : Int) : spec_PartOf_x [AV.agg [AV.int .i64 z0, AV.int .i64 z1, AV.int .i64 z2, AV.int .i64 z3, AV.int .i64 z4, AV.int .i64 z5, AV.int .i64 z6, AV.int .i64 z7, AV.int .i64 z8, AV.int .i64 z9, AV.int .i64 z10, AV.int .i64 z11, AV.int .i64 z12], AV.int .i64 z13, AV.int .i64 z14] [] = mapR (spec_PartOf ⟨z0, ⟨z1, z2, z3, z4⟩, ⟨z5, z6, z7, z8⟩, ⟨z9, z10⟩, ⟨z11, z12⟩⟩ z13 z14) (fun r => (AV.int .i64 r, [])) :=
  xOf_eq spec_PartOf_i (⟨z0, ⟨z1, z2, z3, z4⟩, ⟨z5, z6, z7, z8⟩, ⟨z9, z10⟩, ⟨z11, z12⟩⟩, z13, z14)
/-! spec_l12Mix: function 128 -/
noncomputable def spec_l12Mix (a0 : Int) (a1 : Int) (a2 : Int) : Option ((Int)) :=
  bnd (spec_RoundDiv (IntKind.i64.wrap ((IntKind.i64.wrap ((IntKind.i64.wrap (256 - a2)) * a0)) + (IntKind.i64.wrap (a2 * a1)))) 256) fun v1 =>
  some v1
noncomputable def spec_l12Mix_e (q : (Int) × (Int) × (Int)) : List AV × List Ob := ([AV.int .i64 q.1, AV.int .i64 q.2.1, AV.int .i64 q.2.2], [])
noncomputable def spec_l12Mix_v (q : (Int) × (Int) × (Int)) (r : (Int)) : AV × List Ob := (AV.int .i64 r, [])
noncomputable def spec_l12Mix_x : List AV → List Ob → Option (AV × List Ob) := xOf spec_l12Mix_e (fun q => spec_l12Mix q.1 q.2.1 q.2.2) spec_l12Mix_v
theorem spec_l12Mix_i : ∀ a b, spec_l12Mix_e a = spec_l12Mix_e b → a = b := by rintro ⟨x0, x1, x2⟩ ⟨y0, y1, y2⟩ h; simp [spec_l12Mix_e] at h; simp [h]
@[simp] theorem spec_l12Mix_k (z0 : Int) (z1 : Int) (z2 : Int) : spec_l12Mix_x [AV.int .i64 z0, AV.int .i64 z1, AV.int .i64 z2] [] = mapR (spec_l12Mix z0 z1 z2) (fun r => (AV.int .i64 r, [])) :=
  xOf_eq spec_l12Mix_i (z0, z1, z2)
/-! spec_ColorAt: function 45 -/
noncomputable def spec_ColorAt (a0 : TPaint) (a1 : Int) (a2 : Int) : Option ((TColor)) :=
  bnd (spec_PaintOk a0) fun v1 =>
  cnd v1 (
   cnd (ieq a0.kind 1) (
    bnd (spec_Laid a0.first) fun v2 =>
    some v2) (
    bnd (spec_PartOf a0 a1 a2) fun v3 =>
    bnd (spec_l12Mix a0.first.r a0.last.r v3) fun v4 =>
    bnd (spec_l12Mix a0.first.g a0.last.g v3) fun v5 =>
    bnd (spec_l12Mix a0.first.b a0.last.b v3) fun v6 =>
    bnd (spec_l12Mix a0.first.a a0.last.a v3) fun v7 =>
    bnd (spec_Laid (TColor.mk v4 v5 v6 v7)) fun v8 =>
    some v8)) (
   some (TColor.mk 0 0 0 0))
noncomputable def spec_ColorAt_e (q : (TPaint) × (Int) × (Int)) : List AV × List Ob := ([AV.agg [AV.int .i64 q.1.kind, AV.int .i64 q.1.first.r, AV.int .i64 q.1.first.g, AV.int .i64 q.1.first.b, AV.int .i64 q.1.first.a, AV.int .i64 q.1.last.r, AV.int .i64 q.1.last.g, AV.int .i64 q.1.last.b, AV.int .i64 q.1.last.a, AV.int .i64 q.1.from_.x, AV.int .i64 q.1.from_.y, AV.int .i64 q.1.to.x, AV.int .i64 q.1.to.y], AV.int .i64 q.2.1, AV.int .i64 q.2.2], [])
noncomputable def spec_ColorAt_v (q : (TPaint) × (Int) × (Int)) (r : (TColor)) : AV × List Ob := (AV.agg [AV.int .i64 r.r, AV.int .i64 r.g, AV.int .i64 r.b, AV.int .i64 r.a], [])
noncomputable def spec_ColorAt_x : List AV → List Ob → Option (AV × List Ob) := xOf spec_ColorAt_e (fun q => spec_ColorAt q.1 q.2.1 q.2.2) spec_ColorAt_v
theorem spec_ColorAt_i : ∀ a b, spec_ColorAt_e a = spec_ColorAt_e b → a = b := by rintro ⟨⟨x0, ⟨x1, x2, x3, x4⟩, ⟨x5, x6, x7, x8⟩, ⟨x9, x10⟩, ⟨x11, x12⟩⟩, x13, x14⟩ ⟨⟨y0, ⟨y1, y2, y3, y4⟩, ⟨y5, y6, y7, y8⟩, ⟨y9, y10⟩, ⟨y11, y12⟩⟩, y13, y14⟩ h; simp [spec_ColorAt_e] at h; simp [h]
@[simp] theorem spec_ColorAt_k (z0 : Int) (z1 : Int) (z2 : Int) (z3 : Int) (z4 : Int) (z5 : Int) (z6 : Int) (z7 : Int) (z8 : Int) (z9 : Int) (z10 : Int) (z11 : Int) (z12 : Int) (z13 : Int) (z14 : Int) : spec_ColorAt_x [AV.agg [AV.int .i64 z0, AV.int .i64 z1, AV.int .i64 z2, AV.int .i64 z3, AV.int .i64 z4, AV.int .i64 z5, AV.int .i64 z6, AV.int .i64 z7, AV.int .i64 z8, AV.int .i64 z9, AV.int .i64 z10, AV.int .i64 z11, AV.int .i64 z12], AV.int .i64 z13, AV.int .i64 z14] [] = mapR (spec_ColorAt ⟨z0, ⟨z1, z2, z3, z4⟩, ⟨z5, z6, z7, z8⟩, ⟨z9, z10⟩, ⟨z11, z12⟩⟩ z13 z14) (fun r => (AV.agg [AV.int .i64 r.r, AV.int .i64 r.g, AV.int .i64 r.b, AV.int .i64 r.a], [])) :=
  xOf_eq spec_ColorAt_i (⟨z0, ⟨z1, z2, z3, z4⟩, ⟨z5, z6, z7, z8⟩, ⟨z9, z10⟩, ⟨z11, z12⟩⟩, z13, z14)
/-! spec_CountOf: function 46 -/
noncomputable def spec_CountOf (a0 : Int) : Option ((Int)) :=
  bnd (spec_l01In a0 0 15) fun v1 =>
  cnd v1 (
   some (IntKind.i64.wrap ((IntKind.i64.wrap ((IntKind.i64.wrap ((Int.tmod a0 2) + (Int.tmod (IntKind.i64.wrap (Int.tdiv a0 2)) 2))) + (Int.tmod (IntKind.i64.wrap (Int.tdiv a0 4)) 2))) + (IntKind.i64.wrap (Int.tdiv a0 8))))) (
   some 0)
noncomputable def spec_CountOf_e (q : (Int)) : List AV × List Ob := ([AV.int .i64 q], [])
noncomputable def spec_CountOf_v (q : (Int)) (r : (Int)) : AV × List Ob := (AV.int .i64 r, [])
noncomputable def spec_CountOf_x : List AV → List Ob → Option (AV × List Ob) := xOf spec_CountOf_e (fun q => spec_CountOf q) spec_CountOf_v
theorem spec_CountOf_i : ∀ a b, spec_CountOf_e a = spec_CountOf_e b → a = b := by rintro x0 y0 h; simp [spec_CountOf_e] at h; simp [h]
@[simp] theorem spec_CountOf_k (z0 : Int) : spec_CountOf_x [AV.int .i64 z0] [] = mapR (spec_CountOf z0) (fun r => (AV.int .i64 r, [])) :=
  xOf_eq spec_CountOf_i z0
/-! spec_Thin: function 44 -/
noncomputable def spec_Thin (a0 : TColor) (a1 : Int) : Option ((TColor)) :=
  bnd (spec_LaidOk a0) fun v1 =>
  cnd v1 (
   bnd (spec_l01In a1 0 4) fun v2 =>
   cnd v2 (
    bnd (spec_RoundDiv (IntKind.i64.wrap (a0.r * a1)) 4) fun v3 =>
    bnd (spec_RoundDiv (IntKind.i64.wrap (a0.g * a1)) 4) fun v4 =>
    bnd (spec_RoundDiv (IntKind.i64.wrap (a0.b * a1)) 4) fun v5 =>
    bnd (spec_RoundDiv (IntKind.i64.wrap (a0.a * a1)) 4) fun v6 =>
    some (TColor.mk v3 v4 v5 v6)) (
    some (TColor.mk 0 0 0 0))) (
   some (TColor.mk 0 0 0 0))
noncomputable def spec_Thin_e (q : (TColor) × (Int)) : List AV × List Ob := ([AV.agg [AV.int .i64 q.1.r, AV.int .i64 q.1.g, AV.int .i64 q.1.b, AV.int .i64 q.1.a], AV.int .i64 q.2], [])
noncomputable def spec_Thin_v (q : (TColor) × (Int)) (r : (TColor)) : AV × List Ob := (AV.agg [AV.int .i64 r.r, AV.int .i64 r.g, AV.int .i64 r.b, AV.int .i64 r.a], [])
noncomputable def spec_Thin_x : List AV → List Ob → Option (AV × List Ob) := xOf spec_Thin_e (fun q => spec_Thin q.1 q.2) spec_Thin_v
theorem spec_Thin_i : ∀ a b, spec_Thin_e a = spec_Thin_e b → a = b := by rintro ⟨⟨x0, x1, x2, x3⟩, x4⟩ ⟨⟨y0, y1, y2, y3⟩, y4⟩ h; simp [spec_Thin_e] at h; simp [h]
@[simp] theorem spec_Thin_k (z0 : Int) (z1 : Int) (z2 : Int) (z3 : Int) (z4 : Int) : spec_Thin_x [AV.agg [AV.int .i64 z0, AV.int .i64 z1, AV.int .i64 z2, AV.int .i64 z3], AV.int .i64 z4] [] = mapR (spec_Thin ⟨z0, z1, z2, z3⟩ z4) (fun r => (AV.agg [AV.int .i64 r.r, AV.int .i64 r.g, AV.int .i64 r.b, AV.int .i64 r.a], [])) :=
  xOf_eq spec_Thin_i (⟨z0, z1, z2, z3⟩, z4)
/-! spec_Fade: function 43 -/
noncomputable def spec_Fade (a0 : TColor) (a1 : Int) : Option ((TColor)) :=
  bnd (spec_LaidOk a0) fun v1 =>
  cnd v1 (
   bnd (spec_l01In a1 0 255) fun v2 =>
   cnd v2 (
    bnd (spec_Times255 a0.r a1) fun v3 =>
    bnd (spec_Times255 a0.g a1) fun v4 =>
    bnd (spec_Times255 a0.b a1) fun v5 =>
    bnd (spec_Times255 a0.a a1) fun v6 =>
    some (TColor.mk v3 v4 v5 v6)) (
    some (TColor.mk 0 0 0 0))) (
   some (TColor.mk 0 0 0 0))
noncomputable def spec_Fade_e (q : (TColor) × (Int)) : List AV × List Ob := ([AV.agg [AV.int .i64 q.1.r, AV.int .i64 q.1.g, AV.int .i64 q.1.b, AV.int .i64 q.1.a], AV.int .i64 q.2], [])
noncomputable def spec_Fade_v (q : (TColor) × (Int)) (r : (TColor)) : AV × List Ob := (AV.agg [AV.int .i64 r.r, AV.int .i64 r.g, AV.int .i64 r.b, AV.int .i64 r.a], [])
noncomputable def spec_Fade_x : List AV → List Ob → Option (AV × List Ob) := xOf spec_Fade_e (fun q => spec_Fade q.1 q.2) spec_Fade_v
theorem spec_Fade_i : ∀ a b, spec_Fade_e a = spec_Fade_e b → a = b := by rintro ⟨⟨x0, x1, x2, x3⟩, x4⟩ ⟨⟨y0, y1, y2, y3⟩, y4⟩ h; simp [spec_Fade_e] at h; simp [h]
@[simp] theorem spec_Fade_k (z0 : Int) (z1 : Int) (z2 : Int) (z3 : Int) (z4 : Int) : spec_Fade_x [AV.agg [AV.int .i64 z0, AV.int .i64 z1, AV.int .i64 z2, AV.int .i64 z3], AV.int .i64 z4] [] = mapR (spec_Fade ⟨z0, z1, z2, z3⟩ z4) (fun r => (AV.agg [AV.int .i64 r.r, AV.int .i64 r.g, AV.int .i64 r.b, AV.int .i64 r.a], [])) :=
  xOf_eq spec_Fade_i (⟨z0, z1, z2, z3⟩, z4)
/-! spec_l13Part: function 122 -/
noncomputable def spec_l13Part (a0 : Int) (a1 : Int) (a2 : Int) (a3 : Int) (a4 : Int) : Option ((Int)) :=
  cnd (ieq a0 1) (
   bnd (spec_Times255 a2 (IntKind.i64.wrap (255 - a3))) fun v1 =>
   cnd (ile (IntKind.i64.wrap (a1 + v1)) 255) (
    some (IntKind.i64.wrap (a1 + v1))) (
    some 255)) (
   cnd (ieq a0 2) (
    bnd (spec_RoundDiv (IntKind.i64.wrap ((IntKind.i64.wrap ((IntKind.i64.wrap (a1 * a2)) + (IntKind.i64.wrap (a1 * (IntKind.i64.wrap (255 - a4)))))) + (IntKind.i64.wrap (a2 * (IntKind.i64.wrap (255 - a3)))))) 255) fun v2 =>
    cnd (ile v2 255) (
     some v2) (
     some 255)) (
    cnd (ieq a0 3) (
     bnd (spec_RoundDiv (IntKind.i64.wrap (a1 * a2)) 255) fun v3 =>
     cnd (ile (IntKind.i64.wrap ((IntKind.i64.wrap (a1 + a2)) - v3)) 255) (
      some (IntKind.i64.wrap ((IntKind.i64.wrap (a1 + a2)) - v3))) (
      some 255)) (
     cnd (ieq a0 4) (
      cnd (ile (IntKind.i64.wrap (a1 + a2)) 255) (
       some (IntKind.i64.wrap (a1 + a2))) (
       some 255)) (
      cnd (ieq a0 5) (
       bnd (spec_Times255 a2 (IntKind.i64.wrap (255 - a3))) fun v4 =>
       cnd (ile v4 255) (
        some v4) (
        some 255)) (
       cnd (ile a2 255) (
        some a2) (
        some 255))))))
noncomputable def spec_l13Part_e (q : (Int) × (Int) × (Int) × (Int) × (Int)) : List AV × List Ob := ([AV.int .i64 q.1, AV.int .i64 q.2.1, AV.int .i64 q.2.2.1, AV.int .i64 q.2.2.2.1, AV.int .i64 q.2.2.2.2], [])
noncomputable def spec_l13Part_v (q : (Int) × (Int) × (Int) × (Int) × (Int)) (r : (Int)) : AV × List Ob := (AV.int .i64 r, [])
noncomputable def spec_l13Part_x : List AV → List Ob → Option (AV × List Ob) := xOf spec_l13Part_e (fun q => spec_l13Part q.1 q.2.1 q.2.2.1 q.2.2.2.1 q.2.2.2.2) spec_l13Part_v
theorem spec_l13Part_i : ∀ a b, spec_l13Part_e a = spec_l13Part_e b → a = b := by rintro ⟨x0, x1, x2, x3, x4⟩ ⟨y0, y1, y2, y3, y4⟩ h; simp [spec_l13Part_e] at h; simp [h]
@[simp] theorem spec_l13Part_k (z0 : Int) (z1 : Int) (z2 : Int) (z3 : Int) (z4 : Int) : spec_l13Part_x [AV.int .i64 z0, AV.int .i64 z1, AV.int .i64 z2, AV.int .i64 z3, AV.int .i64 z4] [] = mapR (spec_l13Part z0 z1 z2 z3 z4) (fun r => (AV.int .i64 r, [])) :=
  xOf_eq spec_l13Part_i (z0, z1, z2, z3, z4)
/-! spec_Blend: function 42 -/
noncomputable def spec_Blend (a0 : Int) (a1 : TColor) (a2 : TColor) : Option ((TColor)) :=
  bnd (spec_LaidOk a1) fun v1 =>
  cnd v1 (
   bnd (spec_LaidOk a2) fun v2 =>
   cnd v2 (
    bnd (spec_l13Part a0 a1.r a2.r a1.a a2.a) fun v3 =>
    bnd (spec_l13Part a0 a1.g a2.g a1.a a2.a) fun v4 =>
    bnd (spec_l13Part a0 a1.b a2.b a1.a a2.a) fun v5 =>
    bnd (spec_l13Part a0 a1.a a2.a a1.a a2.a) fun v6 =>
    some (TColor.mk v3 v4 v5 v6)) (
    some a2)) (
   some a2)
noncomputable def spec_Blend_e (q : (Int) × (TColor) × (TColor)) : List AV × List Ob := ([AV.int .i64 q.1, AV.agg [AV.int .i64 q.2.1.r, AV.int .i64 q.2.1.g, AV.int .i64 q.2.1.b, AV.int .i64 q.2.1.a], AV.agg [AV.int .i64 q.2.2.r, AV.int .i64 q.2.2.g, AV.int .i64 q.2.2.b, AV.int .i64 q.2.2.a]], [])
noncomputable def spec_Blend_v (q : (Int) × (TColor) × (TColor)) (r : (TColor)) : AV × List Ob := (AV.agg [AV.int .i64 r.r, AV.int .i64 r.g, AV.int .i64 r.b, AV.int .i64 r.a], [])
noncomputable def spec_Blend_x : List AV → List Ob → Option (AV × List Ob) := xOf spec_Blend_e (fun q => spec_Blend q.1 q.2.1 q.2.2) spec_Blend_v
theorem spec_Blend_i : ∀ a b, spec_Blend_e a = spec_Blend_e b → a = b := by rintro ⟨x0, ⟨x1, x2, x3, x4⟩, ⟨x5, x6, x7, x8⟩⟩ ⟨y0, ⟨y1, y2, y3, y4⟩, ⟨y5, y6, y7, y8⟩⟩ h; simp [spec_Blend_e] at h; simp [h]
@[simp] theorem spec_Blend_k (z0 : Int) (z1 : Int) (z2 : Int) (z3 : Int) (z4 : Int) (z5 : Int) (z6 : Int) (z7 : Int) (z8 : Int) : spec_Blend_x [AV.int .i64 z0, AV.agg [AV.int .i64 z1, AV.int .i64 z2, AV.int .i64 z3, AV.int .i64 z4], AV.agg [AV.int .i64 z5, AV.int .i64 z6, AV.int .i64 z7, AV.int .i64 z8]] [] = mapR (spec_Blend z0 ⟨z1, z2, z3, z4⟩ ⟨z5, z6, z7, z8⟩) (fun r => (AV.agg [AV.int .i64 r.r, AV.int .i64 r.g, AV.int .i64 r.b, AV.int .i64 r.a], [])) :=
  xOf_eq spec_Blend_i (z0, ⟨z1, z2, z3, z4⟩, ⟨z5, z6, z7, z8⟩)
/-! spec_PaintMask: function 67 -/
noncomputable def spec_PaintMask_l0 (a0 : TSurface) (a1 : TMask) (a2 : TPaint) (a3 : Int) (a4 : Int) (w2 : Int) (w3 : Int) (x29 : Int) : ((Int) × (List TColor)) → Option (((Int) × (List TColor)) ⊕ ((List TColor))) := fun (x40, x41) =>
  cnd (ile a0.w x40) (
   some (.inr x41)) (
   bnd (spec_l11Bits a1 x40 x29) fun v42 =>
   cnd (ieq v42 0) (
    some (.inl ((IntKind.i64.wrap (x40 + 1)), x41))) (
    bnd (spec_ColorAt a2 x40 x29) fun v43 =>
    bnd (spec_CountOf v42) fun v44 =>
    bnd (spec_Thin v43 v44) fun v45 =>
    bnd (spec_Fade v45 a4) fun v46 =>
    bnd (idx a0.pix (IntKind.i64.wrap ((IntKind.i64.wrap (x29 * a0.w)) + x40))) fun v47 =>
    bnd (spec_Blend a3 v46 v47) fun v48 =>
    bnd (idx x41 (IntKind.i64.wrap ((IntKind.i64.wrap (x29 * a0.w)) + x40))) fun v49 =>
    nam ((List.set x41 (Int.toNat (IntKind.i64.wrap ((IntKind.i64.wrap (x29 * a0.w)) + x40))) v48) : List TColor) fun l50 =>
    some (.inl ((IntKind.i64.wrap (x40 + 1)), l50))))
noncomputable def spec_PaintMask_l0_S (a0 : TSurface) (a1 : TMask) (a2 : TPaint) (a3 : Int) (a4 : Int) (w2 : Int) (w3 : Int) (x29 : Int) : ((Int) × (List TColor)) → St := fun (x40, x41) => ⟨[(3, AV.int .i64 a3), (4, AV.int .i64 a4), (5, AV.optr 0 0 3), (6, AV.optr 1 0 5), (7, AV.optr 2 0 13), (10, AV.optr 3 0 3), (11, AV.optr 4 0 3), (12, AV.int .i64 x29), (13, AV.int .i64 x40)], [(0, Ob.box [AV.int .i64 a0.w, AV.int .i64 a0.h, AV.fsl (List.map eColor a0.pix)]), (1, Ob.box [AV.int .i64 a1.box.x0, AV.int .i64 a1.box.y0, AV.int .i64 a1.box.x1, AV.int .i64 a1.box.y1, AV.fsl (List.map (AV.int .i64) a1.bits)]), (2, Ob.box [AV.int .i64 a2.kind, AV.int .i64 a2.first.r, AV.int .i64 a2.first.g, AV.int .i64 a2.first.b, AV.int .i64 a2.first.a, AV.int .i64 a2.last.r, AV.int .i64 a2.last.g, AV.int .i64 a2.last.b, AV.int .i64 a2.last.a, AV.int .i64 a2.from_.x, AV.int .i64 a2.from_.y, AV.int .i64 a2.to.x, AV.int .i64 a2.to.y]), (3, Ob.box [AV.int .i64 0, AV.int .i64 0, AV.nilsl]), (4, Ob.box [AV.int .i64 w2, AV.int .i64 w3, AV.osl 5 0 (List.length x41) (List.length x41)]), (5, Ob.arr 4 (List.map eColor x41) false)], 6⟩
noncomputable def spec_PaintMask_l0_X (a0 : TSurface) (a1 : TMask) (a2 : TPaint) (a3 : Int) (a4 : Int) (w2 : Int) (w3 : Int) (x29 : Int) : ((List TColor)) → Ex × St := fun y51 => ((.exit 2), ⟨[(3, AV.int .i64 a3), (4, AV.int .i64 a4), (5, AV.optr 0 0 3), (6, AV.optr 1 0 5), (7, AV.optr 2 0 13), (10, AV.optr 3 0 3), (11, AV.optr 4 0 3), (12, AV.int .i64 x29)], [(0, Ob.box [AV.int .i64 a0.w, AV.int .i64 a0.h, AV.fsl (List.map eColor a0.pix)]), (1, Ob.box [AV.int .i64 a1.box.x0, AV.int .i64 a1.box.y0, AV.int .i64 a1.box.x1, AV.int .i64 a1.box.y1, AV.fsl (List.map (AV.int .i64) a1.bits)]), (2, Ob.box [AV.int .i64 a2.kind, AV.int .i64 a2.first.r, AV.int .i64 a2.first.g, AV.int .i64 a2.first.b, AV.int .i64 a2.first.a, AV.int .i64 a2.last.r, AV.int .i64 a2.last.g, AV.int .i64 a2.last.b, AV.int .i64 a2.last.a, AV.int .i64 a2.from_.x, AV.int .i64 a2.from_.y, AV.int .i64 a2.to.x, AV.int .i64 a2.to.y]), (3, Ob.box [AV.int .i64 0, AV.int .i64 0, AV.nilsl]), (4, Ob.box [AV.int .i64 w2, AV.int .i64 w3, AV.osl 5 0 (List.length y51) (List.length y51)]), (5, Ob.arr 4 (List.map eColor y51) false)], 6⟩)
noncomputable def spec_PaintMask_l1 (a0 : TSurface) (a1 : TMask) (a2 : TPaint) (a3 : Int) (a4 : Int) (w2 : Int) (w3 : Int) : ((Int) × (List TColor)) → Option (((Int) × (List TColor)) ⊕ ((List TColor))) := fun (x29, x30) =>
  cnd (ile a0.h x29) (
   some (.inr x30)) (
   bnd (loopI (spec_PaintMask_l0 a0 a1 a2 a3 a4 w2 w3 x29) (0, x30)) fun y51 =>
   some (.inl ((IntKind.i64.wrap (x29 + 1)), y51)))
noncomputable def spec_PaintMask_l1_S (a0 : TSurface) (a1 : TMask) (a2 : TPaint) (a3 : Int) (a4 : Int) (w2 : Int) (w3 : Int) : ((Int) × (List TColor)) → St := fun (x29, x30) => ⟨[(3, AV.int .i64 a3), (4, AV.int .i64 a4), (5, AV.optr 0 0 3), (6, AV.optr 1 0 5), (7, AV.optr 2 0 13), (10, AV.optr 3 0 3), (11, AV.optr 4 0 3), (12, AV.int .i64 x29)], [(0, Ob.box [AV.int .i64 a0.w, AV.int .i64 a0.h, AV.fsl (List.map eColor a0.pix)]), (1, Ob.box [AV.int .i64 a1.box.x0, AV.int .i64 a1.box.y0, AV.int .i64 a1.box.x1, AV.int .i64 a1.box.y1, AV.fsl (List.map (AV.int .i64) a1.bits)]), (2, Ob.box [AV.int .i64 a2.kind, AV.int .i64 a2.first.r, AV.int .i64 a2.first.g, AV.int .i64 a2.first.b, AV.int .i64 a2.first.a, AV.int .i64 a2.last.r, AV.int .i64 a2.last.g, AV.int .i64 a2.last.b, AV.int .i64 a2.last.a, AV.int .i64 a2.from_.x, AV.int .i64 a2.from_.y, AV.int .i64 a2.to.x, AV.int .i64 a2.to.y]), (3, Ob.box [AV.int .i64 0, AV.int .i64 0, AV.nilsl]), (4, Ob.box [AV.int .i64 w2, AV.int .i64 w3, AV.osl 5 0 (List.length x30) (List.length x30)]), (5, Ob.arr 4 (List.map eColor x30) false)], 6⟩
noncomputable def spec_PaintMask_l1_X (a0 : TSurface) (a1 : TMask) (a2 : TPaint) (a3 : Int) (a4 : Int) (w2 : Int) (w3 : Int) : ((List TColor)) → Ex × St := fun y52 => ((.exit 0), ⟨[(10, AV.optr 0 0 3), (11, AV.optr 1 0 3)], [(0, Ob.box [AV.int .i64 0, AV.int .i64 0, AV.nilsl]), (1, Ob.box [AV.int .i64 w2, AV.int .i64 w3, AV.osl 2 0 (List.length y52) (List.length y52)]), (2, Ob.arr 4 (List.map eColor y52) false)], 3⟩)
noncomputable def spec_PaintMask (a0 : TSurface) (a1 : TMask) (a2 : TPaint) (a3 : Int) (a4 : Int) : Option ((TSurface)) :=
  bnd (spec_l14Copy a0) fun (w2, w3, w4) =>
  bnd (spec_SurfaceOk a0) fun v5 =>
  cnd v5 (
   bnd (spec_MaskOk a1) fun v6 =>
   cnd v6 (
    bnd (spec_PaintOk a2) fun v7 =>
    cnd v7 (
     bnd (loopI (spec_PaintMask_l1 a0 a1 a2 a3 a4 w2 w3) (0, w4)) fun y52 =>
     some (TSurface.mk w2 w3 y52)) (
     some (TSurface.mk w2 w3 w4))) (
    some (TSurface.mk w2 w3 w4))) (
   some (TSurface.mk w2 w3 w4))
noncomputable def spec_PaintMask_e (q : (TSurface) × (TMask) × (TPaint) × (Int) × (Int)) : List AV × List Ob := ([AV.agg [AV.int .i64 q.1.w, AV.int .i64 q.1.h, AV.fsl (List.map eColor q.1.pix)], AV.agg [AV.int .i64 q.2.1.box.x0, AV.int .i64 q.2.1.box.y0, AV.int .i64 q.2.1.box.x1, AV.int .i64 q.2.1.box.y1, AV.fsl (List.map (AV.int .i64) q.2.1.bits)], AV.agg [AV.int .i64 q.2.2.1.kind, AV.int .i64 q.2.2.1.first.r, AV.int .i64 q.2.2.1.first.g, AV.int .i64 q.2.2.1.first.b, AV.int .i64 q.2.2.1.first.a, AV.int .i64 q.2.2.1.last.r, AV.int .i64 q.2.2.1.last.g, AV.int .i64 q.2.2.1.last.b, AV.int .i64 q.2.2.1.last.a, AV.int .i64 q.2.2.1.from_.x, AV.int .i64 q.2.2.1.from_.y, AV.int .i64 q.2.2.1.to.x, AV.int .i64 q.2.2.1.to.y], AV.int .i64 q.2.2.2.1, AV.int .i64 q.2.2.2.2], [])
noncomputable def spec_PaintMask_v (q : (TSurface) × (TMask) × (TPaint) × (Int) × (Int)) (r : (TSurface)) : AV × List Ob := (AV.agg [AV.int .i64 r.w, AV.int .i64 r.h, AV.fsl (List.map eColor r.pix)], [])
noncomputable def spec_PaintMask_x : List AV → List Ob → Option (AV × List Ob) := xOf spec_PaintMask_e (fun q => spec_PaintMask q.1 q.2.1 q.2.2.1 q.2.2.2.1 q.2.2.2.2) spec_PaintMask_v
theorem spec_PaintMask_i : ∀ a b, spec_PaintMask_e a = spec_PaintMask_e b → a = b := by rintro ⟨⟨x0, x1, x2⟩, ⟨⟨x3, x4, x5, x6⟩, x7⟩, ⟨x8, ⟨x9, x10, x11, x12⟩, ⟨x13, x14, x15, x16⟩, ⟨x17, x18⟩, ⟨x19, x20⟩⟩, x21, x22⟩ ⟨⟨y0, y1, y2⟩, ⟨⟨y3, y4, y5, y6⟩, y7⟩, ⟨y8, ⟨y9, y10, y11, y12⟩, ⟨y13, y14, y15, y16⟩, ⟨y17, y18⟩, ⟨y19, y20⟩⟩, y21, y22⟩ h; simp [spec_PaintMask_e] at h; simp [h]
@[simp] theorem spec_PaintMask_k (z0 : Int) (z1 : Int) (z2 : List TColor) (z3 : Int) (z4 : Int) (z5 : Int) (z6 : Int) (z7 : List Int) (z8 : Int) (z9 : Int) (z10 : Int) (z11 : Int) (z12 : Int) (z13 : Int) (z14 : Int) (z15 : Int) (z16 : Int) (z17 : Int) (z18 : Int) (z19 : Int) (z20 : Int) (z21 : Int) (z22 : Int) : spec_PaintMask_x [AV.agg [AV.int .i64 z0, AV.int .i64 z1, AV.fsl (List.map eColor z2)], AV.agg [AV.int .i64 z3, AV.int .i64 z4, AV.int .i64 z5, AV.int .i64 z6, AV.fsl (List.map (AV.int .i64) z7)], AV.agg [AV.int .i64 z8, AV.int .i64 z9, AV.int .i64 z10, AV.int .i64 z11, AV.int .i64 z12, AV.int .i64 z13, AV.int .i64 z14, AV.int .i64 z15, AV.int .i64 z16, AV.int .i64 z17, AV.int .i64 z18, AV.int .i64 z19, AV.int .i64 z20], AV.int .i64 z21, AV.int .i64 z22] [] = mapR (spec_PaintMask ⟨z0, z1, z2⟩ ⟨⟨z3, z4, z5, z6⟩, z7⟩ ⟨z8, ⟨z9, z10, z11, z12⟩, ⟨z13, z14, z15, z16⟩, ⟨z17, z18⟩, ⟨z19, z20⟩⟩ z21 z22) (fun r => (AV.agg [AV.int .i64 r.w, AV.int .i64 r.h, AV.fsl (List.map eColor r.pix)], [])) :=
  xOf_eq spec_PaintMask_i (⟨z0, z1, z2⟩, ⟨⟨z3, z4, z5, z6⟩, z7⟩, ⟨z8, ⟨z9, z10, z11, z12⟩, ⟨z13, z14, z15, z16⟩, ⟨z17, z18⟩, ⟨z19, z20⟩⟩, z21, z22)
/-! slices_Clone_Color: function 172 -/
noncomputable def slices_Clone_Color (a0 : List TColor) : Option ((List TColor)) :=
  chkP (List.length a0 * 32 ≤ 17592186044416) (
  some a0)
noncomputable def slices_Clone_Color_e (q : (List TColor)) : List AV × List Ob := ([AV.fsl (List.map eColor q)], [])
noncomputable def slices_Clone_Color_v (q : (List TColor)) (r : (List TColor)) : AV × List Ob := (AV.osl 0 0 (List.length r) (List.length r), [Ob.arr 4 (List.map eColor r) false])
noncomputable def slices_Clone_Color_x : List AV → List Ob → Option (AV × List Ob) := xOf slices_Clone_Color_e (fun q => slices_Clone_Color q) slices_Clone_Color_v
theorem slices_Clone_Color_i : ∀ a b, slices_Clone_Color_e a = slices_Clone_Color_e b → a = b := by rintro x0 y0 h; simp [slices_Clone_Color_e] at h; simp [h]
@[simp] theorem slices_Clone_Color_k (z0 : List TColor) : slices_Clone_Color_x [AV.fsl (List.map eColor z0)] [] = mapR (slices_Clone_Color z0) (fun r => (AV.osl 0 0 (List.length r) (List.length r), [Ob.arr 4 (List.map eColor r) false])) :=
  xOf_eq slices_Clone_Color_i z0
/-! impl_copySurface: function 103 -/
noncomputable def impl_copySurface (a0 : TSurface) : Option ((Int) × (Int) × (List TColor)) :=
  bnd (slices_Clone_Color a0.pix) fun v1 =>
  some (a0.w, a0.h, v1)
noncomputable def impl_copySurface_e (q : (TSurface)) : List AV × List Ob := ([AV.agg [AV.int .i64 q.w, AV.int .i64 q.h, AV.fsl (List.map eColor q.pix)]], [])
noncomputable def impl_copySurface_v (q : (TSurface)) (r : (Int) × (Int) × (List TColor)) : AV × List Ob := (AV.agg [AV.int .i64 r.1, AV.int .i64 r.2.1, AV.osl 0 0 (List.length r.2.2) (List.length r.2.2)], [Ob.arr 4 (List.map eColor r.2.2) false])
noncomputable def impl_copySurface_x : List AV → List Ob → Option (AV × List Ob) := xOf impl_copySurface_e (fun q => impl_copySurface q) impl_copySurface_v
theorem impl_copySurface_i : ∀ a b, impl_copySurface_e a = impl_copySurface_e b → a = b := by rintro ⟨x0, x1, x2⟩ ⟨y0, y1, y2⟩ h; simp [impl_copySurface_e] at h; simp [h]
@[simp] theorem impl_copySurface_k (z0 : Int) (z1 : Int) (z2 : List TColor) : impl_copySurface_x [AV.agg [AV.int .i64 z0, AV.int .i64 z1, AV.fsl (List.map eColor z2)]] [] = mapR (impl_copySurface ⟨z0, z1, z2⟩) (fun r => (AV.agg [AV.int .i64 r.1, AV.int .i64 r.2.1, AV.osl 0 0 (List.length r.2.2) (List.length r.2.2)], [Ob.arr 4 (List.map eColor r.2.2) false])) :=
  xOf_eq impl_copySurface_i ⟨z0, z1, z2⟩
/-! impl_inRange: function 76 -/
noncomputable def impl_inRange (a0 : Int) (a1 : Int) (a2 : Int) : Option ((Bool)) :=
  cnd (ile a1 a0) (
   some (ile a0 a2)) (
   some false)
noncomputable def impl_inRange_e (q : (Int) × (Int) × (Int)) : List AV × List Ob := ([AV.int .i64 q.1, AV.int .i64 q.2.1, AV.int .i64 q.2.2], [])
noncomputable def impl_inRange_v (q : (Int) × (Int) × (Int)) (r : (Bool)) : AV × List Ob := (AV.bool r, [])
noncomputable def impl_inRange_x : List AV → List Ob → Option (AV × List Ob) := xOf impl_inRange_e (fun q => impl_inRange q.1 q.2.1 q.2.2) impl_inRange_v
theorem impl_inRange_i : ∀ a b, impl_inRange_e a = impl_inRange_e b → a = b := by rintro ⟨x0, x1, x2⟩ ⟨y0, y1, y2⟩ h; simp [impl_inRange_e] at h; simp [h]
@[simp] theorem impl_inRange_k (z0 : Int) (z1 : Int) (z2 : Int) : impl_inRange_x [AV.int .i64 z0, AV.int .i64 z1, AV.int .i64 z2] [] = mapR (impl_inRange z0 z1 z2) (fun r => (AV.bool r, [])) :=
  xOf_eq impl_inRange_i (z0, z1, z2)
/-! impl_isSide: function 102 -/
noncomputable def impl_isSide (a0 : Int) : Option ((Bool)) :=
  bnd (impl_inRange a0 1 12) fun v1 =>
  some v1
noncomputable def impl_isSide_e (q : (Int)) : List AV × List Ob := ([AV.int .i64 q], [])
noncomputable def impl_isSide_v (q : (Int)) (r : (Bool)) : AV × List Ob := (AV.bool r, [])
noncomputable def impl_isSide_x : List AV → List Ob → Option (AV × List Ob) := xOf impl_isSide_e (fun q => impl_isSide q) impl_isSide_v
theorem impl_isSide_i : ∀ a b, impl_isSide_e a = impl_isSide_e b → a = b := by rintro x0 y0 h; simp [impl_isSide_e] at h; simp [h]
@[simp] theorem impl_isSide_k (z0 : Int) : impl_isSide_x [AV.int .i64 z0] [] = mapR (impl_isSide z0) (fun r => (AV.bool r, [])) :=
  xOf_eq impl_isSide_i z0
/-! impl_isByte: function 178 -/
noncomputable def impl_isByte (a0 : Int) : Option ((Bool)) :=
  bnd (impl_inRange a0 0 255) fun v1 =>
  some v1
noncomputable def impl_isByte_e (q : (Int)) : List AV × List Ob := ([AV.int .i64 q], [])
noncomputable def impl_isByte_v (q : (Int)) (r : (Bool)) : AV × List Ob := (AV.bool r, [])
noncomputable def impl_isByte_x : List AV → List Ob → Option (AV × List Ob) := xOf impl_isByte_e (fun q => impl_isByte q) impl_isByte_v
theorem impl_isByte_i : ∀ a b, impl_isByte_e a = impl_isByte_e b → a = b := by rintro x0 y0 h; simp [impl_isByte_e] at h; simp [h]
@[simp] theorem impl_isByte_k (z0 : Int) : impl_isByte_x [AV.int .i64 z0] [] = mapR (impl_isByte z0) (fun r => (AV.bool r, [])) :=
  xOf_eq impl_isByte_i z0
/-! impl_ColorOk: function 180 -/
noncomputable def impl_ColorOk (a0 : TColor) : Option ((Bool)) :=
  bnd (impl_isByte a0.r) fun v1 =>
  cnd v1 (
   bnd (impl_isByte a0.g) fun v2 =>
   cnd v2 (
    bnd (impl_isByte a0.b) fun v3 =>
    cnd v3 (
     bnd (impl_isByte a0.a) fun v4 =>
     some v4) (
     some false)) (
    some false)) (
   some false)
noncomputable def impl_ColorOk_e (q : (TColor)) : List AV × List Ob := ([AV.agg [AV.int .i64 q.r, AV.int .i64 q.g, AV.int .i64 q.b, AV.int .i64 q.a]], [])
noncomputable def impl_ColorOk_v (q : (TColor)) (r : (Bool)) : AV × List Ob := (AV.bool r, [])
noncomputable def impl_ColorOk_x : List AV → List Ob → Option (AV × List Ob) := xOf impl_ColorOk_e (fun q => impl_ColorOk q) impl_ColorOk_v
theorem impl_ColorOk_i : ∀ a b, impl_ColorOk_e a = impl_ColorOk_e b → a = b := by rintro ⟨x0, x1, x2, x3⟩ ⟨y0, y1, y2, y3⟩ h; simp [impl_ColorOk_e] at h; simp [h]
@[simp] theorem impl_ColorOk_k (z0 : Int) (z1 : Int) (z2 : Int) (z3 : Int) : impl_ColorOk_x [AV.agg [AV.int .i64 z0, AV.int .i64 z1, AV.int .i64 z2, AV.int .i64 z3]] [] = mapR (impl_ColorOk ⟨z0, z1, z2, z3⟩) (fun r => (AV.bool r, [])) :=
  xOf_eq impl_ColorOk_i ⟨z0, z1, z2, z3⟩
/-! impl_LaidOk: function 112 -/
noncomputable def impl_LaidOk (a0 : TColor) : Option ((Bool)) :=
  bnd (impl_ColorOk a0) fun v1 =>
  cnd v1 (
   cnd (ile a0.r a0.a) (
    cnd (ile a0.g a0.a) (
     some (ile a0.b a0.a)) (
     some false)) (
    some false)) (
   some false)
noncomputable def impl_LaidOk_e (q : (TColor)) : List AV × List Ob := ([AV.agg [AV.int .i64 q.r, AV.int .i64 q.g, AV.int .i64 q.b, AV.int .i64 q.a]], [])
noncomputable def impl_LaidOk_v (q : (TColor)) (r : (Bool)) : AV × List Ob := (AV.bool r, [])
noncomputable def impl_LaidOk_x : List AV → List Ob → Option (AV × List Ob) := xOf impl_LaidOk_e (fun q => impl_LaidOk q) impl_LaidOk_v
theorem impl_LaidOk_i : ∀ a b, impl_LaidOk_e a = impl_LaidOk_e b → a = b := by rintro ⟨x0, x1, x2, x3⟩ ⟨y0, y1, y2, y3⟩ h; simp [impl_LaidOk_e] at h; simp [h]
@[simp] theorem impl_LaidOk_k (z0 : Int) (z1 : Int) (z2 : Int) (z3 : Int) : impl_LaidOk_x [AV.agg [AV.int .i64 z0, AV.int .i64 z1, AV.int .i64 z2, AV.int .i64 z3]] [] = mapR (impl_LaidOk ⟨z0, z1, z2, z3⟩) (fun r => (AV.bool r, [])) :=
  xOf_eq impl_LaidOk_i ⟨z0, z1, z2, z3⟩
/-! impl_SurfaceOk: function 34 -/
noncomputable def impl_SurfaceOk_l0 (a0 : TSurface) : ((Int)) → Option (((Int)) ⊕ ((Unit) ⊕ (Unit))) := fun x5 =>
  cnd (ile (List.length a0.pix : Int) x5) (
   some (.inr (.inl ()))) (
   bnd (idx a0.pix x5) fun v6 =>
   bnd (impl_LaidOk v6) fun v7 =>
   cnd v7 (
    some (.inl (IntKind.i64.wrap (x5 + 1)))) (
    some (.inr (.inr ()))))
noncomputable def impl_SurfaceOk_l0_S (a0 : TSurface) : ((Int)) → St := fun x5 => ⟨[(27, AV.fsl (List.map eColor a0.pix)), (28, AV.int .i64 (List.length a0.pix : Int)), (29, AV.int .i64 x5)], [], 0⟩
noncomputable def impl_SurfaceOk_l0_X (a0 : TSurface) : ((Unit) ⊕ (Unit)) → Ex × St := fun q => match q with
  | .inl _ => ((.exit 0), ⟨[], [], 0⟩)
  | .inr _ => (.ret, ⟨[(2, AV.bool false)], [], 0⟩)
noncomputable def impl_SurfaceOk (a0 : TSurface) : Option ((Bool)) :=
  bnd (impl_isSide a0.w) fun v1 =>
  cnd v1 (
   bnd (impl_isSide a0.h) fun v2 =>
   cnd v2 (
    cnd (ieq (List.length a0.pix : Int) (IntKind.i64.wrap (a0.w * a0.h))) (
     bnd (loopI (impl_SurfaceOk_l0 a0) 0) fun q => match q with
     | .inl () =>
      some true
     | .inr () =>
      some false) (
     some false)) (
    some false)) (
   some false)
noncomputable def impl_SurfaceOk_e (q : (TSurface)) : List AV × List Ob := ([AV.agg [AV.int .i64 q.w, AV.int .i64 q.h, AV.fsl (List.map eColor q.pix)]], [])
noncomputable def impl_SurfaceOk_v (q : (TSurface)) (r : (Bool)) : AV × List Ob := (AV.bool r, [])
noncomputable def impl_SurfaceOk_x : List AV → List Ob → Option (AV × List Ob) := xOf impl_SurfaceOk_e (fun q => impl_SurfaceOk q) impl_SurfaceOk_v
theorem impl_SurfaceOk_i : ∀ a b, impl_SurfaceOk_e a = impl_SurfaceOk_e b → a = b := by rintro ⟨x0, x1, x2⟩ ⟨y0, y1, y2⟩ h; simp [impl_SurfaceOk_e] at h; simp [h]
@[simp] theorem impl_SurfaceOk_k (z0 : Int) (z1 : Int) (z2 : List TColor) : impl_SurfaceOk_x [AV.agg [AV.int .i64 z0, AV.int .i64 z1, AV.fsl (List.map eColor z2)]] [] = mapR (impl_SurfaceOk ⟨z0, z1, z2⟩) (fun r => (AV.bool r, [])) :=
  xOf_eq impl_SurfaceOk_i ⟨z0, z1, z2⟩
/-! impl_Empty: function 158 -/
noncomputable def impl_Empty (a0 : TBox) : Option ((Bool)) :=
  cnd (ile a0.x1 a0.x0) (
   some true) (
   some (ile a0.y1 a0.y0))
noncomputable def impl_Empty_e (q : (TBox)) : List AV × List Ob := ([AV.agg [AV.int .i64 q.x0, AV.int .i64 q.y0, AV.int .i64 q.x1, AV.int .i64 q.y1]], [])
noncomputable def impl_Empty_v (q : (TBox)) (r : (Bool)) : AV × List Ob := (AV.bool r, [])
noncomputable def impl_Empty_x : List AV → List Ob → Option (AV × List Ob) := xOf impl_Empty_e (fun q => impl_Empty q) impl_Empty_v
theorem impl_Empty_i : ∀ a b, impl_Empty_e a = impl_Empty_e b → a = b := by rintro ⟨x0, x1, x2, x3⟩ ⟨y0, y1, y2, y3⟩ h; simp [impl_Empty_e] at h; simp [h]
@[simp] theorem impl_Empty_k (z0 : Int) (z1 : Int) (z2 : Int) (z3 : Int) : impl_Empty_x [AV.agg [AV.int .i64 z0, AV.int .i64 z1, AV.int .i64 z2, AV.int .i64 z3]] [] = mapR (impl_Empty ⟨z0, z1, z2, z3⟩) (fun r => (AV.bool r, [])) :=
  xOf_eq impl_Empty_i ⟨z0, z1, z2, z3⟩
/-! impl_isMaskBox: function 152 -/
noncomputable def impl_isMaskBox (a0 : TBox) : Option ((Bool)) :=
  bnd (impl_Empty a0) fun v1 =>
  cnd v1 (
   some false) (
   cnd (ile (-2000) a0.x0) (
    cnd (ile (-2000) a0.y0) (
     cnd (ile a0.x1 2000) (
      cnd (ile a0.y1 2000) (
       cnd (ile (IntKind.i64.wrap (a0.x1 - a0.x0)) 60) (
        some (ile (IntKind.i64.wrap (a0.y1 - a0.y0)) 60)) (
        some false)) (
       some false)) (
      some false)) (
     some false)) (
    some false))
noncomputable def impl_isMaskBox_e (q : (TBox)) : List AV × List Ob := ([AV.agg [AV.int .i64 q.x0, AV.int .i64 q.y0, AV.int .i64 q.x1, AV.int .i64 q.y1]], [])
noncomputable def impl_isMaskBox_v (q : (TBox)) (r : (Bool)) : AV × List Ob := (AV.bool r, [])
noncomputable def impl_isMaskBox_x : List AV → List Ob → Option (AV × List Ob) := xOf impl_isMaskBox_e (fun q => impl_isMaskBox q) impl_isMaskBox_v
theorem impl_isMaskBox_i : ∀ a b, impl_isMaskBox_e a = impl_isMaskBox_e b → a = b := by rintro ⟨x0, x1, x2, x3⟩ ⟨y0, y1, y2, y3⟩ h; simp [impl_isMaskBox_e] at h; simp [h]
@[simp] theorem impl_isMaskBox_k (z0 : Int) (z1 : Int) (z2 : Int) (z3 : Int) : impl_isMaskBox_x [AV.agg [AV.int .i64 z0, AV.int .i64 z1, AV.int .i64 z2, AV.int .i64 z3]] [] = mapR (impl_isMaskBox ⟨z0, z1, z2, z3⟩) (fun r => (AV.bool r, [])) :=
  xOf_eq impl_isMaskBox_i ⟨z0, z1, z2, z3⟩
/-! impl_MaskOk: function 78 -/
noncomputable def impl_MaskOk_l0 (a0 : TMask) : ((Int)) → Option (((Int)) ⊕ ((Unit) ⊕ (Unit))) := fun x4 =>
  cnd (ile (List.length a0.bits : Int) x4) (
   some (.inr (.inl ()))) (
   bnd (idx a0.bits x4) fun v5 =>
   bnd (impl_inRange v5 0 15) fun v6 =>
   cnd v6 (
    some (.inl (IntKind.i64.wrap (x4 + 1)))) (
    some (.inr (.inr ()))))
noncomputable def impl_MaskOk_l0_S (a0 : TMask) : ((Int)) → St := fun x4 => ⟨[(39, AV.fsl (List.map (AV.int .i64) a0.bits)), (40, AV.int .i64 (List.length a0.bits : Int)), (41, AV.int .i64 x4)], [], 0⟩
noncomputable def impl_MaskOk_l0_X (a0 : TMask) : ((Unit) ⊕ (Unit)) → Ex × St := fun q => match q with
  | .inl _ => ((.exit 0), ⟨[], [], 0⟩)
  | .inr _ => (.ret, ⟨[(2, AV.bool false)], [], 0⟩)
noncomputable def impl_MaskOk (a0 : TMask) : Option ((Bool)) :=
  cnd (andB (decide (a0.box.x0 = 0)) (andB (decide (a0.box.y0 = 0)) (andB (decide (a0.box.x1 = 0)) (andB (decide (a0.box.y1 = 0)) true)))) (
   some (ieq (List.length a0.bits : Int) 0)) (
   bnd (impl_isMaskBox a0.box) fun v1 =>
   cnd v1 (
    cnd (ieq (List.length a0.bits : Int) (IntKind.i64.wrap ((IntKind.i64.wrap (a0.box.x1 - a0.box.x0)) * (IntKind.i64.wrap (a0.box.y1 - a0.box.y0))))) (
     bnd (loopI (impl_MaskOk_l0 a0) 0) fun q => match q with
     | .inl () =>
      some true
     | .inr () =>
      some false) (
     some false)) (
    some false))
noncomputable def impl_MaskOk_e (q : (TMask)) : List AV × List Ob := ([AV.agg [AV.int .i64 q.box.x0, AV.int .i64 q.box.y0, AV.int .i64 q.box.x1, AV.int .i64 q.box.y1, AV.fsl (List.map (AV.int .i64) q.bits)]], [])
noncomputable def impl_MaskOk_v (q : (TMask)) (r : (Bool)) : AV × List Ob := (AV.bool r, [])
noncomputable def impl_MaskOk_x : List AV → List Ob → Option (AV × List Ob) := xOf impl_MaskOk_e (fun q => impl_MaskOk q) impl_MaskOk_v
theorem impl_MaskOk_i : ∀ a b, impl_MaskOk_e a = impl_MaskOk_e b → a = b := by rintro ⟨⟨x0, x1, x2, x3⟩, x4⟩ ⟨⟨y0, y1, y2, y3⟩, y4⟩ h; simp [impl_MaskOk_e] at h; simp [h]
@[simp] theorem impl_MaskOk_k (z0 : Int) (z1 : Int) (z2 : Int) (z3 : Int) (z4 : List Int) : impl_MaskOk_x [AV.agg [AV.int .i64 z0, AV.int .i64 z1, AV.int .i64 z2, AV.int .i64 z3, AV.fsl (List.map (AV.int .i64) z4)]] [] = mapR (impl_MaskOk ⟨⟨z0, z1, z2, z3⟩, z4⟩) (fun r => (AV.bool r, [])) :=
  xOf_eq impl_MaskOk_i ⟨⟨z0, z1, z2, z3⟩, z4⟩
/-! impl_isFar: function 226 -/
noncomputable def impl_isFar (a0 : Int) : Option ((Bool)) :=
  bnd (impl_inRange a0 (-8388608) 8388608) fun v1 =>
  some v1
noncomputable def impl_isFar_e (q : (Int)) : List AV × List Ob := ([AV.int .i64 q], [])
noncomputable def impl_isFar_v (q : (Int)) (r : (Bool)) : AV × List Ob := (AV.bool r, [])
noncomputable def impl_isFar_x : List AV → List Ob → Option (AV × List Ob) := xOf impl_isFar_e (fun q => impl_isFar q) impl_isFar_v
theorem impl_isFar_i : ∀ a b, impl_isFar_e a = impl_isFar_e b → a = b := by rintro x0 y0 h; simp [impl_isFar_e] at h; simp [h]
@[simp] theorem impl_isFar_k (z0 : Int) : impl_isFar_x [AV.int .i64 z0] [] = mapR (impl_isFar z0) (fun r => (AV.bool r, [])) :=
  xOf_eq impl_isFar_i z0
/-! impl_PointOk: function 187 -/
noncomputable def impl_PointOk (a0 : TPoint) : Option ((Bool)) :=
  bnd (impl_isFar a0.x) fun v1 =>
  cnd v1 (
   bnd (impl_isFar a0.y) fun v2 =>
   some v2) (
   some false)
noncomputable def impl_PointOk_e (q : (TPoint)) : List AV × List Ob := ([AV.agg [AV.int .i64 q.x, AV.int .i64 q.y]], [])
noncomputable def impl_PointOk_v (q : (TPoint)) (r : (Bool)) : AV × List Ob := (AV.bool r, [])
noncomputable def impl_PointOk_x : List AV → List Ob → Option (AV × List Ob) := xOf impl_PointOk_e (fun q => impl_PointOk q) impl_PointOk_v
theorem impl_PointOk_i : ∀ a b, impl_PointOk_e a = impl_PointOk_e b → a = b := by rintro ⟨x0, x1⟩ ⟨y0, y1⟩ h; simp [impl_PointOk_e] at h; simp [h]
@[simp] theorem impl_PointOk_k (z0 : Int) (z1 : Int) : impl_PointOk_x [AV.agg [AV.int .i64 z0, AV.int .i64 z1]] [] = mapR (impl_PointOk ⟨z0, z1⟩) (fun r => (AV.bool r, [])) :=
  xOf_eq impl_PointOk_i ⟨z0, z1⟩
/-! impl_PaintOk: function 116 -/
noncomputable def impl_PaintOk (a0 : TPaint) : Option ((Bool)) :=
  cnd (ieq a0.kind 1) (
   bnd (impl_ColorOk a0.first) fun v1 =>
   cnd v1 (
    some (andB (decide (a0.kind = 1)) (andB (decide (a0.first.r = a0.first.r)) (andB (decide (a0.first.g = a0.first.g)) (andB (decide (a0.first.b = a0.first.b)) (andB (decide (a0.first.a = a0.first.a)) (andB (decide (a0.last.r = 0)) (andB (decide (a0.last.g = 0)) (andB (decide (a0.last.b = 0)) (andB (decide (a0.last.a = 0)) (andB (decide (a0.from_.x = 0)) (andB (decide (a0.from_.y = 0)) (andB (decide (a0.to.x = 0)) (andB (decide (a0.to.y = 0)) true)))))))))))))) (
    some false)) (
   cnd (ieq a0.kind 2) (
    bnd (impl_ColorOk a0.first) fun v2 =>
    cnd v2 (
     bnd (impl_ColorOk a0.last) fun v3 =>
     cnd v3 (
      bnd (impl_PointOk a0.from_) fun v4 =>
      cnd v4 (
       bnd (impl_PointOk a0.to) fun v5 =>
       cnd v5 (
        some (!(andB (decide (a0.from_.x = a0.to.x)) (andB (decide (a0.from_.y = a0.to.y)) true)))) (
        some false)) (
       some false)) (
      some false)) (
     some false)) (
    some false))
noncomputable def impl_PaintOk_e (q : (TPaint)) : List AV × List Ob := ([AV.agg [AV.int .i64 q.kind, AV.int .i64 q.first.r, AV.int .i64 q.first.g, AV.int .i64 q.first.b, AV.int .i64 q.first.a, AV.int .i64 q.last.r, AV.int .i64 q.last.g, AV.int .i64 q.last.b, AV.int .i64 q.last.a, AV.int .i64 q.from_.x, AV.int .i64 q.from_.y, AV.int .i64 q.to.x, AV.int .i64 q.to.y]], [])
noncomputable def impl_PaintOk_v (q : (TPaint)) (r : (Bool)) : AV × List Ob := (AV.bool r, [])
noncomputable def impl_PaintOk_x : List AV → List Ob → Option (AV × List Ob) := xOf impl_PaintOk_e (fun q => impl_PaintOk q) impl_PaintOk_v
theorem impl_PaintOk_i : ∀ a b, impl_PaintOk_e a = impl_PaintOk_e b → a = b := by rintro ⟨x0, ⟨x1, x2, x3, x4⟩, ⟨x5, x6, x7, x8⟩, ⟨x9, x10⟩, ⟨x11, x12⟩⟩ ⟨y0, ⟨y1, y2, y3, y4⟩, ⟨y5, y6, y7, y8⟩, ⟨y9, y10⟩, ⟨y11, y12⟩⟩ h; simp [impl_PaintOk_e] at h; simp [h]
@[simp] theorem impl_PaintOk_k (z0 : Int) (z1 : Int) (z2 : Int) (z3 : Int) (z4 : Int) (z5 : Int) (z6 : Int) (z7 : Int) (z8 : Int) (z9 : Int) (z10 : Int) (z11 : Int) (z12 : Int) : impl_PaintOk_x [AV.agg [AV.int .i64 z0, AV.int .i64 z1, AV.int .i64 z2, AV.int .i64 z3, AV.int .i64 z4, AV.int .i64 z5, AV.int .i64 z6, AV.int .i64 z7, AV.int .i64 z8, AV.int .i64 z9, AV.int .i64 z10, AV.int .i64 z11, AV.int .i64 z12]] [] = mapR (impl_PaintOk ⟨z0, ⟨z1, z2, z3, z4⟩, ⟨z5, z6, z7, z8⟩, ⟨z9, z10⟩, ⟨z11, z12⟩⟩) (fun r => (AV.bool r, [])) :=
  xOf_eq impl_PaintOk_i ⟨z0, ⟨z1, z2, z3, z4⟩, ⟨z5, z6, z7, z8⟩, ⟨z9, z10⟩, ⟨z11, z12⟩⟩
/-! impl_Surface_box: function 105 -/
noncomputable def impl_Surface_box (a0 : TSurface) : Option ((TBox)) :=
  some (TBox.mk 0 0 a0.w a0.h)
noncomputable def impl_Surface_box_e (q : (TSurface)) : List AV × List Ob := ([AV.fptr [AV.int .i64 q.w, AV.int .i64 q.h, AV.fsl (List.map eColor q.pix)] 0], [])
noncomputable def impl_Surface_box_v (q : (TSurface)) (r : (TBox)) : AV × List Ob := (AV.agg [AV.int .i64 r.x0, AV.int .i64 r.y0, AV.int .i64 r.x1, AV.int .i64 r.y1], [])
noncomputable def impl_Surface_box_x : List AV → List Ob → Option (AV × List Ob) := xOf impl_Surface_box_e (fun q => impl_Surface_box q) impl_Surface_box_v
theorem impl_Surface_box_i : ∀ a b, impl_Surface_box_e a = impl_Surface_box_e b → a = b := by rintro ⟨x0, x1, x2⟩ ⟨y0, y1, y2⟩ h; simp [impl_Surface_box_e] at h; simp [h]
@[simp] theorem impl_Surface_box_k (z0 : Int) (z1 : Int) (z2 : List TColor) : impl_Surface_box_x [AV.fptr [AV.int .i64 z0, AV.int .i64 z1, AV.fsl (List.map eColor z2)] 0] [] = mapR (impl_Surface_box ⟨z0, z1, z2⟩) (fun r => (AV.agg [AV.int .i64 r.x0, AV.int .i64 r.y0, AV.int .i64 r.x1, AV.int .i64 r.y1], [])) :=
  xOf_eq impl_Surface_box_i ⟨z0, z1, z2⟩
/-! impl_MeetBox: function 157 -/
noncomputable def impl_MeetBox (a0 : TBox) (a1 : TBox) : Option ((TBox)) :=
  bnd (impl_Empty (TBox.mk (max a0.x0 a1.x0) (max a0.y0 a1.y0) (min a0.x1 a1.x1) (min a0.y1 a1.y1))) fun v1 =>
  cnd v1 (
   some (TBox.mk 0 0 0 0)) (
   some (TBox.mk (max a0.x0 a1.x0) (max a0.y0 a1.y0) (min a0.x1 a1.x1) (min a0.y1 a1.y1)))
noncomputable def impl_MeetBox_e (q : (TBox) × (TBox)) : List AV × List Ob := ([AV.agg [AV.int .i64 q.1.x0, AV.int .i64 q.1.y0, AV.int .i64 q.1.x1, AV.int .i64 q.1.y1], AV.agg [AV.int .i64 q.2.x0, AV.int .i64 q.2.y0, AV.int .i64 q.2.x1, AV.int .i64 q.2.y1]], [])
noncomputable def impl_MeetBox_v (q : (TBox) × (TBox)) (r : (TBox)) : AV × List Ob := (AV.agg [AV.int .i64 r.x0, AV.int .i64 r.y0, AV.int .i64 r.x1, AV.int .i64 r.y1], [])
noncomputable def impl_MeetBox_x : List AV → List Ob → Option (AV × List Ob) := xOf impl_MeetBox_e (fun q => impl_MeetBox q.1 q.2) impl_MeetBox_v
theorem impl_MeetBox_i : ∀ a b, impl_MeetBox_e a = impl_MeetBox_e b → a = b := by rintro ⟨⟨x0, x1, x2, x3⟩, ⟨x4, x5, x6, x7⟩⟩ ⟨⟨y0, y1, y2, y3⟩, ⟨y4, y5, y6, y7⟩⟩ h; simp [impl_MeetBox_e] at h; simp [h]
@[simp] theorem impl_MeetBox_k (z0 : Int) (z1 : Int) (z2 : Int) (z3 : Int) (z4 : Int) (z5 : Int) (z6 : Int) (z7 : Int) : impl_MeetBox_x [AV.agg [AV.int .i64 z0, AV.int .i64 z1, AV.int .i64 z2, AV.int .i64 z3], AV.agg [AV.int .i64 z4, AV.int .i64 z5, AV.int .i64 z6, AV.int .i64 z7]] [] = mapR (impl_MeetBox ⟨z0, z1, z2, z3⟩ ⟨z4, z5, z6, z7⟩) (fun r => (AV.agg [AV.int .i64 r.x0, AV.int .i64 r.y0, AV.int .i64 r.x1, AV.int .i64 r.y1], [])) :=
  xOf_eq impl_MeetBox_i (⟨z0, z1, z2, z3⟩, ⟨z4, z5, z6, z7⟩)
/-! impl_InBox: function 188 -/
noncomputable def impl_InBox (a0 : TBox) (a1 : TPoint) : Option ((Bool)) :=
  cnd (ile a0.x0 a1.x) (
   cnd (ile a0.x1 a1.x) (
    some false) (
    cnd (ile a0.y0 a1.y) (
     some (!(ile a0.y1 a1.y))) (
     some false))) (
   some false)
noncomputable def impl_InBox_e (q : (TBox) × (TPoint)) : List AV × List Ob := ([AV.agg [AV.int .i64 q.1.x0, AV.int .i64 q.1.y0, AV.int .i64 q.1.x1, AV.int .i64 q.1.y1], AV.agg [AV.int .i64 q.2.x, AV.int .i64 q.2.y]], [])
noncomputable def impl_InBox_v (q : (TBox) × (TPoint)) (r : (Bool)) : AV × List Ob := (AV.bool r, [])
noncomputable def impl_InBox_x : List AV → List Ob → Option (AV × List Ob) := xOf impl_InBox_e (fun q => impl_InBox q.1 q.2) impl_InBox_v
theorem impl_InBox_i : ∀ a b, impl_InBox_e a = impl_InBox_e b → a = b := by rintro ⟨⟨x0, x1, x2, x3⟩, ⟨x4, x5⟩⟩ ⟨⟨y0, y1, y2, y3⟩, ⟨y4, y5⟩⟩ h; simp [impl_InBox_e] at h; simp [h]
@[simp] theorem impl_InBox_k (z0 : Int) (z1 : Int) (z2 : Int) (z3 : Int) (z4 : Int) (z5 : Int) : impl_InBox_x [AV.agg [AV.int .i64 z0, AV.int .i64 z1, AV.int .i64 z2, AV.int .i64 z3], AV.agg [AV.int .i64 z4, AV.int .i64 z5]] [] = mapR (impl_InBox ⟨z0, z1, z2, z3⟩ ⟨z4, z5⟩) (fun r => (AV.bool r, [])) :=
  xOf_eq impl_InBox_i (⟨z0, z1, z2, z3⟩, ⟨z4, z5⟩)
/-! impl_Mask_bitsAt: function 118 -/
noncomputable def impl_Mask_bitsAt (a0 : TMask) (a1 : Int) (a2 : Int) : Option ((Int)) :=
  bnd (impl_InBox a0.box (TPoint.mk a1 a2)) fun v1 =>
  cnd v1 (
   bnd (idx a0.bits (IntKind.i64.wrap ((IntKind.i64.wrap ((IntKind.i64.wrap ((IntKind.i64.wrap (a2 - a0.box.y0)) * (IntKind.i64.wrap (a0.box.x1 - a0.box.x0)))) + a1)) - a0.box.x0))) fun v2 =>
   some v2) (
   some 0)
noncomputable def impl_Mask_bitsAt_e (q : (TMask) × (Int) × (Int)) : List AV × List Ob := ([AV.fptr [AV.int .i64 q.1.box.x0, AV.int .i64 q.1.box.y0, AV.int .i64 q.1.box.x1, AV.int .i64 q.1.box.y1, AV.fsl (List.map (AV.int .i64) q.1.bits)] 0, AV.int .i64 q.2.1, AV.int .i64 q.2.2], [])
noncomputable def impl_Mask_bitsAt_v (q : (TMask) × (Int) × (Int)) (r : (Int)) : AV × List Ob := (AV.int .i64 r, [])
noncomputable def impl_Mask_bitsAt_x : List AV → List Ob → Option (AV × List Ob) := xOf impl_Mask_bitsAt_e (fun q => impl_Mask_bitsAt q.1 q.2.1 q.2.2) impl_Mask_bitsAt_v
theorem impl_Mask_bitsAt_i : ∀ a b, impl_Mask_bitsAt_e a = impl_Mask_bitsAt_e b → a = b := by rintro ⟨⟨⟨x0, x1, x2, x3⟩, x4⟩, x5, x6⟩ ⟨⟨⟨y0, y1, y2, y3⟩, y4⟩, y5, y6⟩ h; simp [impl_Mask_bitsAt_e] at h; simp [h]
@[simp] theorem impl_Mask_bitsAt_k (z0 : Int) (z1 : Int) (z2 : Int) (z3 : Int) (z4 : List Int) (z5 : Int) (z6 : Int) : impl_Mask_bitsAt_x [AV.fptr [AV.int .i64 z0, AV.int .i64 z1, AV.int .i64 z2, AV.int .i64 z3, AV.fsl (List.map (AV.int .i64) z4)] 0, AV.int .i64 z5, AV.int .i64 z6] [] = mapR (impl_Mask_bitsAt ⟨⟨z0, z1, z2, z3⟩, z4⟩ z5 z6) (fun r => (AV.int .i64 r, [])) :=
  xOf_eq impl_Mask_bitsAt_i (⟨⟨z0, z1, z2, z3⟩, z4⟩, z5, z6)
/-! impl_Clamp: function 219 -/
noncomputable def impl_Clamp (a0 : Int) (a1 : Int) (a2 : Int) : Option ((Int)) :=
  cnd (ile a1 a0) (
   cnd (ile a0 a2) (
    some a0) (
    some a2)) (
   some a1)
noncomputable def impl_Clamp_e (q : (Int) × (Int) × (Int)) : List AV × List Ob := ([AV.int .i64 q.1, AV.int .i64 q.2.1, AV.int .i64 q.2.2], [])
noncomputable def impl_Clamp_v (q : (Int) × (Int) × (Int)) (r : (Int)) : AV × List Ob := (AV.int .i64 r, [])
noncomputable def impl_Clamp_x : List AV → List Ob → Option (AV × List Ob) := xOf impl_Clamp_e (fun q => impl_Clamp q.1 q.2.1 q.2.2) impl_Clamp_v
theorem impl_Clamp_i : ∀ a b, impl_Clamp_e a = impl_Clamp_e b → a = b := by rintro ⟨x0, x1, x2⟩ ⟨y0, y1, y2⟩ h; simp [impl_Clamp_e] at h; simp [h]
@[simp] theorem impl_Clamp_k (z0 : Int) (z1 : Int) (z2 : Int) : impl_Clamp_x [AV.int .i64 z0, AV.int .i64 z1, AV.int .i64 z2] [] = mapR (impl_Clamp z0 z1 z2) (fun r => (AV.int .i64 r, [])) :=
  xOf_eq impl_Clamp_i (z0, z1, z2)
/-! impl_FloorDiv: function 220 -/
noncomputable def impl_FloorDiv (a0 : Int) (a1 : Int) : Option ((Int)) :=
  cnd (ile 1 a1) (
   chkP (¬ a1 = 0) (
   cnd (ile 0 (Int.tmod a0 a1)) (
    some (IntKind.i64.wrap (Int.tdiv a0 a1))) (
    some (IntKind.i64.wrap ((IntKind.i64.wrap (Int.tdiv a0 a1)) - 1))))) (
   some 0)
noncomputable def impl_FloorDiv_e (q : (Int) × (Int)) : List AV × List Ob := ([AV.int .i64 q.1, AV.int .i64 q.2], [])
noncomputable def impl_FloorDiv_v (q : (Int) × (Int)) (r : (Int)) : AV × List Ob := (AV.int .i64 r, [])
noncomputable def impl_FloorDiv_x : List AV → List Ob → Option (AV × List Ob) := xOf impl_FloorDiv_e (fun q => impl_FloorDiv q.1 q.2) impl_FloorDiv_v
theorem impl_FloorDiv_i : ∀ a b, impl_FloorDiv_e a = impl_FloorDiv_e b → a = b := by rintro ⟨x0, x1⟩ ⟨y0, y1⟩ h; simp [impl_FloorDiv_e] at h; simp [h]
@[simp] theorem impl_FloorDiv_k (z0 : Int) (z1 : Int) : impl_FloorDiv_x [AV.int .i64 z0, AV.int .i64 z1] [] = mapR (impl_FloorDiv z0 z1) (fun r => (AV.int .i64 r, [])) :=
  xOf_eq impl_FloorDiv_i (z0, z1)
/-! impl_RoundDiv: function 177 -/
noncomputable def impl_RoundDiv (a0 : Int) (a1 : Int) : Option ((Int)) :=
  cnd (ile 1 a1) (
   bnd (impl_FloorDiv a0 a1) fun v1 =>
   cnd (ile (IntKind.i64.wrap (a1 - (IntKind.i64.wrap (a0 - (IntKind.i64.wrap (v1 * a1)))))) (IntKind.i64.wrap (a0 - (IntKind.i64.wrap (v1 * a1))))) (
    some (IntKind.i64.wrap (v1 + 1))) (
    some v1)) (
   some 0)
noncomputable def impl_RoundDiv_e (q : (Int) × (Int)) : List AV × List Ob := ([AV.int .i64 q.1, AV.int .i64 q.2], [])
noncomputable def impl_RoundDiv_v (q : (Int) × (Int)) (r : (Int)) : AV × List Ob := (AV.int .i64 r, [])
noncomputable def impl_RoundDiv_x : List AV → List Ob → Option (AV × List Ob) := xOf impl_RoundDiv_e (fun q => impl_RoundDiv q.1 q.2) impl_RoundDiv_v
theorem impl_RoundDiv_i : ∀ a b, impl_RoundDiv_e a = impl_RoundDiv_e b → a = b := by rintro ⟨x0, x1⟩ ⟨y0, y1⟩ h; simp [impl_RoundDiv_e] at h; simp [h]
@[simp] theorem impl_RoundDiv_k (z0 : Int) (z1 : Int) : impl_RoundDiv_x [AV.int .i64 z0, AV.int .i64 z1] [] = mapR (impl_RoundDiv z0 z1) (fun r => (AV.int .i64 r, [])) :=
  xOf_eq impl_RoundDiv_i (z0, z1)
/-! impl_Times255: function 176 -/
noncomputable def impl_Times255 (a0 : Int) (a1 : Int) : Option ((Int)) :=
  bnd (impl_Clamp a0 0 255) fun v1 =>
  bnd (impl_Clamp a1 0 255) fun v2 =>
  bnd (impl_RoundDiv (IntKind.i64.wrap (v1 * v2)) 255) fun v3 =>
  some v3
noncomputable def impl_Times255_e (q : (Int) × (Int)) : List AV × List Ob := ([AV.int .i64 q.1, AV.int .i64 q.2], [])
noncomputable def impl_Times255_v (q : (Int) × (Int)) (r : (Int)) : AV × List Ob := (AV.int .i64 r, [])
noncomputable def impl_Times255_x : List AV → List Ob → Option (AV × List Ob) := xOf impl_Times255_e (fun q => impl_Times255 q.1 q.2) impl_Times255_v
theorem impl_Times255_i : ∀ a b, impl_Times255_e a = impl_Times255_e b → a = b := by rintro ⟨x0, x1⟩ ⟨y0, y1⟩ h; simp [impl_Times255_e] at h; simp [h]
@[simp] theorem impl_Times255_k (z0 : Int) (z1 : Int) : impl_Times255_x [AV.int .i64 z0, AV.int .i64 z1] [] = mapR (impl_Times255 z0 z1) (fun r => (AV.int .i64 r, [])) :=
  xOf_eq impl_Times255_i (z0, z1)
/-! impl_Laid: function 228 -/
noncomputable def impl_Laid (a0 : TColor) : Option ((TColor)) :=
  bnd (impl_ColorOk a0) fun v1 =>
  cnd v1 (
   bnd (impl_Times255 a0.r a0.a) fun v2 =>
   bnd (impl_Times255 a0.g a0.a) fun v3 =>
   bnd (impl_Times255 a0.b a0.a) fun v4 =>
   some (TColor.mk v2 v3 v4 a0.a)) (
   some (TColor.mk 0 0 0 0))
noncomputable def impl_Laid_e (q : (TColor)) : List AV × List Ob := ([AV.agg [AV.int .i64 q.r, AV.int .i64 q.g, AV.int .i64 q.b, AV.int .i64 q.a]], [])
noncomputable def impl_Laid_v (q : (TColor)) (r : (TColor)) : AV × List Ob := (AV.agg [AV.int .i64 r.r, AV.int .i64 r.g, AV.int .i64 r.b, AV.int .i64 r.a], [])
noncomputable def impl_Laid_x : List AV → List Ob → Option (AV × List Ob) := xOf impl_Laid_e (fun q => impl_Laid q) impl_Laid_v
theorem impl_Laid_i : ∀ a b, impl_Laid_e a = impl_Laid_e b → a = b := by rintro ⟨x0, x1, x2, x3⟩ ⟨y0, y1, y2, y3⟩ h; simp [impl_Laid_e] at h; simp [h]
@[simp] theorem impl_Laid_k (z0 : Int) (z1 : Int) (z2 : Int) (z3 : Int) : impl_Laid_x [AV.agg [AV.int .i64 z0, AV.int .i64 z1, AV.int .i64 z2, AV.int .i64 z3]] [] = mapR (impl_Laid ⟨z0, z1, z2, z3⟩) (fun r => (AV.agg [AV.int .i64 r.r, AV.int .i64 r.g, AV.int .i64 r.b, AV.int .i64 r.a], [])) :=
  xOf_eq impl_Laid_i ⟨z0, z1, z2, z3⟩
/-! impl_taken: function 242 -/
noncomputable def impl_taken (a0 : Int) (a1 : Int) : Option ((Int)) :=
  bnd (impl_Clamp a0 (IntKind.i64.wrap (0 - a1)) a1) fun v1 =>
  some v1
noncomputable def impl_taken_e (q : (Int) × (Int)) : List AV × List Ob := ([AV.int .i64 q.1, AV.int .i64 q.2], [])
noncomputable def impl_taken_v (q : (Int) × (Int)) (r : (Int)) : AV × List Ob := (AV.int .i64 r, [])
noncomputable def impl_taken_x : List AV → List Ob → Option (AV × List Ob) := xOf impl_taken_e (fun q => impl_taken q.1 q.2) impl_taken_v
theorem impl_taken_i : ∀ a b, impl_taken_e a = impl_taken_e b → a = b := by rintro ⟨x0, x1⟩ ⟨y0, y1⟩ h; simp [impl_taken_e] at h; simp [h]
@[simp] theorem impl_taken_k (z0 : Int) (z1 : Int) : impl_taken_x [AV.int .i64 z0, AV.int .i64 z1] [] = mapR (impl_taken z0 z1) (fun r => (AV.int .i64 r, [])) :=
  xOf_eq impl_taken_i (z0, z1)
/-! impl_partOf: function 229 -/
noncomputable def impl_partOf (a0 : TPaint) (a1 : Int) (a2 : Int) : Option ((Int)) :=
  bnd (impl_taken a1 2000) fun v1 =>
  bnd (impl_taken a2 2000) fun v2 =>
  bnd (impl_FloorDiv (IntKind.i64.wrap (256 * (IntKind.i64.wrap ((IntKind.i64.wrap ((IntKind.i64.wrap ((IntKind.i64.wrap ((IntKind.i64.wrap (256 * v1)) + 128)) - a0.from_.x)) * (IntKind.i64.wrap (a0.to.x - a0.from_.x)))) + (IntKind.i64.wrap ((IntKind.i64.wrap ((IntKind.i64.wrap ((IntKind.i64.wrap (256 * v2)) + 128)) - a0.from_.y)) * (IntKind.i64.wrap (a0.to.y - a0.from_.y)))))))) (IntKind.i64.wrap ((IntKind.i64.wrap ((IntKind.i64.wrap (a0.to.x - a0.from_.x)) * (IntKind.i64.wrap (a0.to.x - a0.from_.x)))) + (IntKind.i64.wrap ((IntKind.i64.wrap (a0.to.y - a0.from_.y)) * (IntKind.i64.wrap (a0.to.y - a0.from_.y))))))) fun v3 =>
  bnd (impl_Clamp v3 0 256) fun v4 =>
  some v4
noncomputable def impl_partOf_e (q : (TPaint) × (Int) × (Int)) : List AV × List Ob := ([AV.agg [AV.int .i64 q.1.kind, AV.int .i64 q.1.first.r, AV.int .i64 q.1.first.g, AV.int .i64 q.1.first.b, AV.int .i64 q.1.first.a, AV.int .i64 q.1.last.r, AV.int .i64 q.1.last.g, AV.int .i64 q.1.last.b, AV.int .i64 q.1.last.a, AV.int .i64 q.1.from_.x, AV.int .i64 q.1.from_.y, AV.int .i64 q.1.to.x, AV.int .i64 q.1.to.y], AV.int .i64 q.2.1, AV.int .i64 q.2.2], [])
noncomputable def impl_partOf_v (q : (TPaint) × (Int) × (Int)) (r : (Int)) : AV × List Ob := (AV.int .i64 r, [])
noncomputable def impl_partOf_x : List AV → List Ob → Option (AV × List Ob) := xOf impl_partOf_e (fun q => impl_partOf q.1 q.2.1 q.2.2) impl_partOf_v
theorem impl_partOf_i : ∀ a b, impl_partOf_e a = impl_partOf_e b → a = b := by rintro ⟨⟨x0, ⟨x1, x2, x3, x4⟩, ⟨x5, x6, x7, x8⟩, ⟨x9, x10⟩, ⟨x11, x12⟩⟩, x13, x14⟩ ⟨⟨y0, ⟨y1, y2, y3, y4⟩, ⟨y5, y6, y7, y8⟩, ⟨y9, y10⟩, ⟨y11, y12⟩⟩, y13, y14⟩ h; simp [impl_partOf_e] at h; simp [h]
@[simp] theorem impl_partOf_k (z0 : Int) (z1 : Int) (z2 : Int) (z3 : Int) (z4 : Int) (z5 : Int) (z6 : Int) (z7 : Int) (z8 : Int) (z9 : Int) (z10 : Int) (z11 : Int) (z12 : Int) (z13 : Int) (z14 : Int) : impl_partOf_x [AV.agg [AV.int .i64 z0, AV.int .i64 z1, AV.int .i64 z2, AV.int .i64 z3, AV.int .i64 z4, AV.int .i64 z5, AV.int .i64 z6, AV.int .i64 z7, AV.int .i64 z8, AV.int .i64 z9, AV.int .i64 z10, AV.int .i64 z11, AV.int .i64 z12], AV.int .i64 z13, AV.int .i64 z14] [] = mapR (impl_partOf ⟨z0, ⟨z1, z2, z3, z4⟩, ⟨z5, z6, z7, z8⟩, ⟨z9, z10⟩, ⟨z11, z12⟩⟩ z13 z14) (fun r => (AV.int .i64 r, [])) :=
  xOf_eq impl_partOf_i (⟨z0, ⟨z1, z2, z3, z4⟩, ⟨z5, z6, z7, z8⟩, ⟨z9, z10⟩, ⟨z11, z12⟩⟩, z13, z14)
/-! impl_ColorAt_1: function 230 -/
noncomputable def impl_ColorAt_1 (a0 : Int) (a1 : Int) (a2 : Int) : Option ((Int)) :=
  bnd (impl_RoundDiv (IntKind.i64.wrap ((IntKind.i64.wrap ((IntKind.i64.wrap (256 - a2)) * a0)) + (IntKind.i64.wrap (a2 * a1)))) 256) fun v1 =>
  some v1
noncomputable def impl_ColorAt_1_e (q : (Int) × (Int) × (Int)) : List AV × List Ob := ([AV.int .i64 q.1, AV.int .i64 q.2.1, AV.fptr [AV.int .i64 q.2.2] 0], [])
noncomputable def impl_ColorAt_1_v (q : (Int) × (Int) × (Int)) (r : (Int)) : AV × List Ob := (AV.int .i64 r, [])
noncomputable def impl_ColorAt_1_x : List AV → List Ob → Option (AV × List Ob) := xOf impl_ColorAt_1_e (fun q => impl_ColorAt_1 q.1 q.2.1 q.2.2) impl_ColorAt_1_v
theorem impl_ColorAt_1_i : ∀ a b, impl_ColorAt_1_e a = impl_ColorAt_1_e b → a = b := by rintro ⟨x0, x1, x2⟩ ⟨y0, y1, y2⟩ h; simp [impl_ColorAt_1_e] at h; simp [h]
@[simp] theorem impl_ColorAt_1_k (z0 : Int) (z1 : Int) (z2 : Int) : impl_ColorAt_1_x [AV.int .i64 z0, AV.int .i64 z1, AV.fptr [AV.int .i64 z2] 0] [] = mapR (impl_ColorAt_1 z0 z1 z2) (fun r => (AV.int .i64 r, [])) :=
  xOf_eq impl_ColorAt_1_i (z0, z1, z2)
/-! impl_each_ColorAt_1: function 174 -/
noncomputable def impl_each_ColorAt_1 (a0 : TColor) (a1 : TColor) (a2 : Int) : Option ((TColor)) :=
  bnd (impl_ColorAt_1 a0.r a1.r a2) fun v1 =>
  bnd (impl_ColorAt_1 a0.g a1.g a2) fun v2 =>
  bnd (impl_ColorAt_1 a0.b a1.b a2) fun v3 =>
  bnd (impl_ColorAt_1 a0.a a1.a a2) fun v4 =>
  some (TColor.mk v1 v2 v3 v4)
noncomputable def impl_each_ColorAt_1_e (q : (TColor) × (TColor) × (Int)) : List AV × List Ob := ([AV.agg [AV.int .i64 q.1.r, AV.int .i64 q.1.g, AV.int .i64 q.1.b, AV.int .i64 q.1.a], AV.agg [AV.int .i64 q.2.1.r, AV.int .i64 q.2.1.g, AV.int .i64 q.2.1.b, AV.int .i64 q.2.1.a], AV.func (.func 230) [] [AV.fptr [AV.int .i64 q.2.2] 0]], [])
noncomputable def impl_each_ColorAt_1_v (q : (TColor) × (TColor) × (Int)) (r : (TColor)) : AV × List Ob := (AV.agg [AV.int .i64 r.r, AV.int .i64 r.g, AV.int .i64 r.b, AV.int .i64 r.a], [])
noncomputable def impl_each_ColorAt_1_x : List AV → List Ob → Option (AV × List Ob) := xOf impl_each_ColorAt_1_e (fun q => impl_each_ColorAt_1 q.1 q.2.1 q.2.2) impl_each_ColorAt_1_v
theorem impl_each_ColorAt_1_i : ∀ a b, impl_each_ColorAt_1_e a = impl_each_ColorAt_1_e b → a = b := by rintro ⟨⟨x0, x1, x2, x3⟩, ⟨x4, x5, x6, x7⟩, x8⟩ ⟨⟨y0, y1, y2, y3⟩, ⟨y4, y5, y6, y7⟩, y8⟩ h; simp [impl_each_ColorAt_1_e] at h; simp [h]
@[simp] theorem impl_each_ColorAt_1_k (z0 : Int) (z1 : Int) (z2 : Int) (z3 : Int) (z4 : Int) (z5 : Int) (z6 : Int) (z7 : Int) (z8 : Int) : impl_each_ColorAt_1_x [AV.agg [AV.int .i64 z0, AV.int .i64 z1, AV.int .i64 z2, AV.int .i64 z3], AV.agg [AV.int .i64 z4, AV.int .i64 z5, AV.int .i64 z6, AV.int .i64 z7], AV.func (.func 230) [] [AV.fptr [AV.int .i64 z8] 0]] [] = mapR (impl_each_ColorAt_1 ⟨z0, z1, z2, z3⟩ ⟨z4, z5, z6, z7⟩ z8) (fun r => (AV.agg [AV.int .i64 r.r, AV.int .i64 r.g, AV.int .i64 r.b, AV.int .i64 r.a], [])) :=
  xOf_eq impl_each_ColorAt_1_i (⟨z0, z1, z2, z3⟩, ⟨z4, z5, z6, z7⟩, z8)
/-! impl_ColorAt: function 190 -/
noncomputable def impl_ColorAt (a0 : TPaint) (a1 : Int) (a2 : Int) : Option ((TColor)) :=
  bnd (impl_PaintOk a0) fun v1 =>
  cnd v1 (
   cnd (ieq a0.kind 1) (
    bnd (impl_Laid a0.first) fun v2 =>
    some v2) (
    bnd (impl_partOf a0 a1 a2) fun v3 =>
    bnd (impl_each_ColorAt_1 a0.first a0.last v3) fun v4 =>
    bnd (impl_Laid v4) fun v5 =>
    some v5)) (
   some (TColor.mk 0 0 0 0))
noncomputable def impl_ColorAt_e (q : (TPaint) × (Int) × (Int)) : List AV × List Ob := ([AV.agg [AV.int .i64 q.1.kind, AV.int .i64 q.1.first.r, AV.int .i64 q.1.first.g, AV.int .i64 q.1.first.b, AV.int .i64 q.1.first.a, AV.int .i64 q.1.last.r, AV.int .i64 q.1.last.g, AV.int .i64 q.1.last.b, AV.int .i64 q.1.last.a, AV.int .i64 q.1.from_.x, AV.int .i64 q.1.from_.y, AV.int .i64 q.1.to.x, AV.int .i64 q.1.to.y], AV.int .i64 q.2.1, AV.int .i64 q.2.2], [])
noncomputable def impl_ColorAt_v (q : (TPaint) × (Int) × (Int)) (r : (TColor)) : AV × List Ob := (AV.agg [AV.int .i64 r.r, AV.int .i64 r.g, AV.int .i64 r.b, AV.int .i64 r.a], [])
noncomputable def impl_ColorAt_x : List AV → List Ob → Option (AV × List Ob) := xOf impl_ColorAt_e (fun q => impl_ColorAt q.1 q.2.1 q.2.2) impl_ColorAt_v
theorem impl_ColorAt_i : ∀ a b, impl_ColorAt_e a = impl_ColorAt_e b → a = b := by rintro ⟨⟨x0, ⟨x1, x2, x3, x4⟩, ⟨x5, x6, x7, x8⟩, ⟨x9, x10⟩, ⟨x11, x12⟩⟩, x13, x14⟩ ⟨⟨y0, ⟨y1, y2, y3, y4⟩, ⟨y5, y6, y7, y8⟩, ⟨y9, y10⟩, ⟨y11, y12⟩⟩, y13, y14⟩ h; simp [impl_ColorAt_e] at h; simp [h]
@[simp] theorem impl_ColorAt_k (z0 : Int) (z1 : Int) (z2 : Int) (z3 : Int) (z4 : Int) (z5 : Int) (z6 : Int) (z7 : Int) (z8 : Int) (z9 : Int) (z10 : Int) (z11 : Int) (z12 : Int) (z13 : Int) (z14 : Int) : impl_ColorAt_x [AV.agg [AV.int .i64 z0, AV.int .i64 z1, AV.int .i64 z2, AV.int .i64 z3, AV.int .i64 z4, AV.int .i64 z5, AV.int .i64 z6, AV.int .i64 z7, AV.int .i64 z8, AV.int .i64 z9, AV.int .i64 z10, AV.int .i64 z11, AV.int .i64 z12], AV.int .i64 z13, AV.int .i64 z14] [] = mapR (impl_ColorAt ⟨z0, ⟨z1, z2, z3, z4⟩, ⟨z5, z6, z7, z8⟩, ⟨z9, z10⟩, ⟨z11, z12⟩⟩ z13 z14) (fun r => (AV.agg [AV.int .i64 r.r, AV.int .i64 r.g, AV.int .i64 r.b, AV.int .i64 r.a], [])) :=
  xOf_eq impl_ColorAt_i (⟨z0, ⟨z1, z2, z3, z4⟩, ⟨z5, z6, z7, z8⟩, ⟨z9, z10⟩, ⟨z11, z12⟩⟩, z13, z14)
/-! impl_CountOf: function 191 -/
noncomputable def impl_CountOf (a0 : Int) : Option ((Int)) :=
  bnd (impl_inRange a0 0 15) fun v1 =>
  cnd v1 (
   some (IntKind.i64.wrap ((IntKind.i64.wrap ((IntKind.i64.wrap ((andI .i64 a0 1) + (andI .i64 (shrI .i64 a0 1) 1))) + (andI .i64 (shrI .i64 a0 2) 1))) + (shrI .i64 a0 3)))) (
   some 0)
noncomputable def impl_CountOf_e (q : (Int)) : List AV × List Ob := ([AV.int .i64 q], [])
noncomputable def impl_CountOf_v (q : (Int)) (r : (Int)) : AV × List Ob := (AV.int .i64 r, [])
noncomputable def impl_CountOf_x : List AV → List Ob → Option (AV × List Ob) := xOf impl_CountOf_e (fun q => impl_CountOf q) impl_CountOf_v
theorem impl_CountOf_i : ∀ a b, impl_CountOf_e a = impl_CountOf_e b → a = b := by rintro x0 y0 h; simp [impl_CountOf_e] at h; simp [h]
@[simp] theorem impl_CountOf_k (z0 : Int) : impl_CountOf_x [AV.int .i64 z0] [] = mapR (impl_CountOf z0) (fun r => (AV.int .i64 r, [])) :=
  xOf_eq impl_CountOf_i z0
/-! impl_Thin_1: function 227 -/
noncomputable def impl_Thin_1 (a0 : Int) (a1 : Int) (a2 : Int) : Option ((Int)) :=
  bnd (impl_RoundDiv (IntKind.i64.wrap (a0 * a2)) 4) fun v1 =>
  some v1
noncomputable def impl_Thin_1_e (q : (Int) × (Int) × (Int)) : List AV × List Ob := ([AV.int .i64 q.1, AV.int .i64 q.2.1, AV.fptr [AV.int .i64 q.2.2] 0], [])
noncomputable def impl_Thin_1_v (q : (Int) × (Int) × (Int)) (r : (Int)) : AV × List Ob := (AV.int .i64 r, [])
noncomputable def impl_Thin_1_x : List AV → List Ob → Option (AV × List Ob) := xOf impl_Thin_1_e (fun q => impl_Thin_1 q.1 q.2.1 q.2.2) impl_Thin_1_v
theorem impl_Thin_1_i : ∀ a b, impl_Thin_1_e a = impl_Thin_1_e b → a = b := by rintro ⟨x0, x1, x2⟩ ⟨y0, y1, y2⟩ h; simp [impl_Thin_1_e] at h; simp [h]
@[simp] theorem impl_Thin_1_k (z0 : Int) (z1 : Int) (z2 : Int) : impl_Thin_1_x [AV.int .i64 z0, AV.int .i64 z1, AV.fptr [AV.int .i64 z2] 0] [] = mapR (impl_Thin_1 z0 z1 z2) (fun r => (AV.int .i64 r, [])) :=
  xOf_eq impl_Thin_1_i (z0, z1, z2)
/-! impl_each_Thin_1: function 174 -/
noncomputable def impl_each_Thin_1 (a0 : TColor) (a1 : TColor) (a2 : Int) : Option ((TColor)) :=
  bnd (impl_Thin_1 a0.r a1.r a2) fun v1 =>
  bnd (impl_Thin_1 a0.g a1.g a2) fun v2 =>
  bnd (impl_Thin_1 a0.b a1.b a2) fun v3 =>
  bnd (impl_Thin_1 a0.a a1.a a2) fun v4 =>
  some (TColor.mk v1 v2 v3 v4)
noncomputable def impl_each_Thin_1_e (q : (TColor) × (TColor) × (Int)) : List AV × List Ob := ([AV.agg [AV.int .i64 q.1.r, AV.int .i64 q.1.g, AV.int .i64 q.1.b, AV.int .i64 q.1.a], AV.agg [AV.int .i64 q.2.1.r, AV.int .i64 q.2.1.g, AV.int .i64 q.2.1.b, AV.int .i64 q.2.1.a], AV.func (.func 227) [] [AV.fptr [AV.int .i64 q.2.2] 0]], [])
noncomputable def impl_each_Thin_1_v (q : (TColor) × (TColor) × (Int)) (r : (TColor)) : AV × List Ob := (AV.agg [AV.int .i64 r.r, AV.int .i64 r.g, AV.int .i64 r.b, AV.int .i64 r.a], [])
noncomputable def impl_each_Thin_1_x : List AV → List Ob → Option (AV × List Ob) := xOf impl_each_Thin_1_e (fun q => impl_each_Thin_1 q.1 q.2.1 q.2.2) impl_each_Thin_1_v
theorem impl_each_Thin_1_i : ∀ a b, impl_each_Thin_1_e a = impl_each_Thin_1_e b → a = b := by rintro ⟨⟨x0, x1, x2, x3⟩, ⟨x4, x5, x6, x7⟩, x8⟩ ⟨⟨y0, y1, y2, y3⟩, ⟨y4, y5, y6, y7⟩, y8⟩ h; simp [impl_each_Thin_1_e] at h; simp [h]
@[simp] theorem impl_each_Thin_1_k (z0 : Int) (z1 : Int) (z2 : Int) (z3 : Int) (z4 : Int) (z5 : Int) (z6 : Int) (z7 : Int) (z8 : Int) : impl_each_Thin_1_x [AV.agg [AV.int .i64 z0, AV.int .i64 z1, AV.int .i64 z2, AV.int .i64 z3], AV.agg [AV.int .i64 z4, AV.int .i64 z5, AV.int .i64 z6, AV.int .i64 z7], AV.func (.func 227) [] [AV.fptr [AV.int .i64 z8] 0]] [] = mapR (impl_each_Thin_1 ⟨z0, z1, z2, z3⟩ ⟨z4, z5, z6, z7⟩ z8) (fun r => (AV.agg [AV.int .i64 r.r, AV.int .i64 r.g, AV.int .i64 r.b, AV.int .i64 r.a], [])) :=
  xOf_eq impl_each_Thin_1_i (⟨z0, z1, z2, z3⟩, ⟨z4, z5, z6, z7⟩, z8)
/-! impl_Thin: function 189 -/
noncomputable def impl_Thin (a0 : TColor) (a1 : Int) : Option ((TColor)) :=
  bnd (impl_inRange a1 0 4) fun v1 =>
  cnd v1 (
   bnd (impl_LaidOk a0) fun v2 =>
   cnd v2 (
    bnd (impl_each_Thin_1 a0 a0 a1) fun v3 =>
    some v3) (
    some (TColor.mk 0 0 0 0))) (
   some (TColor.mk 0 0 0 0))
noncomputable def impl_Thin_e (q : (TColor) × (Int)) : List AV × List Ob := ([AV.agg [AV.int .i64 q.1.r, AV.int .i64 q.1.g, AV.int .i64 q.1.b, AV.int .i64 q.1.a], AV.int .i64 q.2], [])
noncomputable def impl_Thin_v (q : (TColor) × (Int)) (r : (TColor)) : AV × List Ob := (AV.agg [AV.int .i64 r.r, AV.int .i64 r.g, AV.int .i64 r.b, AV.int .i64 r.a], [])
noncomputable def impl_Thin_x : List AV → List Ob → Option (AV × List Ob) := xOf impl_Thin_e (fun q => impl_Thin q.1 q.2) impl_Thin_v
theorem impl_Thin_i : ∀ a b, impl_Thin_e a = impl_Thin_e b → a = b := by rintro ⟨⟨x0, x1, x2, x3⟩, x4⟩ ⟨⟨y0, y1, y2, y3⟩, y4⟩ h; simp [impl_Thin_e] at h; simp [h]
@[simp] theorem impl_Thin_k (z0 : Int) (z1 : Int) (z2 : Int) (z3 : Int) (z4 : Int) : impl_Thin_x [AV.agg [AV.int .i64 z0, AV.int .i64 z1, AV.int .i64 z2, AV.int .i64 z3], AV.int .i64 z4] [] = mapR (impl_Thin ⟨z0, z1, z2, z3⟩ z4) (fun r => (AV.agg [AV.int .i64 r.r, AV.int .i64 r.g, AV.int .i64 r.b, AV.int .i64 r.a], [])) :=
  xOf_eq impl_Thin_i (⟨z0, z1, z2, z3⟩, z4)
/-! impl_Fade_1: function 179 -/
noncomputable def impl_Fade_1 (a0 : Int) (a1 : Int) (a2 : Int) : Option ((Int)) :=
  bnd (impl_Times255 a0 a2) fun v1 =>
  some v1
noncomputable def impl_Fade_1_e (q : (Int) × (Int) × (Int)) : List AV × List Ob := ([AV.int .i64 q.1, AV.int .i64 q.2.1, AV.fptr [AV.int .i64 q.2.2] 0], [])
noncomputable def impl_Fade_1_v (q : (Int) × (Int) × (Int)) (r : (Int)) : AV × List Ob := (AV.int .i64 r, [])
noncomputable def impl_Fade_1_x : List AV → List Ob → Option (AV × List Ob) := xOf impl_Fade_1_e (fun q => impl_Fade_1 q.1 q.2.1 q.2.2) impl_Fade_1_v
theorem impl_Fade_1_i : ∀ a b, impl_Fade_1_e a = impl_Fade_1_e b → a = b := by rintro ⟨x0, x1, x2⟩ ⟨y0, y1, y2⟩ h; simp [impl_Fade_1_e] at h; simp [h]
@[simp] theorem impl_Fade_1_k (z0 : Int) (z1 : Int) (z2 : Int) : impl_Fade_1_x [AV.int .i64 z0, AV.int .i64 z1, AV.fptr [AV.int .i64 z2] 0] [] = mapR (impl_Fade_1 z0 z1 z2) (fun r => (AV.int .i64 r, [])) :=
  xOf_eq impl_Fade_1_i (z0, z1, z2)
/-! impl_each_Fade_1: function 174 -/
noncomputable def impl_each_Fade_1 (a0 : TColor) (a1 : TColor) (a2 : Int) : Option ((TColor)) :=
  bnd (impl_Fade_1 a0.r a1.r a2) fun v1 =>
  bnd (impl_Fade_1 a0.g a1.g a2) fun v2 =>
  bnd (impl_Fade_1 a0.b a1.b a2) fun v3 =>
  bnd (impl_Fade_1 a0.a a1.a a2) fun v4 =>
  some (TColor.mk v1 v2 v3 v4)
noncomputable def impl_each_Fade_1_e (q : (TColor) × (TColor) × (Int)) : List AV × List Ob := ([AV.agg [AV.int .i64 q.1.r, AV.int .i64 q.1.g, AV.int .i64 q.1.b, AV.int .i64 q.1.a], AV.agg [AV.int .i64 q.2.1.r, AV.int .i64 q.2.1.g, AV.int .i64 q.2.1.b, AV.int .i64 q.2.1.a], AV.func (.func 179) [] [AV.fptr [AV.int .i64 q.2.2] 0]], [])
noncomputable def impl_each_Fade_1_v (q : (TColor) × (TColor) × (Int)) (r : (TColor)) : AV × List Ob := (AV.agg [AV.int .i64 r.r, AV.int .i64 r.g, AV.int .i64 r.b, AV.int .i64 r.a], [])
noncomputable def impl_each_Fade_1_x : List AV → List Ob → Option (AV × List Ob) := xOf impl_each_Fade_1_e (fun q => impl_each_Fade_1 q.1 q.2.1 q.2.2) impl_each_Fade_1_v
theorem impl_each_Fade_1_i : ∀ a b, impl_each_Fade_1_e a = impl_each_Fade_1_e b → a = b := by rintro ⟨⟨x0, x1, x2, x3⟩, ⟨x4, x5, x6, x7⟩, x8⟩ ⟨⟨y0, y1, y2, y3⟩, ⟨y4, y5, y6, y7⟩, y8⟩ h; simp [impl_each_Fade_1_e] at h; simp [h]
@[simp] theorem impl_each_Fade_1_k (z0 : Int) (z1 : Int) (z2 : Int) (z3 : Int) (z4 : Int) (z5 : Int) (z6 : Int) (z7 : Int) (z8 : Int) : impl_each_Fade_1_x [AV.agg [AV.int .i64 z0, AV.int .i64 z1, AV.int .i64 z2, AV.int .i64 z3], AV.agg [AV.int .i64 z4, AV.int .i64 z5, AV.int .i64 z6, AV.int .i64 z7], AV.func (.func 179) [] [AV.fptr [AV.int .i64 z8] 0]] [] = mapR (impl_each_Fade_1 ⟨z0, z1, z2, z3⟩ ⟨z4, z5, z6, z7⟩ z8) (fun r => (AV.agg [AV.int .i64 r.r, AV.int .i64 r.g, AV.int .i64 r.b, AV.int .i64 r.a], [])) :=
  xOf_eq impl_each_Fade_1_i (⟨z0, z1, z2, z3⟩, ⟨z4, z5, z6, z7⟩, z8)
/-! impl_Fade: function 108 -/
noncomputable def impl_Fade (a0 : TColor) (a1 : Int) : Option ((TColor)) :=
  bnd (impl_isByte a1) fun v1 =>
  cnd v1 (
   bnd (impl_LaidOk a0) fun v2 =>
   cnd v2 (
    bnd (impl_each_Fade_1 a0 a0 a1) fun v3 =>
    some v3) (
    some (TColor.mk 0 0 0 0))) (
   some (TColor.mk 0 0 0 0))
noncomputable def impl_Fade_e (q : (TColor) × (Int)) : List AV × List Ob := ([AV.agg [AV.int .i64 q.1.r, AV.int .i64 q.1.g, AV.int .i64 q.1.b, AV.int .i64 q.1.a], AV.int .i64 q.2], [])
noncomputable def impl_Fade_v (q : (TColor) × (Int)) (r : (TColor)) : AV × List Ob := (AV.agg [AV.int .i64 r.r, AV.int .i64 r.g, AV.int .i64 r.b, AV.int .i64 r.a], [])
noncomputable def impl_Fade_x : List AV → List Ob → Option (AV × List Ob) := xOf impl_Fade_e (fun q => impl_Fade q.1 q.2) impl_Fade_v
theorem impl_Fade_i : ∀ a b, impl_Fade_e a = impl_Fade_e b → a = b := by rintro ⟨⟨x0, x1, x2, x3⟩, x4⟩ ⟨⟨y0, y1, y2, y3⟩, y4⟩ h; simp [impl_Fade_e] at h; simp [h]
@[simp] theorem impl_Fade_k (z0 : Int) (z1 : Int) (z2 : Int) (z3 : Int) (z4 : Int) : impl_Fade_x [AV.agg [AV.int .i64 z0, AV.int .i64 z1, AV.int .i64 z2, AV.int .i64 z3], AV.int .i64 z4] [] = mapR (impl_Fade ⟨z0, z1, z2, z3⟩ z4) (fun r => (AV.agg [AV.int .i64 r.r, AV.int .i64 r.g, AV.int .i64 r.b, AV.int .i64 r.a], [])) :=
  xOf_eq impl_Fade_i (⟨z0, z1, z2, z3⟩, z4)
/-! impl_inked: function 119 -/
noncomputable def impl_inked (a0 : TPaint) (a1 : Int) (a2 : Int) (a3 : Int) (a4 : Int) : Option ((TColor)) :=
  bnd (impl_ColorAt a0 a2 a3) fun v1 =>
  bnd (impl_CountOf a1) fun v2 =>
  bnd (impl_Thin v1 v2) fun v3 =>
  bnd (impl_Fade v3 a4) fun v4 =>
  some v4
noncomputable def impl_inked_e (q : (TPaint) × (Int) × (Int) × (Int) × (Int)) : List AV × List Ob := ([AV.agg [AV.int .i64 q.1.kind, AV.int .i64 q.1.first.r, AV.int .i64 q.1.first.g, AV.int .i64 q.1.first.b, AV.int .i64 q.1.first.a, AV.int .i64 q.1.last.r, AV.int .i64 q.1.last.g, AV.int .i64 q.1.last.b, AV.int .i64 q.1.last.a, AV.int .i64 q.1.from_.x, AV.int .i64 q.1.from_.y, AV.int .i64 q.1.to.x, AV.int .i64 q.1.to.y], AV.int .i64 q.2.1, AV.int .i64 q.2.2.1, AV.int .i64 q.2.2.2.1, AV.int .i64 q.2.2.2.2], [])
noncomputable def impl_inked_v (q : (TPaint) × (Int) × (Int) × (Int) × (Int)) (r : (TColor)) : AV × List Ob := (AV.agg [AV.int .i64 r.r, AV.int .i64 r.g, AV.int .i64 r.b, AV.int .i64 r.a], [])
noncomputable def impl_inked_x : List AV → List Ob → Option (AV × List Ob) := xOf impl_inked_e (fun q => impl_inked q.1 q.2.1 q.2.2.1 q.2.2.2.1 q.2.2.2.2) impl_inked_v
theorem impl_inked_i : ∀ a b, impl_inked_e a = impl_inked_e b → a = b := by rintro ⟨⟨x0, ⟨x1, x2, x3, x4⟩, ⟨x5, x6, x7, x8⟩, ⟨x9, x10⟩, ⟨x11, x12⟩⟩, x13, x14, x15, x16⟩ ⟨⟨y0, ⟨y1, y2, y3, y4⟩, ⟨y5, y6, y7, y8⟩, ⟨y9, y10⟩, ⟨y11, y12⟩⟩, y13, y14, y15, y16⟩ h; simp [impl_inked_e] at h; simp [h]
@[simp] theorem impl_inked_k (z0 : Int) (z1 : Int) (z2 : Int) (z3 : Int) (z4 : Int) (z5 : Int) (z6 : Int) (z7 : Int) (z8 : Int) (z9 : Int) (z10 : Int) (z11 : Int) (z12 : Int) (z13 : Int) (z14 : Int) (z15 : Int) (z16 : Int) : impl_inked_x [AV.agg [AV.int .i64 z0, AV.int .i64 z1, AV.int .i64 z2, AV.int .i64 z3, AV.int .i64 z4, AV.int .i64 z5, AV.int .i64 z6, AV.int .i64 z7, AV.int .i64 z8, AV.int .i64 z9, AV.int .i64 z10, AV.int .i64 z11, AV.int .i64 z12], AV.int .i64 z13, AV.int .i64 z14, AV.int .i64 z15, AV.int .i64 z16] [] = mapR (impl_inked ⟨z0, ⟨z1, z2, z3, z4⟩, ⟨z5, z6, z7, z8⟩, ⟨z9, z10⟩, ⟨z11, z12⟩⟩ z13 z14 z15 z16) (fun r => (AV.agg [AV.int .i64 r.r, AV.int .i64 r.g, AV.int .i64 r.b, AV.int .i64 r.a], [])) :=
  xOf_eq impl_inked_i (⟨z0, ⟨z1, z2, z3, z4⟩, ⟨z5, z6, z7, z8⟩, ⟨z9, z10⟩, ⟨z11, z12⟩⟩, z13, z14, z15, z16)
/-! impl_isMode: function 173 -/
noncomputable def impl_isMode (a0 : Int) : Option ((Bool)) :=
  bnd (impl_inRange a0 1 5) fun v1 =>
  some v1
noncomputable def impl_isMode_e (q : (Int)) : List AV × List Ob := ([AV.int .i64 q], [])
noncomputable def impl_isMode_v (q : (Int)) (r : (Bool)) : AV × List Ob := (AV.bool r, [])
noncomputable def impl_isMode_x : List AV → List Ob → Option (AV × List Ob) := xOf impl_isMode_e (fun q => impl_isMode q) impl_isMode_v
theorem impl_isMode_i : ∀ a b, impl_isMode_e a = impl_isMode_e b → a = b := by rintro x0 y0 h; simp [impl_isMode_e] at h; simp [h]
@[simp] theorem impl_isMode_k (z0 : Int) : impl_isMode_x [AV.int .i64 z0] [] = mapR (impl_isMode z0) (fun r => (AV.bool r, [])) :=
  xOf_eq impl_isMode_i z0
/-! impl_Blend_1: function 175 -/
noncomputable def impl_Blend_1 (a0 : Int) (a1 : Int) (a2 : Int) (a3 : Int) (a4 : Int) : Option ((Int)) :=
  bnd (impl_Times255 a1 a2) fun v1 =>
  cnd (ieq a3 1) (
   some (min (IntKind.i64.wrap (v1 + a0)) 255)) (
   cnd (ieq a3 2) (
    bnd (impl_RoundDiv (IntKind.i64.wrap ((IntKind.i64.wrap ((IntKind.i64.wrap (a0 * a1)) + (IntKind.i64.wrap (a0 * a4)))) + (IntKind.i64.wrap (a1 * a2)))) 255) fun v2 =>
    some (min v2 255)) (
    cnd (ieq a3 3) (
     bnd (impl_RoundDiv (IntKind.i64.wrap (a0 * a1)) 255) fun v3 =>
     some (min (IntKind.i64.wrap ((IntKind.i64.wrap (a0 + a1)) - v3)) 255)) (
     cnd (ieq a3 4) (
      some (min (IntKind.i64.wrap (a0 + a1)) 255)) (
      some (min v1 255)))))
noncomputable def impl_Blend_1_e (q : (Int) × (Int) × (Int) × (Int) × (Int)) : List AV × List Ob := ([AV.int .i64 q.1, AV.int .i64 q.2.1, AV.fptr [AV.int .i64 q.2.2.1] 0, AV.fptr [AV.int .i64 q.2.2.2.1] 0, AV.fptr [AV.int .i64 q.2.2.2.2] 0], [])
noncomputable def impl_Blend_1_v (q : (Int) × (Int) × (Int) × (Int) × (Int)) (r : (Int)) : AV × List Ob := (AV.int .i64 r, [])
noncomputable def impl_Blend_1_x : List AV → List Ob → Option (AV × List Ob) := xOf impl_Blend_1_e (fun q => impl_Blend_1 q.1 q.2.1 q.2.2.1 q.2.2.2.1 q.2.2.2.2) impl_Blend_1_v
theorem impl_Blend_1_i : ∀ a b, impl_Blend_1_e a = impl_Blend_1_e b → a = b := by rintro ⟨x0, x1, x2, x3, x4⟩ ⟨y0, y1, y2, y3, y4⟩ h; simp [impl_Blend_1_e] at h; simp [h]
@[simp] theorem impl_Blend_1_k (z0 : Int) (z1 : Int) (z2 : Int) (z3 : Int) (z4 : Int) : impl_Blend_1_x [AV.int .i64 z0, AV.int .i64 z1, AV.fptr [AV.int .i64 z2] 0, AV.fptr [AV.int .i64 z3] 0, AV.fptr [AV.int .i64 z4] 0] [] = mapR (impl_Blend_1 z0 z1 z2 z3 z4) (fun r => (AV.int .i64 r, [])) :=
  xOf_eq impl_Blend_1_i (z0, z1, z2, z3, z4)
/-! impl_each_Blend_1: function 174 -/
noncomputable def impl_each_Blend_1 (a0 : TColor) (a1 : TColor) (a2 : Int) (a3 : Int) (a4 : Int) : Option ((TColor)) :=
  bnd (impl_Blend_1 a0.r a1.r a2 a3 a4) fun v1 =>
  bnd (impl_Blend_1 a0.g a1.g a2 a3 a4) fun v2 =>
  bnd (impl_Blend_1 a0.b a1.b a2 a3 a4) fun v3 =>
  bnd (impl_Blend_1 a0.a a1.a a2 a3 a4) fun v4 =>
  some (TColor.mk v1 v2 v3 v4)
noncomputable def impl_each_Blend_1_e (q : (TColor) × (TColor) × (Int) × (Int) × (Int)) : List AV × List Ob := ([AV.agg [AV.int .i64 q.1.r, AV.int .i64 q.1.g, AV.int .i64 q.1.b, AV.int .i64 q.1.a], AV.agg [AV.int .i64 q.2.1.r, AV.int .i64 q.2.1.g, AV.int .i64 q.2.1.b, AV.int .i64 q.2.1.a], AV.func (.func 175) [] [AV.fptr [AV.int .i64 q.2.2.1] 0, AV.fptr [AV.int .i64 q.2.2.2.1] 0, AV.fptr [AV.int .i64 q.2.2.2.2] 0]], [])
noncomputable def impl_each_Blend_1_v (q : (TColor) × (TColor) × (Int) × (Int) × (Int)) (r : (TColor)) : AV × List Ob := (AV.agg [AV.int .i64 r.r, AV.int .i64 r.g, AV.int .i64 r.b, AV.int .i64 r.a], [])
noncomputable def impl_each_Blend_1_x : List AV → List Ob → Option (AV × List Ob) := xOf impl_each_Blend_1_e (fun q => impl_each_Blend_1 q.1 q.2.1 q.2.2.1 q.2.2.2.1 q.2.2.2.2) impl_each_Blend_1_v
theorem impl_each_Blend_1_i : ∀ a b, impl_each_Blend_1_e a = impl_each_Blend_1_e b → a = b := by rintro ⟨⟨x0, x1, x2, x3⟩, ⟨x4, x5, x6, x7⟩, x8, x9, x10⟩ ⟨⟨y0, y1, y2, y3⟩, ⟨y4, y5, y6, y7⟩, y8, y9, y10⟩ h; simp [impl_each_Blend_1_e] at h; simp [h]
@[simp] theorem impl_each_Blend_1_k (z0 : Int) (z1 : Int) (z2 : Int) (z3 : Int) (z4 : Int) (z5 : Int) (z6 : Int) (z7 : Int) (z8 : Int) (z9 : Int) (z10 : Int) : impl_each_Blend_1_x [AV.agg [AV.int .i64 z0, AV.int .i64 z1, AV.int .i64 z2, AV.int .i64 z3], AV.agg [AV.int .i64 z4, AV.int .i64 z5, AV.int .i64 z6, AV.int .i64 z7], AV.func (.func 175) [] [AV.fptr [AV.int .i64 z8] 0, AV.fptr [AV.int .i64 z9] 0, AV.fptr [AV.int .i64 z10] 0]] [] = mapR (impl_each_Blend_1 ⟨z0, z1, z2, z3⟩ ⟨z4, z5, z6, z7⟩ z8 z9 z10) (fun r => (AV.agg [AV.int .i64 r.r, AV.int .i64 r.g, AV.int .i64 r.b, AV.int .i64 r.a], [])) :=
  xOf_eq impl_each_Blend_1_i (⟨z0, z1, z2, z3⟩, ⟨z4, z5, z6, z7⟩, z8, z9, z10)
/-! impl_Blend: function 107 -/
noncomputable def impl_Blend (a0 : Int) (a1 : TColor) (a2 : TColor) : Option ((TColor)) :=
  bnd (impl_isMode a0) fun v1 =>
  cnd v1 (
   bnd (impl_LaidOk a1) fun v2 =>
   cnd v2 (
    bnd (impl_LaidOk a2) fun v3 =>
    cnd v3 (
     bnd (impl_each_Blend_1 a1 a2 (IntKind.i64.wrap (255 - a1.a)) a0 (IntKind.i64.wrap (255 - a2.a))) fun v4 =>
     some v4) (
     some a2)) (
    some a2)) (
   some a2)
noncomputable def impl_Blend_e (q : (Int) × (TColor) × (TColor)) : List AV × List Ob := ([AV.int .i64 q.1, AV.agg [AV.int .i64 q.2.1.r, AV.int .i64 q.2.1.g, AV.int .i64 q.2.1.b, AV.int .i64 q.2.1.a], AV.agg [AV.int .i64 q.2.2.r, AV.int .i64 q.2.2.g, AV.int .i64 q.2.2.b, AV.int .i64 q.2.2.a]], [])
noncomputable def impl_Blend_v (q : (Int) × (TColor) × (TColor)) (r : (TColor)) : AV × List Ob := (AV.agg [AV.int .i64 r.r, AV.int .i64 r.g, AV.int .i64 r.b, AV.int .i64 r.a], [])
noncomputable def impl_Blend_x : List AV → List Ob → Option (AV × List Ob) := xOf impl_Blend_e (fun q => impl_Blend q.1 q.2.1 q.2.2) impl_Blend_v
theorem impl_Blend_i : ∀ a b, impl_Blend_e a = impl_Blend_e b → a = b := by rintro ⟨x0, ⟨x1, x2, x3, x4⟩, ⟨x5, x6, x7, x8⟩⟩ ⟨y0, ⟨y1, y2, y3, y4⟩, ⟨y5, y6, y7, y8⟩⟩ h; simp [impl_Blend_e] at h; simp [h]
@[simp] theorem impl_Blend_k (z0 : Int) (z1 : Int) (z2 : Int) (z3 : Int) (z4 : Int) (z5 : Int) (z6 : Int) (z7 : Int) (z8 : Int) : impl_Blend_x [AV.int .i64 z0, AV.agg [AV.int .i64 z1, AV.int .i64 z2, AV.int .i64 z3, AV.int .i64 z4], AV.agg [AV.int .i64 z5, AV.int .i64 z6, AV.int .i64 z7, AV.int .i64 z8]] [] = mapR (impl_Blend z0 ⟨z1, z2, z3, z4⟩ ⟨z5, z6, z7, z8⟩) (fun r => (AV.agg [AV.int .i64 r.r, AV.int .i64 r.g, AV.int .i64 r.b, AV.int .i64 r.a], [])) :=
  xOf_eq impl_Blend_i (z0, ⟨z1, z2, z3, z4⟩, ⟨z5, z6, z7, z8⟩)
/-! impl_PaintMask_1: function 117 -/
noncomputable def impl_PaintMask_1 (a0 : Int) (a1 : Int) (a2 : TColor) (a3 : TMask) (a4 : Int) (a5 : TPaint) (a6 : Int) : Option ((TColor)) :=
  bnd (impl_Mask_bitsAt a3 a0 a1) fun v1 =>
  cnd (ieq v1 0) (
   some a2) (
   bnd (impl_inked a5 v1 a0 a1 a6) fun v2 =>
   bnd (impl_Blend a4 v2 a2) fun v3 =>
   some v3)
noncomputable def impl_PaintMask_1_e (q : (Int) × (Int) × (TColor) × (TMask) × (Int) × (TPaint) × (Int)) : List AV × List Ob := ([AV.int .i64 q.1, AV.int .i64 q.2.1, AV.agg [AV.int .i64 q.2.2.1.r, AV.int .i64 q.2.2.1.g, AV.int .i64 q.2.2.1.b, AV.int .i64 q.2.2.1.a], AV.fptr [AV.int .i64 q.2.2.2.1.box.x0, AV.int .i64 q.2.2.2.1.box.y0, AV.int .i64 q.2.2.2.1.box.x1, AV.int .i64 q.2.2.2.1.box.y1, AV.fsl (List.map (AV.int .i64) q.2.2.2.1.bits)] 0, AV.fptr [AV.int .i64 q.2.2.2.2.1] 0, AV.fptr [AV.int .i64 q.2.2.2.2.2.1.kind, AV.int .i64 q.2.2.2.2.2.1.first.r, AV.int .i64 q.2.2.2.2.2.1.first.g, AV.int .i64 q.2.2.2.2.2.1.first.b, AV.int .i64 q.2.2.2.2.2.1.first.a, AV.int .i64 q.2.2.2.2.2.1.last.r, AV.int .i64 q.2.2.2.2.2.1.last.g, AV.int .i64 q.2.2.2.2.2.1.last.b, AV.int .i64 q.2.2.2.2.2.1.last.a, AV.int .i64 q.2.2.2.2.2.1.from_.x, AV.int .i64 q.2.2.2.2.2.1.from_.y, AV.int .i64 q.2.2.2.2.2.1.to.x, AV.int .i64 q.2.2.2.2.2.1.to.y] 0, AV.fptr [AV.int .i64 q.2.2.2.2.2.2] 0], [])
noncomputable def impl_PaintMask_1_v (q : (Int) × (Int) × (TColor) × (TMask) × (Int) × (TPaint) × (Int)) (r : (TColor)) : AV × List Ob := (AV.agg [AV.int .i64 r.r, AV.int .i64 r.g, AV.int .i64 r.b, AV.int .i64 r.a], [])
noncomputable def impl_PaintMask_1_x : List AV → List Ob → Option (AV × List Ob) := xOf impl_PaintMask_1_e (fun q => impl_PaintMask_1 q.1 q.2.1 q.2.2.1 q.2.2.2.1 q.2.2.2.2.1 q.2.2.2.2.2.1 q.2.2.2.2.2.2) impl_PaintMask_1_v
theorem impl_PaintMask_1_i : ∀ a b, impl_PaintMask_1_e a = impl_PaintMask_1_e b → a = b := by rintro ⟨x0, x1, ⟨x2, x3, x4, x5⟩, ⟨⟨x6, x7, x8, x9⟩, x10⟩, x11, ⟨x12, ⟨x13, x14, x15, x16⟩, ⟨x17, x18, x19, x20⟩, ⟨x21, x22⟩, ⟨x23, x24⟩⟩, x25⟩ ⟨y0, y1, ⟨y2, y3, y4, y5⟩, ⟨⟨y6, y7, y8, y9⟩, y10⟩, y11, ⟨y12, ⟨y13, y14, y15, y16⟩, ⟨y17, y18, y19, y20⟩, ⟨y21, y22⟩, ⟨y23, y24⟩⟩, y25⟩ h; simp [impl_PaintMask_1_e] at h; simp [h]
@[simp] theorem impl_PaintMask_1_k (z0 : Int) (z1 : Int) (z2 : Int) (z3 : Int) (z4 : Int) (z5 : Int) (z6 : Int) (z7 : Int) (z8 : Int) (z9 : Int) (z10 : List Int) (z11 : Int) (z12 : Int) (z13 : Int) (z14 : Int) (z15 : Int) (z16 : Int) (z17 : Int) (z18 : Int) (z19 : Int) (z20 : Int) (z21 : Int) (z22 : Int) (z23 : Int) (z24 : Int) (z25 : Int) : impl_PaintMask_1_x [AV.int .i64 z0, AV.int .i64 z1, AV.agg [AV.int .i64 z2, AV.int .i64 z3, AV.int .i64 z4, AV.int .i64 z5], AV.fptr [AV.int .i64 z6, AV.int .i64 z7, AV.int .i64 z8, AV.int .i64 z9, AV.fsl (List.map (AV.int .i64) z10)] 0, AV.fptr [AV.int .i64 z11] 0, AV.fptr [AV.int .i64 z12, AV.int .i64 z13, AV.int .i64 z14, AV.int .i64 z15, AV.int .i64 z16, AV.int .i64 z17, AV.int .i64 z18, AV.int .i64 z19, AV.int .i64 z20, AV.int .i64 z21, AV.int .i64 z22, AV.int .i64 z23, AV.int .i64 z24] 0, AV.fptr [AV.int .i64 z25] 0] [] = mapR (impl_PaintMask_1 z0 z1 ⟨z2, z3, z4, z5⟩ ⟨⟨z6, z7, z8, z9⟩, z10⟩ z11 ⟨z12, ⟨z13, z14, z15, z16⟩, ⟨z17, z18, z19, z20⟩, ⟨z21, z22⟩, ⟨z23, z24⟩⟩ z25) (fun r => (AV.agg [AV.int .i64 r.r, AV.int .i64 r.g, AV.int .i64 r.b, AV.int .i64 r.a], [])) :=
  xOf_eq impl_PaintMask_1_i (z0, z1, ⟨z2, z3, z4, z5⟩, ⟨⟨z6, z7, z8, z9⟩, z10⟩, z11, ⟨z12, ⟨z13, z14, z15, z16⟩, ⟨z17, z18, z19, z20⟩, ⟨z21, z22⟩, ⟨z23, z24⟩⟩, z25)
/-! impl_Surface_paint_PaintMask_1: function 104 -/
noncomputable def impl_Surface_paint_PaintMask_1_l0 (a1 : Int) (a2 : Int) (a3 : TMask) (a4 : Int) (a5 : TPaint) (a6 : Int) (v2 : TBox) (x12 : Int) : ((Int) × (List TColor)) → Option (((Int) × (List TColor)) ⊕ ((List TColor))) := fun (x17, x18) =>
  cnd (ile v2.x1 x17) (
   some (.inr x18)) (
   bnd (idx x18 (IntKind.i64.wrap ((IntKind.i64.wrap (x12 * a1)) + x17))) fun v19 =>
   bnd (impl_PaintMask_1 x17 x12 v19 a3 a4 a5 a6) fun v20 =>
   nam ((List.set x18 (Int.toNat (IntKind.i64.wrap ((IntKind.i64.wrap (x12 * a1)) + x17))) v20) : List TColor) fun l21 =>
   some (.inl ((IntKind.i64.wrap (x17 + 1)), l21)))
noncomputable def impl_Surface_paint_PaintMask_1_l0_S (a1 : Int) (a2 : Int) (a3 : TMask) (a4 : Int) (a5 : TPaint) (a6 : Int) (v2 : TBox) (x12 : Int) : ((Int) × (List TColor)) → St := fun (x17, x18) => ⟨[(0, AV.optr 0 0 3), (2, AV.func (.func 117) [] [AV.optr 1 0 5, AV.optr 2 0 1, AV.optr 3 0 13, AV.optr 4 0 1]), (4, AV.optr 6 0 4), (6, AV.int .i64 x12), (7, AV.int .i64 x17)], [(0, Ob.box [AV.int .i64 a1, AV.int .i64 a2, AV.osl 5 0 (List.length x18) (List.length x18)]), (1, Ob.box [AV.int .i64 a3.box.x0, AV.int .i64 a3.box.y0, AV.int .i64 a3.box.x1, AV.int .i64 a3.box.y1, AV.fsl (List.map (AV.int .i64) a3.bits)]), (2, Ob.box [AV.int .i64 a4]), (3, Ob.box [AV.int .i64 a5.kind, AV.int .i64 a5.first.r, AV.int .i64 a5.first.g, AV.int .i64 a5.first.b, AV.int .i64 a5.first.a, AV.int .i64 a5.last.r, AV.int .i64 a5.last.g, AV.int .i64 a5.last.b, AV.int .i64 a5.last.a, AV.int .i64 a5.from_.x, AV.int .i64 a5.from_.y, AV.int .i64 a5.to.x, AV.int .i64 a5.to.y]), (4, Ob.box [AV.int .i64 a6]), (5, Ob.arr 4 (List.map eColor x18) false), (6, Ob.box [AV.int .i64 v2.x0, AV.int .i64 v2.y0, AV.int .i64 v2.x1, AV.int .i64 v2.y1])], 7⟩
noncomputable def impl_Surface_paint_PaintMask_1_l0_X (a1 : Int) (a2 : Int) (a3 : TMask) (a4 : Int) (a5 : TPaint) (a6 : Int) (v2 : TBox) (x12 : Int) : ((List TColor)) → Ex × St := fun y22 => ((.exit 2), ⟨[(0, AV.optr 0 0 3), (2, AV.func (.func 117) [] [AV.optr 1 0 5, AV.optr 2 0 1, AV.optr 3 0 13, AV.optr 4 0 1]), (4, AV.optr 6 0 4), (6, AV.int .i64 x12)], [(0, Ob.box [AV.int .i64 a1, AV.int .i64 a2, AV.osl 5 0 (List.length y22) (List.length y22)]), (1, Ob.box [AV.int .i64 a3.box.x0, AV.int .i64 a3.box.y0, AV.int .i64 a3.box.x1, AV.int .i64 a3.box.y1, AV.fsl (List.map (AV.int .i64) a3.bits)]), (2, Ob.box [AV.int .i64 a4]), (3, Ob.box [AV.int .i64 a5.kind, AV.int .i64 a5.first.r, AV.int .i64 a5.first.g, AV.int .i64 a5.first.b, AV.int .i64 a5.first.a, AV.int .i64 a5.last.r, AV.int .i64 a5.last.g, AV.int .i64 a5.last.b, AV.int .i64 a5.last.a, AV.int .i64 a5.from_.x, AV.int .i64 a5.from_.y, AV.int .i64 a5.to.x, AV.int .i64 a5.to.y]), (4, Ob.box [AV.int .i64 a6]), (5, Ob.arr 4 (List.map eColor y22) false), (6, Ob.box [AV.int .i64 v2.x0, AV.int .i64 v2.y0, AV.int .i64 v2.x1, AV.int .i64 v2.y1])], 7⟩)
noncomputable def impl_Surface_paint_PaintMask_1_l1 (a1 : Int) (a2 : Int) (a3 : TMask) (a4 : Int) (a5 : TPaint) (a6 : Int) (v2 : TBox) : ((Int) × (List TColor)) → Option (((Int) × (List TColor)) ⊕ ((List TColor))) := fun (x12, x13) =>
  cnd (ile v2.y1 x12) (
   some (.inr x13)) (
   bnd (loopI (impl_Surface_paint_PaintMask_1_l0 a1 a2 a3 a4 a5 a6 v2 x12) (v2.x0, x13)) fun y22 =>
   some (.inl ((IntKind.i64.wrap (x12 + 1)), y22)))
noncomputable def impl_Surface_paint_PaintMask_1_l1_S (a1 : Int) (a2 : Int) (a3 : TMask) (a4 : Int) (a5 : TPaint) (a6 : Int) (v2 : TBox) : ((Int) × (List TColor)) → St := fun (x12, x13) => ⟨[(0, AV.optr 0 0 3), (2, AV.func (.func 117) [] [AV.optr 1 0 5, AV.optr 2 0 1, AV.optr 3 0 13, AV.optr 4 0 1]), (4, AV.optr 6 0 4), (6, AV.int .i64 x12)], [(0, Ob.box [AV.int .i64 a1, AV.int .i64 a2, AV.osl 5 0 (List.length x13) (List.length x13)]), (1, Ob.box [AV.int .i64 a3.box.x0, AV.int .i64 a3.box.y0, AV.int .i64 a3.box.x1, AV.int .i64 a3.box.y1, AV.fsl (List.map (AV.int .i64) a3.bits)]), (2, Ob.box [AV.int .i64 a4]), (3, Ob.box [AV.int .i64 a5.kind, AV.int .i64 a5.first.r, AV.int .i64 a5.first.g, AV.int .i64 a5.first.b, AV.int .i64 a5.first.a, AV.int .i64 a5.last.r, AV.int .i64 a5.last.g, AV.int .i64 a5.last.b, AV.int .i64 a5.last.a, AV.int .i64 a5.from_.x, AV.int .i64 a5.from_.y, AV.int .i64 a5.to.x, AV.int .i64 a5.to.y]), (4, Ob.box [AV.int .i64 a6]), (5, Ob.arr 4 (List.map eColor x13) false), (6, Ob.box [AV.int .i64 v2.x0, AV.int .i64 v2.y0, AV.int .i64 v2.x1, AV.int .i64 v2.y1])], 7⟩
noncomputable def impl_Surface_paint_PaintMask_1_l1_X (a1 : Int) (a2 : Int) (a3 : TMask) (a4 : Int) (a5 : TPaint) (a6 : Int) (v2 : TBox) : ((List TColor)) → Ex × St := fun y23 => ((.exit 0), ⟨[], [(0, Ob.box [AV.int .i64 a1, AV.int .i64 a2, AV.osl 5 0 (List.length y23) (List.length y23)]), (1, Ob.box [AV.int .i64 a3.box.x0, AV.int .i64 a3.box.y0, AV.int .i64 a3.box.x1, AV.int .i64 a3.box.y1, AV.fsl (List.map (AV.int .i64) a3.bits)]), (2, Ob.box [AV.int .i64 a4]), (3, Ob.box [AV.int .i64 a5.kind, AV.int .i64 a5.first.r, AV.int .i64 a5.first.g, AV.int .i64 a5.first.b, AV.int .i64 a5.first.a, AV.int .i64 a5.last.r, AV.int .i64 a5.last.g, AV.int .i64 a5.last.b, AV.int .i64 a5.last.a, AV.int .i64 a5.from_.x, AV.int .i64 a5.from_.y, AV.int .i64 a5.to.x, AV.int .i64 a5.to.y]), (4, Ob.box [AV.int .i64 a6]), (5, Ob.arr 4 (List.map eColor y23) false)], 6⟩)
noncomputable def impl_Surface_paint_PaintMask_1 (a0 : TBox) (a1 : Int) (a2 : Int) (a3 : TMask) (a4 : Int) (a5 : TPaint) (a6 : Int) (a7 : List TColor) : Option ((List TColor)) :=
  bnd (impl_Surface_box (TSurface.mk a1 a2 a7)) fun v1 =>
  bnd (impl_MeetBox a0 v1) fun v2 =>
  bnd (loopI (impl_Surface_paint_PaintMask_1_l1 a1 a2 a3 a4 a5 a6 v2) (v2.y0, a7)) fun y23 =>
  some y23
noncomputable def impl_Surface_paint_PaintMask_1_e (q : (TBox) × (Int) × (Int) × (TMask) × (Int) × (TPaint) × (Int) × (List TColor)) : List AV × List Ob := ([AV.optr 0 0 3, AV.agg [AV.int .i64 q.1.x0, AV.int .i64 q.1.y0, AV.int .i64 q.1.x1, AV.int .i64 q.1.y1], AV.func (.func 117) [] [AV.optr 1 0 5, AV.optr 2 0 1, AV.optr 3 0 13, AV.optr 4 0 1]], [Ob.box [AV.int .i64 q.2.1, AV.int .i64 q.2.2.1, AV.osl 5 0 (List.length q.2.2.2.2.2.2.2) (List.length q.2.2.2.2.2.2.2)], Ob.box [AV.int .i64 q.2.2.2.1.box.x0, AV.int .i64 q.2.2.2.1.box.y0, AV.int .i64 q.2.2.2.1.box.x1, AV.int .i64 q.2.2.2.1.box.y1, AV.fsl (List.map (AV.int .i64) q.2.2.2.1.bits)], Ob.box [AV.int .i64 q.2.2.2.2.1], Ob.box [AV.int .i64 q.2.2.2.2.2.1.kind, AV.int .i64 q.2.2.2.2.2.1.first.r, AV.int .i64 q.2.2.2.2.2.1.first.g, AV.int .i64 q.2.2.2.2.2.1.first.b, AV.int .i64 q.2.2.2.2.2.1.first.a, AV.int .i64 q.2.2.2.2.2.1.last.r, AV.int .i64 q.2.2.2.2.2.1.last.g, AV.int .i64 q.2.2.2.2.2.1.last.b, AV.int .i64 q.2.2.2.2.2.1.last.a, AV.int .i64 q.2.2.2.2.2.1.from_.x, AV.int .i64 q.2.2.2.2.2.1.from_.y, AV.int .i64 q.2.2.2.2.2.1.to.x, AV.int .i64 q.2.2.2.2.2.1.to.y], Ob.box [AV.int .i64 q.2.2.2.2.2.2.1], Ob.arr 4 (List.map eColor q.2.2.2.2.2.2.2) false])
noncomputable def impl_Surface_paint_PaintMask_1_v (q : (TBox) × (Int) × (Int) × (TMask) × (Int) × (TPaint) × (Int) × (List TColor)) (r : (List TColor)) : AV × List Ob := (AV.tup [], [Ob.box [AV.int .i64 q.2.1, AV.int .i64 q.2.2.1, AV.osl 5 0 (List.length r) (List.length r)], Ob.box [AV.int .i64 q.2.2.2.1.box.x0, AV.int .i64 q.2.2.2.1.box.y0, AV.int .i64 q.2.2.2.1.box.x1, AV.int .i64 q.2.2.2.1.box.y1, AV.fsl (List.map (AV.int .i64) q.2.2.2.1.bits)], Ob.box [AV.int .i64 q.2.2.2.2.1], Ob.box [AV.int .i64 q.2.2.2.2.2.1.kind, AV.int .i64 q.2.2.2.2.2.1.first.r, AV.int .i64 q.2.2.2.2.2.1.first.g, AV.int .i64 q.2.2.2.2.2.1.first.b, AV.int .i64 q.2.2.2.2.2.1.first.a, AV.int .i64 q.2.2.2.2.2.1.last.r, AV.int .i64 q.2.2.2.2.2.1.last.g, AV.int .i64 q.2.2.2.2.2.1.last.b, AV.int .i64 q.2.2.2.2.2.1.last.a, AV.int .i64 q.2.2.2.2.2.1.from_.x, AV.int .i64 q.2.2.2.2.2.1.from_.y, AV.int .i64 q.2.2.2.2.2.1.to.x, AV.int .i64 q.2.2.2.2.2.1.to.y], Ob.box [AV.int .i64 q.2.2.2.2.2.2.1], Ob.arr 4 (List.map eColor r) false])
noncomputable def impl_Surface_paint_PaintMask_1_x : List AV → List Ob → Option (AV × List Ob) := xOf impl_Surface_paint_PaintMask_1_e (fun q => impl_Surface_paint_PaintMask_1 q.1 q.2.1 q.2.2.1 q.2.2.2.1 q.2.2.2.2.1 q.2.2.2.2.2.1 q.2.2.2.2.2.2.1 q.2.2.2.2.2.2.2) impl_Surface_paint_PaintMask_1_v
theorem impl_Surface_paint_PaintMask_1_i : ∀ a b, impl_Surface_paint_PaintMask_1_e a = impl_Surface_paint_PaintMask_1_e b → a = b := by rintro ⟨⟨x0, x1, x2, x3⟩, x4, x5, ⟨⟨x6, x7, x8, x9⟩, x10⟩, x11, ⟨x12, ⟨x13, x14, x15, x16⟩, ⟨x17, x18, x19, x20⟩, ⟨x21, x22⟩, ⟨x23, x24⟩⟩, x25, x26⟩ ⟨⟨y0, y1, y2, y3⟩, y4, y5, ⟨⟨y6, y7, y8, y9⟩, y10⟩, y11, ⟨y12, ⟨y13, y14, y15, y16⟩, ⟨y17, y18, y19, y20⟩, ⟨y21, y22⟩, ⟨y23, y24⟩⟩, y25, y26⟩ h; simp [impl_Surface_paint_PaintMask_1_e] at h; simp [h]
@[simp] theorem impl_Surface_paint_PaintMask_1_k (z0 : Int) (z1 : Int) (z2 : Int) (z3 : Int) (z4 : Int) (z5 : Int) (z6 : Int) (z7 : Int) (z8 : Int) (z9 : Int) (z10 : List Int) (z11 : Int) (z12 : Int) (z13 : Int) (z14 : Int) (z15 : Int) (z16 : Int) (z17 : Int) (z18 : Int) (z19 : Int) (z20 : Int) (z21 : Int) (z22 : Int) (z23 : Int) (z24 : Int) (z25 : Int) (z26 : List TColor) : impl_Surface_paint_PaintMask_1_x [AV.optr 0 0 3, AV.agg [AV.int .i64 z0, AV.int .i64 z1, AV.int .i64 z2, AV.int .i64 z3], AV.func (.func 117) [] [AV.optr 1 0 5, AV.optr 2 0 1, AV.optr 3 0 13, AV.optr 4 0 1]] [Ob.box [AV.int .i64 z4, AV.int .i64 z5, AV.osl 5 0 (List.length z26) (List.length z26)], Ob.box [AV.int .i64 z6, AV.int .i64 z7, AV.int .i64 z8, AV.int .i64 z9, AV.fsl (List.map (AV.int .i64) z10)], Ob.box [AV.int .i64 z11], Ob.box [AV.int .i64 z12, AV.int .i64 z13, AV.int .i64 z14, AV.int .i64 z15, AV.int .i64 z16, AV.int .i64 z17, AV.int .i64 z18, AV.int .i64 z19, AV.int .i64 z20, AV.int .i64 z21, AV.int .i64 z22, AV.int .i64 z23, AV.int .i64 z24], Ob.box [AV.int .i64 z25], Ob.arr 4 (List.map eColor z26) false] = mapR (impl_Surface_paint_PaintMask_1 ⟨z0, z1, z2, z3⟩ z4 z5 ⟨⟨z6, z7, z8, z9⟩, z10⟩ z11 ⟨z12, ⟨z13, z14, z15, z16⟩, ⟨z17, z18, z19, z20⟩, ⟨z21, z22⟩, ⟨z23, z24⟩⟩ z25 z26) (fun r => (AV.tup [], [Ob.box [AV.int .i64 z4, AV.int .i64 z5, AV.osl 5 0 (List.length r) (List.length r)], Ob.box [AV.int .i64 z6, AV.int .i64 z7, AV.int .i64 z8, AV.int .i64 z9, AV.fsl (List.map (AV.int .i64) z10)], Ob.box [AV.int .i64 z11], Ob.box [AV.int .i64 z12, AV.int .i64 z13, AV.int .i64 z14, AV.int .i64 z15, AV.int .i64 z16, AV.int .i64 z17, AV.int .i64 z18, AV.int .i64 z19, AV.int .i64 z20, AV.int .i64 z21, AV.int .i64 z22, AV.int .i64 z23, AV.int .i64 z24], Ob.box [AV.int .i64 z25], Ob.arr 4 (List.map eColor r) false])) :=
  xOf_eq impl_Surface_paint_PaintMask_1_i (⟨z0, z1, z2, z3⟩, z4, z5, ⟨⟨z6, z7, z8, z9⟩, z10⟩, z11, ⟨z12, ⟨z13, z14, z15, z16⟩, ⟨z17, z18, z19, z20⟩, ⟨z21, z22⟩, ⟨z23, z24⟩⟩, z25, z26)
/-! impl_PaintMask: function 39 -/
noncomputable def impl_PaintMask (a0 : TSurface) (a1 : TMask) (a2 : TPaint) (a3 : Int) (a4 : Int) : Option ((Int) × (Int) × (List TColor)) :=
  bnd (impl_copySurface a0) fun (w2, w3, w4) =>
  bnd (impl_SurfaceOk a0) fun v5 =>
  cnd v5 (
   bnd (impl_MaskOk a1) fun v6 =>
   cnd v6 (
    bnd (impl_PaintOk a2) fun v7 =>
    cnd v7 (
     bnd (impl_Surface_paint_PaintMask_1 a1.box w2 w3 a1 a3 a2 a4 w4) fun v8 =>
     some (w2, w3, v8)) (
     some (w2, w3, w4))) (
    some (w2, w3, w4))) (
   some (w2, w3, w4))
noncomputable def impl_PaintMask_e (q : (TSurface) × (TMask) × (TPaint) × (Int) × (Int)) : List AV × List Ob := ([AV.agg [AV.int .i64 q.1.w, AV.int .i64 q.1.h, AV.fsl (List.map eColor q.1.pix)], AV.agg [AV.int .i64 q.2.1.box.x0, AV.int .i64 q.2.1.box.y0, AV.int .i64 q.2.1.box.x1, AV.int .i64 q.2.1.box.y1, AV.fsl (List.map (AV.int .i64) q.2.1.bits)], AV.agg [AV.int .i64 q.2.2.1.kind, AV.int .i64 q.2.2.1.first.r, AV.int .i64 q.2.2.1.first.g, AV.int .i64 q.2.2.1.first.b, AV.int .i64 q.2.2.1.first.a, AV.int .i64 q.2.2.1.last.r, AV.int .i64 q.2.2.1.last.g, AV.int .i64 q.2.2.1.last.b, AV.int .i64 q.2.2.1.last.a, AV.int .i64 q.2.2.1.from_.x, AV.int .i64 q.2.2.1.from_.y, AV.int .i64 q.2.2.1.to.x, AV.int .i64 q.2.2.1.to.y], AV.int .i64 q.2.2.2.1, AV.int .i64 q.2.2.2.2], [])
noncomputable def impl_PaintMask_v (q : (TSurface) × (TMask) × (TPaint) × (Int) × (Int)) (r : (Int) × (Int) × (List TColor)) : AV × List Ob := (AV.agg [AV.int .i64 r.1, AV.int .i64 r.2.1, AV.osl 0 0 (List.length r.2.2) (List.length r.2.2)], [Ob.arr 4 (List.map eColor r.2.2) false])
noncomputable def impl_PaintMask_x : List AV → List Ob → Option (AV × List Ob) := xOf impl_PaintMask_e (fun q => impl_PaintMask q.1 q.2.1 q.2.2.1 q.2.2.2.1 q.2.2.2.2) impl_PaintMask_v
theorem impl_PaintMask_i : ∀ a b, impl_PaintMask_e a = impl_PaintMask_e b → a = b := by rintro ⟨⟨x0, x1, x2⟩, ⟨⟨x3, x4, x5, x6⟩, x7⟩, ⟨x8, ⟨x9, x10, x11, x12⟩, ⟨x13, x14, x15, x16⟩, ⟨x17, x18⟩, ⟨x19, x20⟩⟩, x21, x22⟩ ⟨⟨y0, y1, y2⟩, ⟨⟨y3, y4, y5, y6⟩, y7⟩, ⟨y8, ⟨y9, y10, y11, y12⟩, ⟨y13, y14, y15, y16⟩, ⟨y17, y18⟩, ⟨y19, y20⟩⟩, y21, y22⟩ h; simp [impl_PaintMask_e] at h; simp [h]
@[simp] theorem impl_PaintMask_k (z0 : Int) (z1 : Int) (z2 : List TColor) (z3 : Int) (z4 : Int) (z5 : Int) (z6 : Int) (z7 : List Int) (z8 : Int) (z9 : Int) (z10 : Int) (z11 : Int) (z12 : Int) (z13 : Int) (z14 : Int) (z15 : Int) (z16 : Int) (z17 : Int) (z18 : Int) (z19 : Int) (z20 : Int) (z21 : Int) (z22 : Int) : impl_PaintMask_x [AV.agg [AV.int .i64 z0, AV.int .i64 z1, AV.fsl (List.map eColor z2)], AV.agg [AV.int .i64 z3, AV.int .i64 z4, AV.int .i64 z5, AV.int .i64 z6, AV.fsl (List.map (AV.int .i64) z7)], AV.agg [AV.int .i64 z8, AV.int .i64 z9, AV.int .i64 z10, AV.int .i64 z11, AV.int .i64 z12, AV.int .i64 z13, AV.int .i64 z14, AV.int .i64 z15, AV.int .i64 z16, AV.int .i64 z17, AV.int .i64 z18, AV.int .i64 z19, AV.int .i64 z20], AV.int .i64 z21, AV.int .i64 z22] [] = mapR (impl_PaintMask ⟨z0, z1, z2⟩ ⟨⟨z3, z4, z5, z6⟩, z7⟩ ⟨z8, ⟨z9, z10, z11, z12⟩, ⟨z13, z14, z15, z16⟩, ⟨z17, z18⟩, ⟨z19, z20⟩⟩ z21 z22) (fun r => (AV.agg [AV.int .i64 r.1, AV.int .i64 r.2.1, AV.osl 0 0 (List.length r.2.2) (List.length r.2.2)], [Ob.arr 4 (List.map eColor r.2.2) false])) :=
  xOf_eq impl_PaintMask_i (⟨z0, z1, z2⟩, ⟨⟨z3, z4, z5, z6⟩, z7⟩, ⟨z8, ⟨z9, z10, z11, z12⟩, ⟨z13, z14, z15, z16⟩, ⟨z17, z18⟩, ⟨z19, z20⟩⟩, z21, z22)
/-! laws_eqColor: function 202 -/
noncomputable def laws_eqColor (a0 : TColor) (a1 : TColor) : Option ((Bool)) :=
  cnd (ieq a0.r a1.r) (
   cnd (ieq a0.g a1.g) (
    cnd (ieq a0.b a1.b) (
     cnd (ieq a0.a a1.a) (
      some true) (
      some false)) (
     some false)) (
    some false)) (
   some false)
noncomputable def laws_eqColor_e (q : (TColor) × (TColor)) : List AV × List Ob := ([AV.agg [AV.int .i64 q.1.r, AV.int .i64 q.1.g, AV.int .i64 q.1.b, AV.int .i64 q.1.a], AV.agg [AV.int .i64 q.2.r, AV.int .i64 q.2.g, AV.int .i64 q.2.b, AV.int .i64 q.2.a]], [])
noncomputable def laws_eqColor_v (q : (TColor) × (TColor)) (r : (Bool)) : AV × List Ob := (AV.bool r, [])
noncomputable def laws_eqColor_x : List AV → List Ob → Option (AV × List Ob) := xOf laws_eqColor_e (fun q => laws_eqColor q.1 q.2) laws_eqColor_v
theorem laws_eqColor_i : ∀ a b, laws_eqColor_e a = laws_eqColor_e b → a = b := by rintro ⟨⟨x0, x1, x2, x3⟩, ⟨x4, x5, x6, x7⟩⟩ ⟨⟨y0, y1, y2, y3⟩, ⟨y4, y5, y6, y7⟩⟩ h; simp [laws_eqColor_e] at h; simp [h]
@[simp] theorem laws_eqColor_k (z0 : Int) (z1 : Int) (z2 : Int) (z3 : Int) (z4 : Int) (z5 : Int) (z6 : Int) (z7 : Int) : laws_eqColor_x [AV.agg [AV.int .i64 z0, AV.int .i64 z1, AV.int .i64 z2, AV.int .i64 z3], AV.agg [AV.int .i64 z4, AV.int .i64 z5, AV.int .i64 z6, AV.int .i64 z7]] [] = mapR (laws_eqColor ⟨z0, z1, z2, z3⟩ ⟨z4, z5, z6, z7⟩) (fun r => (AV.bool r, [])) :=
  xOf_eq laws_eqColor_i (⟨z0, z1, z2, z3⟩, ⟨z4, z5, z6, z7⟩)
/-! laws_eqColorS: function 142 -/
noncomputable def laws_eqColorS_l0 (a0 : List TColor) (a1 : List TColor) : ((Int)) → Option (((Int)) ⊕ ((Unit) ⊕ (Unit))) := fun x4 =>
  cnd (ile (List.length a0 : Int) x4) (
   some (.inr (.inl ()))) (
   bnd (idx a0 x4) fun v5 =>
   bnd (idx a1 x4) fun v6 =>
   bnd (laws_eqColor v5 v6) fun v7 =>
   cnd v7 (
    some (.inl (IntKind.i64.wrap (x4 + 1)))) (
    some (.inr (.inr ()))))
noncomputable def laws_eqColorS_l0_S (a0 : List TColor) (a1 : List TColor) : ((Int)) → St := fun x4 => ⟨[(0, AV.fsl (List.map eColor a0)), (1, AV.fsl (List.map eColor a1)), (5, AV.int .i64 x4)], [], 0⟩
noncomputable def laws_eqColorS_l0_X (a0 : List TColor) (a1 : List TColor) : ((Unit) ⊕ (Unit)) → Ex × St := fun q => match q with
  | .inl _ => ((.exit 0), ⟨[], [], 0⟩)
  | .inr _ => (.ret, ⟨[(4, AV.bool false)], [], 0⟩)
noncomputable def laws_eqColorS (a0 : List TColor) (a1 : List TColor) : Option ((Bool)) :=
  cnd (ieq (List.length a0 : Int) (List.length a1 : Int)) (
   bnd (loopI (laws_eqColorS_l0 a0 a1) 0) fun q => match q with
   | .inl () =>
    some true
   | .inr () =>
    some false) (
   some false)
noncomputable def laws_eqColorS_e (q : (List TColor) × (List TColor)) : List AV × List Ob := ([AV.fsl (List.map eColor q.1), AV.fsl (List.map eColor q.2)], [])
noncomputable def laws_eqColorS_v (q : (List TColor) × (List TColor)) (r : (Bool)) : AV × List Ob := (AV.bool r, [])
noncomputable def laws_eqColorS_x : List AV → List Ob → Option (AV × List Ob) := xOf laws_eqColorS_e (fun q => laws_eqColorS q.1 q.2) laws_eqColorS_v
theorem laws_eqColorS_i : ∀ a b, laws_eqColorS_e a = laws_eqColorS_e b → a = b := by rintro ⟨x0, x1⟩ ⟨y0, y1⟩ h; simp [laws_eqColorS_e] at h; simp [h]
@[simp] theorem laws_eqColorS_k (z0 : List TColor) (z1 : List TColor) : laws_eqColorS_x [AV.fsl (List.map eColor z0), AV.fsl (List.map eColor z1)] [] = mapR (laws_eqColorS z0 z1) (fun r => (AV.bool r, [])) :=
  xOf_eq laws_eqColorS_i (z0, z1)
/-! laws_eqSurface: function 63 -/
noncomputable def laws_eqSurface (a0 : TSurface) (a1 : TSurface) : Option ((Bool)) :=
  cnd (ieq a0.w a1.w) (
   cnd (ieq a0.h a1.h) (
    bnd (laws_eqColorS a0.pix a1.pix) fun v1 =>
    cnd v1 (
     some true) (
     some false)) (
    some false)) (
   some false)
noncomputable def laws_eqSurface_e (q : (TSurface) × (TSurface)) : List AV × List Ob := ([AV.agg [AV.int .i64 q.1.w, AV.int .i64 q.1.h, AV.fsl (List.map eColor q.1.pix)], AV.agg [AV.int .i64 q.2.w, AV.int .i64 q.2.h, AV.fsl (List.map eColor q.2.pix)]], [])
noncomputable def laws_eqSurface_v (q : (TSurface) × (TSurface)) (r : (Bool)) : AV × List Ob := (AV.bool r, [])
noncomputable def laws_eqSurface_x : List AV → List Ob → Option (AV × List Ob) := xOf laws_eqSurface_e (fun q => laws_eqSurface q.1 q.2) laws_eqSurface_v
theorem laws_eqSurface_i : ∀ a b, laws_eqSurface_e a = laws_eqSurface_e b → a = b := by rintro ⟨⟨x0, x1, x2⟩, ⟨x3, x4, x5⟩⟩ ⟨⟨y0, y1, y2⟩, ⟨y3, y4, y5⟩⟩ h; simp [laws_eqSurface_e] at h; simp [h]
@[simp] theorem laws_eqSurface_k (z0 : Int) (z1 : Int) (z2 : List TColor) (z3 : Int) (z4 : Int) (z5 : List TColor) : laws_eqSurface_x [AV.agg [AV.int .i64 z0, AV.int .i64 z1, AV.fsl (List.map eColor z2)], AV.agg [AV.int .i64 z3, AV.int .i64 z4, AV.fsl (List.map eColor z5)]] [] = mapR (laws_eqSurface ⟨z0, z1, z2⟩ ⟨z3, z4, z5⟩) (fun r => (AV.bool r, [])) :=
  xOf_eq laws_eqSurface_i (⟨z0, z1, z2⟩, ⟨z3, z4, z5⟩)
/-! laws_eqBox: function 139 -/
noncomputable def laws_eqBox (a0 : TBox) (a1 : TBox) : Option ((Bool)) :=
  cnd (ieq a0.x0 a1.x0) (
   cnd (ieq a0.y0 a1.y0) (
    cnd (ieq a0.x1 a1.x1) (
     cnd (ieq a0.y1 a1.y1) (
      some true) (
      some false)) (
     some false)) (
    some false)) (
   some false)
noncomputable def laws_eqBox_e (q : (TBox) × (TBox)) : List AV × List Ob := ([AV.agg [AV.int .i64 q.1.x0, AV.int .i64 q.1.y0, AV.int .i64 q.1.x1, AV.int .i64 q.1.y1], AV.agg [AV.int .i64 q.2.x0, AV.int .i64 q.2.y0, AV.int .i64 q.2.x1, AV.int .i64 q.2.y1]], [])
noncomputable def laws_eqBox_v (q : (TBox) × (TBox)) (r : (Bool)) : AV × List Ob := (AV.bool r, [])
noncomputable def laws_eqBox_x : List AV → List Ob → Option (AV × List Ob) := xOf laws_eqBox_e (fun q => laws_eqBox q.1 q.2) laws_eqBox_v
theorem laws_eqBox_i : ∀ a b, laws_eqBox_e a = laws_eqBox_e b → a = b := by rintro ⟨⟨x0, x1, x2, x3⟩, ⟨x4, x5, x6, x7⟩⟩ ⟨⟨y0, y1, y2, y3⟩, ⟨y4, y5, y6, y7⟩⟩ h; simp [laws_eqBox_e] at h; simp [h]
@[simp] theorem laws_eqBox_k (z0 : Int) (z1 : Int) (z2 : Int) (z3 : Int) (z4 : Int) (z5 : Int) (z6 : Int) (z7 : Int) : laws_eqBox_x [AV.agg [AV.int .i64 z0, AV.int .i64 z1, AV.int .i64 z2, AV.int .i64 z3], AV.agg [AV.int .i64 z4, AV.int .i64 z5, AV.int .i64 z6, AV.int .i64 z7]] [] = mapR (laws_eqBox ⟨z0, z1, z2, z3⟩ ⟨z4, z5, z6, z7⟩) (fun r => (AV.bool r, [])) :=
  xOf_eq laws_eqBox_i (⟨z0, z1, z2, z3⟩, ⟨z4, z5, z6, z7⟩)
/-! laws_eqIntS: function 56 -/
noncomputable def laws_eqIntS_l0 (a0 : List Int) (a1 : List Int) : ((Int)) → Option (((Int)) ⊕ ((Unit) ⊕ (Unit))) := fun x3 =>
  cnd (ile (List.length a0 : Int) x3) (
   some (.inr (.inl ()))) (
   bnd (idx a0 x3) fun v4 =>
   bnd (idx a1 x3) fun v5 =>
   cnd (ieq v4 v5) (
    some (.inl (IntKind.i64.wrap (x3 + 1)))) (
    some (.inr (.inr ()))))
noncomputable def laws_eqIntS_l0_S (a0 : List Int) (a1 : List Int) : ((Int)) → St := fun x3 => ⟨[(0, AV.fsl (List.map (AV.int .i64) a0)), (1, AV.fsl (List.map (AV.int .i64) a1)), (5, AV.int .i64 x3)], [], 0⟩
noncomputable def laws_eqIntS_l0_X (a0 : List Int) (a1 : List Int) : ((Unit) ⊕ (Unit)) → Ex × St := fun q => match q with
  | .inl _ => ((.exit 0), ⟨[], [], 0⟩)
  | .inr _ => (.ret, ⟨[(4, AV.bool false)], [], 0⟩)
noncomputable def laws_eqIntS (a0 : List Int) (a1 : List Int) : Option ((Bool)) :=
  cnd (ieq (List.length a0 : Int) (List.length a1 : Int)) (
   bnd (loopI (laws_eqIntS_l0 a0 a1) 0) fun q => match q with
   | .inl () =>
    some true
   | .inr () =>
    some false) (
   some false)
noncomputable def laws_eqIntS_e (q : (List Int) × (List Int)) : List AV × List Ob := ([AV.fsl (List.map (AV.int .i64) q.1), AV.fsl (List.map (AV.int .i64) q.2)], [])
noncomputable def laws_eqIntS_v (q : (List Int) × (List Int)) (r : (Bool)) : AV × List Ob := (AV.bool r, [])
noncomputable def laws_eqIntS_x : List AV → List Ob → Option (AV × List Ob) := xOf laws_eqIntS_e (fun q => laws_eqIntS q.1 q.2) laws_eqIntS_v
theorem laws_eqIntS_i : ∀ a b, laws_eqIntS_e a = laws_eqIntS_e b → a = b := by rintro ⟨x0, x1⟩ ⟨y0, y1⟩ h; simp [laws_eqIntS_e] at h; simp [h]
@[simp] theorem laws_eqIntS_k (z0 : List Int) (z1 : List Int) : laws_eqIntS_x [AV.fsl (List.map (AV.int .i64) z0), AV.fsl (List.map (AV.int .i64) z1)] [] = mapR (laws_eqIntS z0 z1) (fun r => (AV.bool r, [])) :=
  xOf_eq laws_eqIntS_i (z0, z1)
/-! laws_eqMask: function 70 -/
noncomputable def laws_eqMask (a0 : TMask) (a1 : TMask) : Option ((Bool)) :=
  bnd (laws_eqBox a0.box a1.box) fun v1 =>
  cnd v1 (
   bnd (laws_eqIntS a0.bits a1.bits) fun v2 =>
   cnd v2 (
    some true) (
    some false)) (
   some false)
noncomputable def laws_eqMask_e (q : (TMask) × (TMask)) : List AV × List Ob := ([AV.agg [AV.int .i64 q.1.box.x0, AV.int .i64 q.1.box.y0, AV.int .i64 q.1.box.x1, AV.int .i64 q.1.box.y1, AV.fsl (List.map (AV.int .i64) q.1.bits)], AV.agg [AV.int .i64 q.2.box.x0, AV.int .i64 q.2.box.y0, AV.int .i64 q.2.box.x1, AV.int .i64 q.2.box.y1, AV.fsl (List.map (AV.int .i64) q.2.bits)]], [])
noncomputable def laws_eqMask_v (q : (TMask) × (TMask)) (r : (Bool)) : AV × List Ob := (AV.bool r, [])
noncomputable def laws_eqMask_x : List AV → List Ob → Option (AV × List Ob) := xOf laws_eqMask_e (fun q => laws_eqMask q.1 q.2) laws_eqMask_v
theorem laws_eqMask_i : ∀ a b, laws_eqMask_e a = laws_eqMask_e b → a = b := by rintro ⟨⟨⟨x0, x1, x2, x3⟩, x4⟩, ⟨⟨x5, x6, x7, x8⟩, x9⟩⟩ ⟨⟨⟨y0, y1, y2, y3⟩, y4⟩, ⟨⟨y5, y6, y7, y8⟩, y9⟩⟩ h; simp [laws_eqMask_e] at h; simp [h]
@[simp] theorem laws_eqMask_k (z0 : Int) (z1 : Int) (z2 : Int) (z3 : Int) (z4 : List Int) (z5 : Int) (z6 : Int) (z7 : Int) (z8 : Int) (z9 : List Int) : laws_eqMask_x [AV.agg [AV.int .i64 z0, AV.int .i64 z1, AV.int .i64 z2, AV.int .i64 z3, AV.fsl (List.map (AV.int .i64) z4)], AV.agg [AV.int .i64 z5, AV.int .i64 z6, AV.int .i64 z7, AV.int .i64 z8, AV.fsl (List.map (AV.int .i64) z9)]] [] = mapR (laws_eqMask ⟨⟨z0, z1, z2, z3⟩, z4⟩ ⟨⟨z5, z6, z7, z8⟩, z9⟩) (fun r => (AV.bool r, [])) :=
  xOf_eq laws_eqMask_i (⟨⟨z0, z1, z2, z3⟩, z4⟩, ⟨⟨z5, z6, z7, z8⟩, z9⟩)
/-! laws_markColorS: function 143 -/
noncomputable def laws_markColorS_l0  : ((Int) × (Int) × (List TColor)) → Option (((Int) × (Int) × (List TColor)) ⊕ ((List TColor) × (Int))) := fun (x9, x10, x11) =>
  cnd (ile (List.length x11 : Int) x10) (
   some (.inr (x11, x9))) (
   bnd (idx x11 x10) fun v12 =>
   nam ((List.set x11 (Int.toNat x10) (TColor.mk x9 v12.g v12.b v12.a)) : List TColor) fun l13 =>
   bnd (idx l13 x10) fun v14 =>
   nam ((List.set l13 (Int.toNat x10) (TColor.mk v14.r (IntKind.i64.wrap (x9 + 1)) v14.b v14.a)) : List TColor) fun l15 =>
   bnd (idx l15 x10) fun v16 =>
   nam ((List.set l15 (Int.toNat x10) (TColor.mk v16.r v16.g (IntKind.i64.wrap ((IntKind.i64.wrap (x9 + 1)) + 1)) v16.a)) : List TColor) fun l17 =>
   bnd (idx l17 x10) fun v18 =>
   nam ((List.set l17 (Int.toNat x10) (TColor.mk v18.r v18.g v18.b (IntKind.i64.wrap ((IntKind.i64.wrap ((IntKind.i64.wrap (x9 + 1)) + 1)) + 1)))) : List TColor) fun l19 =>
   some (.inl ((IntKind.i64.wrap ((IntKind.i64.wrap ((IntKind.i64.wrap ((IntKind.i64.wrap (x9 + 1)) + 1)) + 1)) + 1)), (IntKind.i64.wrap (x10 + 1)), l19)))
noncomputable def laws_markColorS_l0_S  : ((Int) × (Int) × (List TColor)) → St := fun (x9, x10, x11) => ⟨[(0, AV.osl 0 0 (List.length x11) (List.length x11)), (1, AV.int .i64 x9), (5, AV.int .i64 x10)], [(0, Ob.arr 4 (List.map eColor x11) false)], 1⟩
noncomputable def laws_markColorS_l0_X  : ((List TColor) × (Int)) → Ex × St := fun (y20, y21) => ((.exit 0), ⟨[(1, AV.int .i64 y21)], [(0, Ob.arr 4 (List.map eColor y20) false)], 1⟩)
noncomputable def laws_markColorS (a0 : Int) (a1 : List TColor) : Option ((Int) × (List TColor)) :=
  bnd (loopI laws_markColorS_l0 (a0, 0, a1)) fun (y20, y21) =>
  some (y21, y20)
noncomputable def laws_markColorS_e (q : (Int) × (List TColor)) : List AV × List Ob := ([AV.osl 0 0 (List.length q.2) (List.length q.2), AV.int .i64 q.1], [Ob.arr 4 (List.map eColor q.2) false])
noncomputable def laws_markColorS_v (q : (Int) × (List TColor)) (r : (Int) × (List TColor)) : AV × List Ob := (AV.int .i64 r.1, [Ob.arr 4 (List.map eColor r.2) false])
noncomputable def laws_markColorS_x : List AV → List Ob → Option (AV × List Ob) := xOf laws_markColorS_e (fun q => laws_markColorS q.1 q.2) laws_markColorS_v
theorem laws_markColorS_i : ∀ a b, laws_markColorS_e a = laws_markColorS_e b → a = b := by rintro ⟨x0, x1⟩ ⟨y0, y1⟩ h; simp [laws_markColorS_e] at h; simp [h]
@[simp] theorem laws_markColorS_k (z0 : Int) (z1 : List TColor) : laws_markColorS_x [AV.osl 0 0 (List.length z1) (List.length z1), AV.int .i64 z0] [Ob.arr 4 (List.map eColor z1) false] = mapR (laws_markColorS z0 z1) (fun r => (AV.int .i64 r.1, [Ob.arr 4 (List.map eColor r.2) false])) :=
  xOf_eq laws_markColorS_i (z0, z1)
theorem laws_markColorS_n {a0 : Int} {a1 : List TColor} {r0 : Int} {r1 : List TColor} (h : laws_markColorS a0 a1 = some (r0, r1)) : List.length a1 = List.length r1 := by
  unfold laws_markColorS at h; replace h : HS _ _ := h
  obtain ⟨q, e1, h⟩ := HS.bnd h
  replace e1 := loopI_pres (P := fun s => List.length a1 = List.length s.2.2) (Q := fun s => List.length a1 = List.length s.1) e1 (by
    rintro ⟨x9, x10, x11⟩ o hp h; dsimp only at hp; unfold laws_markColorS_l0 at h; replace h : HS _ _ := h
    rcases HS.cnd h with h | h
    · skip
      have h := HS.some h
      first | (cases h; simp_all; done) | (subst h; simp_all; done) | (simp only [Prod.mk.injEq] at h; simp_all; done)
    · skip
      obtain ⟨v12, e2, h⟩ := HS.bnd h
      clear e2
      obtain ⟨l13, e3, h⟩ := HS.nam h; replace e3 := congrArg List.length e3; simp only [List.length_set] at e3
      obtain ⟨v14, e4, h⟩ := HS.bnd h
      clear e4
      obtain ⟨l15, e5, h⟩ := HS.nam h; replace e5 := congrArg List.length e5; simp only [List.length_set] at e5
      obtain ⟨v16, e6, h⟩ := HS.bnd h
      clear e6
      obtain ⟨l17, e7, h⟩ := HS.nam h; replace e7 := congrArg List.length e7; simp only [List.length_set] at e7
      obtain ⟨v18, e8, h⟩ := HS.bnd h
      clear e8
      obtain ⟨l19, e9, h⟩ := HS.nam h; replace e9 := congrArg List.length e9; simp only [List.length_set] at e9
      have h := HS.some h
      first | (cases h; simp_all; done) | (subst h; simp_all; done) | (simp only [Prod.mk.injEq] at h; simp_all; done)) (by simp)
  obtain ⟨y20, y21⟩ := q
  dsimp only at h e1
  have h := HS.some h
  first | (cases h; simp_all; done) | (subst h; simp_all; done) | (simp only [Prod.mk.injEq] at h; simp_all; done)
/-! laws_markSurface: function 64 -/
noncomputable def laws_markSurface (a0 : Int) (a1 : Int) (a2 : Int) (a3 : List TColor) : Option ((Int) × (List TColor)) :=
  bnd (laws_markColorS a2 a3) fun (w2, w3) =>
  some (w2, w3)
noncomputable def laws_markSurface_e (q : (Int) × (Int) × (Int) × (List TColor)) : List AV × List Ob := ([AV.agg [AV.int .i64 q.1, AV.int .i64 q.2.1, AV.osl 0 0 (List.length q.2.2.2) (List.length q.2.2.2)], AV.int .i64 q.2.2.1], [Ob.arr 4 (List.map eColor q.2.2.2) false])
noncomputable def laws_markSurface_v (q : (Int) × (Int) × (Int) × (List TColor)) (r : (Int) × (List TColor)) : AV × List Ob := (AV.int .i64 r.1, [Ob.arr 4 (List.map eColor r.2) false])
noncomputable def laws_markSurface_x : List AV → List Ob → Option (AV × List Ob) := xOf laws_markSurface_e (fun q => laws_markSurface q.1 q.2.1 q.2.2.1 q.2.2.2) laws_markSurface_v
theorem laws_markSurface_i : ∀ a b, laws_markSurface_e a = laws_markSurface_e b → a = b := by rintro ⟨x0, x1, x2, x3⟩ ⟨y0, y1, y2, y3⟩ h; simp [laws_markSurface_e] at h; simp [h]
@[simp] theorem laws_markSurface_k (z0 : Int) (z1 : Int) (z2 : Int) (z3 : List TColor) : laws_markSurface_x [AV.agg [AV.int .i64 z0, AV.int .i64 z1, AV.osl 0 0 (List.length z3) (List.length z3)], AV.int .i64 z2] [Ob.arr 4 (List.map eColor z3) false] = mapR (laws_markSurface z0 z1 z2 z3) (fun r => (AV.int .i64 r.1, [Ob.arr 4 (List.map eColor r.2) false])) :=
  xOf_eq laws_markSurface_i (z0, z1, z2, z3)
theorem laws_markSurface_n {a0 : Int} {a1 : Int} {a2 : Int} {a3 : List TColor} {r0 : Int} {r1 : List TColor} (h : laws_markSurface a0 a1 a2 a3 = some (r0, r1)) : List.length a3 = List.length r1 := by
  unfold laws_markSurface at h; replace h : HS _ _ := h
  obtain ⟨⟨w2, w3⟩, e1, h⟩ := HS.bnd h
  dsimp only at h
  replace e1 := laws_markColorS_n e1
  have h := HS.some h
  first | (cases h; simp_all; done) | (subst h; simp_all; done) | (simp only [Prod.mk.injEq] at h; simp_all; done)
/-! laws_markIntS: function 59 -/
noncomputable def laws_markIntS_l0  : ((Int) × (Int) × (List Int)) → Option (((Int) × (Int) × (List Int)) ⊕ ((List Int) × (Int))) := fun (x3, x4, x5) =>
  cnd (ile (List.length x5 : Int) x4) (
   some (.inr (x5, x3))) (
   bnd (idx x5 x4) fun v6 =>
   nam ((List.set x5 (Int.toNat x4) x3) : List Int) fun l7 =>
   some (.inl ((IntKind.i64.wrap (x3 + 1)), (IntKind.i64.wrap (x4 + 1)), l7)))
noncomputable def laws_markIntS_l0_S  : ((Int) × (Int) × (List Int)) → St := fun (x3, x4, x5) => ⟨[(0, AV.osl 0 0 (List.length x5) (List.length x5)), (1, AV.int .i64 x3), (5, AV.int .i64 x4)], [(0, Ob.arr 1 (List.map (AV.int .i64) x5) false)], 1⟩
noncomputable def laws_markIntS_l0_X  : ((List Int) × (Int)) → Ex × St := fun (y8, y9) => ((.exit 0), ⟨[(1, AV.int .i64 y9)], [(0, Ob.arr 1 (List.map (AV.int .i64) y8) false)], 1⟩)
noncomputable def laws_markIntS (a0 : Int) (a1 : List Int) : Option ((Int) × (List Int)) :=
  bnd (loopI laws_markIntS_l0 (a0, 0, a1)) fun (y8, y9) =>
  some (y9, y8)
noncomputable def laws_markIntS_e (q : (Int) × (List Int)) : List AV × List Ob := ([AV.osl 0 0 (List.length q.2) (List.length q.2), AV.int .i64 q.1], [Ob.arr 1 (List.map (AV.int .i64) q.2) false])
noncomputable def laws_markIntS_v (q : (Int) × (List Int)) (r : (Int) × (List Int)) : AV × List Ob := (AV.int .i64 r.1, [Ob.arr 1 (List.map (AV.int .i64) r.2) false])
noncomputable def laws_markIntS_x : List AV → List Ob → Option (AV × List Ob) := xOf laws_markIntS_e (fun q => laws_markIntS q.1 q.2) laws_markIntS_v
theorem laws_markIntS_i : ∀ a b, laws_markIntS_e a = laws_markIntS_e b → a = b := by rintro ⟨x0, x1⟩ ⟨y0, y1⟩ h; simp [laws_markIntS_e] at h; simp [h]
@[simp] theorem laws_markIntS_k (z0 : Int) (z1 : List Int) : laws_markIntS_x [AV.osl 0 0 (List.length z1) (List.length z1), AV.int .i64 z0] [Ob.arr 1 (List.map (AV.int .i64) z1) false] = mapR (laws_markIntS z0 z1) (fun r => (AV.int .i64 r.1, [Ob.arr 1 (List.map (AV.int .i64) r.2) false])) :=
  xOf_eq laws_markIntS_i (z0, z1)
theorem laws_markIntS_n {a0 : Int} {a1 : List Int} {r0 : Int} {r1 : List Int} (h : laws_markIntS a0 a1 = some (r0, r1)) : List.length a1 = List.length r1 := by
  unfold laws_markIntS at h; replace h : HS _ _ := h
  obtain ⟨q, e1, h⟩ := HS.bnd h
  replace e1 := loopI_pres (P := fun s => List.length a1 = List.length s.2.2) (Q := fun s => List.length a1 = List.length s.1) e1 (by
    rintro ⟨x3, x4, x5⟩ o hp h; dsimp only at hp; unfold laws_markIntS_l0 at h; replace h : HS _ _ := h
    rcases HS.cnd h with h | h
    · skip
      have h := HS.some h
      first | (cases h; simp_all; done) | (subst h; simp_all; done) | (simp only [Prod.mk.injEq] at h; simp_all; done)
    · skip
      obtain ⟨v6, e2, h⟩ := HS.bnd h
      clear e2
      obtain ⟨l7, e3, h⟩ := HS.nam h; replace e3 := congrArg List.length e3; simp only [List.length_set] at e3
      have h := HS.some h
      first | (cases h; simp_all; done) | (subst h; simp_all; done) | (simp only [Prod.mk.injEq] at h; simp_all; done)) (by simp)
  obtain ⟨y8, y9⟩ := q
  dsimp only at h e1
  have h := HS.some h
  first | (cases h; simp_all; done) | (subst h; simp_all; done) | (simp only [Prod.mk.injEq] at h; simp_all; done)
/-! laws_markMask: function 71 -/
noncomputable def laws_markMask (a0 : TBox) (a1 : Int) (a2 : List Int) : Option ((Int) × (List Int)) :=
  bnd (laws_markIntS a1 a2) fun (w2, w3) =>
  some (w2, w3)
noncomputable def laws_markMask_e (q : (TBox) × (Int) × (List Int)) : List AV × List Ob := ([AV.agg [AV.int .i64 q.1.x0, AV.int .i64 q.1.y0, AV.int .i64 q.1.x1, AV.int .i64 q.1.y1, AV.osl 0 0 (List.length q.2.2) (List.length q.2.2)], AV.int .i64 q.2.1], [Ob.arr 1 (List.map (AV.int .i64) q.2.2) false])
noncomputable def laws_markMask_v (q : (TBox) × (Int) × (List Int)) (r : (Int) × (List Int)) : AV × List Ob := (AV.int .i64 r.1, [Ob.arr 1 (List.map (AV.int .i64) r.2) false])
noncomputable def laws_markMask_x : List AV → List Ob → Option (AV × List Ob) := xOf laws_markMask_e (fun q => laws_markMask q.1 q.2.1 q.2.2) laws_markMask_v
theorem laws_markMask_i : ∀ a b, laws_markMask_e a = laws_markMask_e b → a = b := by rintro ⟨⟨x0, x1, x2, x3⟩, x4, x5⟩ ⟨⟨y0, y1, y2, y3⟩, y4, y5⟩ h; simp [laws_markMask_e] at h; simp [h]
@[simp] theorem laws_markMask_k (z0 : Int) (z1 : Int) (z2 : Int) (z3 : Int) (z4 : Int) (z5 : List Int) : laws_markMask_x [AV.agg [AV.int .i64 z0, AV.int .i64 z1, AV.int .i64 z2, AV.int .i64 z3, AV.osl 0 0 (List.length z5) (List.length z5)], AV.int .i64 z4] [Ob.arr 1 (List.map (AV.int .i64) z5) false] = mapR (laws_markMask ⟨z0, z1, z2, z3⟩ z4 z5) (fun r => (AV.int .i64 r.1, [Ob.arr 1 (List.map (AV.int .i64) r.2) false])) :=
  xOf_eq laws_markMask_i (⟨z0, z1, z2, z3⟩, z4, z5)
theorem laws_markMask_n {a0 : TBox} {a1 : Int} {a2 : List Int} {r0 : Int} {r1 : List Int} (h : laws_markMask a0 a1 a2 = some (r0, r1)) : List.length a2 = List.length r1 := by
  unfold laws_markMask at h; replace h : HS _ _ := h
  obtain ⟨⟨w2, w3⟩, e1, h⟩ := HS.bnd h
  dsimp only at h
  replace e1 := laws_markIntS_n e1
  have h := HS.some h
  first | (cases h; simp_all; done) | (subst h; simp_all; done) | (simp only [Prod.mk.injEq] at h; simp_all; done)
/-! laws_heldColorS: function 144 -/
noncomputable def laws_heldColorS_l0 (a0 : List TColor) : ((Int) × (Int)) → Option (((Int) × (Int)) ⊕ (((Int)) ⊕ (Unit))) := fun (x2, x3) =>
  cnd (ile (List.length a0 : Int) x3) (
   some (.inr (.inl x2))) (
   bnd (idx a0 x3) fun v4 =>
   cnd (ieq v4.r x2) (
    cnd (ieq v4.g (IntKind.i64.wrap (x2 + 1))) (
     cnd (ieq v4.b (IntKind.i64.wrap ((IntKind.i64.wrap (x2 + 1)) + 1))) (
      cnd (ieq v4.a (IntKind.i64.wrap ((IntKind.i64.wrap ((IntKind.i64.wrap (x2 + 1)) + 1)) + 1))) (
       some (.inl ((IntKind.i64.wrap ((IntKind.i64.wrap ((IntKind.i64.wrap ((IntKind.i64.wrap (x2 + 1)) + 1)) + 1)) + 1)), (IntKind.i64.wrap (x3 + 1))))) (
       some (.inr (.inr ())))) (
      some (.inr (.inr ())))) (
     some (.inr (.inr ())))) (
    some (.inr (.inr ()))))
noncomputable def laws_heldColorS_l0_S (a0 : List TColor) : ((Int) × (Int)) → St := fun (x2, x3) => ⟨[(0, AV.fsl (List.map eColor a0)), (1, AV.int .i64 x2), (5, AV.int .i64 x3)], [], 0⟩
noncomputable def laws_heldColorS_l0_X (a0 : List TColor) : (((Int)) ⊕ (Unit)) → Ex × St := fun q => match q with
  | .inl y5 => ((.exit 0), ⟨[(1, AV.int .i64 y5)], [], 0⟩)
  | .inr _ => (.ret, ⟨[(4, AV.int .i64 (-1))], [], 0⟩)
noncomputable def laws_heldColorS (a0 : List TColor) (a1 : Int) : Option ((Int)) :=
  bnd (loopI (laws_heldColorS_l0 a0) (a1, 0)) fun q => match q with
  | .inl y5 =>
   some y5
  | .inr () =>
   some (-1)
noncomputable def laws_heldColorS_e (q : (List TColor) × (Int)) : List AV × List Ob := ([AV.fsl (List.map eColor q.1), AV.int .i64 q.2], [])
noncomputable def laws_heldColorS_v (q : (List TColor) × (Int)) (r : (Int)) : AV × List Ob := (AV.int .i64 r, [])
noncomputable def laws_heldColorS_x : List AV → List Ob → Option (AV × List Ob) := xOf laws_heldColorS_e (fun q => laws_heldColorS q.1 q.2) laws_heldColorS_v
theorem laws_heldColorS_i : ∀ a b, laws_heldColorS_e a = laws_heldColorS_e b → a = b := by rintro ⟨x0, x1⟩ ⟨y0, y1⟩ h; simp [laws_heldColorS_e] at h; simp [h]
@[simp] theorem laws_heldColorS_k (z0 : List TColor) (z1 : Int) : laws_heldColorS_x [AV.fsl (List.map eColor z0), AV.int .i64 z1] [] = mapR (laws_heldColorS z0 z1) (fun r => (AV.int .i64 r, [])) :=
  xOf_eq laws_heldColorS_i (z0, z1)
/-! laws_heldSurface: function 65 -/
noncomputable def laws_heldSurface (a0 : TSurface) (a1 : Int) : Option ((Int)) :=
  bnd (laws_heldColorS a0.pix a1) fun v1 =>
  cnd (ile 0 v1) (
   some v1) (
   some (-1))
noncomputable def laws_heldSurface_e (q : (TSurface) × (Int)) : List AV × List Ob := ([AV.agg [AV.int .i64 q.1.w, AV.int .i64 q.1.h, AV.fsl (List.map eColor q.1.pix)], AV.int .i64 q.2], [])
noncomputable def laws_heldSurface_v (q : (TSurface) × (Int)) (r : (Int)) : AV × List Ob := (AV.int .i64 r, [])
noncomputable def laws_heldSurface_x : List AV → List Ob → Option (AV × List Ob) := xOf laws_heldSurface_e (fun q => laws_heldSurface q.1 q.2) laws_heldSurface_v
theorem laws_heldSurface_i : ∀ a b, laws_heldSurface_e a = laws_heldSurface_e b → a = b := by rintro ⟨⟨x0, x1, x2⟩, x3⟩ ⟨⟨y0, y1, y2⟩, y3⟩ h; simp [laws_heldSurface_e] at h; simp [h]
@[simp] theorem laws_heldSurface_k (z0 : Int) (z1 : Int) (z2 : List TColor) (z3 : Int) : laws_heldSurface_x [AV.agg [AV.int .i64 z0, AV.int .i64 z1, AV.fsl (List.map eColor z2)], AV.int .i64 z3] [] = mapR (laws_heldSurface ⟨z0, z1, z2⟩ z3) (fun r => (AV.int .i64 r, [])) :=
  xOf_eq laws_heldSurface_i (⟨z0, z1, z2⟩, z3)
/-! laws_FnExactPaintMask: function 11 -/
noncomputable def laws_FnExactPaintMask (a0 : TSurface) (a1 : TMask) (a2 : TPaint) (a3 : Int) (a4 : Int) : Option ((Bool)) :=
  bnd (laws_szSurface a0 1048576) fun v1 =>
  cnd (ile 0 v1) (
   bnd (laws_szMask a1 v1) fun v2 =>
   cnd (ile 0 v2) (
    bnd (laws_toSurface a0) fun (w4, w5, w6) =>
    bnd (laws_toMask a1) fun (w8, w9) =>
    bnd (laws_toPaint a2) fun v10 =>
    bnd (spec_PaintMask (TSurface.mk w4 w5 w6) (TMask.mk w8 w9) v10 a3 a4) fun v11 =>
    bnd (impl_PaintMask (TSurface.mk w4 w5 w6) (TMask.mk w8 w9) v10 a3 a4) fun (w13, w14, w15) =>
    bnd (laws_eqSurface (TSurface.mk w13 w14 w15) v11) fun v16 =>
    cnd v16 (
     bnd (laws_eqSurface (TSurface.mk w4 w5 w6) (TSurface.mk w4 w5 w6)) fun v17 =>
     cnd v17 (
      bnd (laws_eqMask (TMask.mk w8 w9) (TMask.mk w8 w9)) fun v18 =>
      cnd v18 (
       bnd (laws_markSurface w4 w5 1 w6) fun (w20, w21) =>
       bnd (laws_markMask w8 w20 w9) fun (w23, w24) =>
       cnd (ile 0 w23) (
        bnd (laws_markSurface w13 w14 1 w15) fun (w26, w27) =>
        bnd (laws_heldSurface (TSurface.mk w13 w14 w27) 1) fun v28 =>
        cnd (ile 0 v28) (
         cnd (ieq v28 w26) (
          some true) (
          some false)) (
         some false)) (
        some false)) (
       some false)) (
      some false)) (
     some false)) (
    some true)) (
   some true)
noncomputable def laws_FnExactPaintMask_e (q : (TSurface) × (TMask) × (TPaint) × (Int) × (Int)) : List AV × List Ob := ([AV.agg [AV.int .i64 q.1.w, AV.int .i64 q.1.h, AV.fsl (List.map eColor q.1.pix)], AV.agg [AV.int .i64 q.2.1.box.x0, AV.int .i64 q.2.1.box.y0, AV.int .i64 q.2.1.box.x1, AV.int .i64 q.2.1.box.y1, AV.fsl (List.map (AV.int .i64) q.2.1.bits)], AV.agg [AV.int .i64 q.2.2.1.kind, AV.int .i64 q.2.2.1.first.r, AV.int .i64 q.2.2.1.first.g, AV.int .i64 q.2.2.1.first.b, AV.int .i64 q.2.2.1.first.a, AV.int .i64 q.2.2.1.last.r, AV.int .i64 q.2.2.1.last.g, AV.int .i64 q.2.2.1.last.b, AV.int .i64 q.2.2.1.last.a, AV.int .i64 q.2.2.1.from_.x, AV.int .i64 q.2.2.1.from_.y, AV.int .i64 q.2.2.1.to.x, AV.int .i64 q.2.2.1.to.y], AV.int .i64 q.2.2.2.1, AV.int .i64 q.2.2.2.2], [])
noncomputable def laws_FnExactPaintMask_v (q : (TSurface) × (TMask) × (TPaint) × (Int) × (Int)) (r : (Bool)) : AV × List Ob := (AV.bool r, [])
noncomputable def laws_FnExactPaintMask_x : List AV → List Ob → Option (AV × List Ob) := xOf laws_FnExactPaintMask_e (fun q => laws_FnExactPaintMask q.1 q.2.1 q.2.2.1 q.2.2.2.1 q.2.2.2.2) laws_FnExactPaintMask_v
theorem laws_FnExactPaintMask_i : ∀ a b, laws_FnExactPaintMask_e a = laws_FnExactPaintMask_e b → a = b := by rintro ⟨⟨x0, x1, x2⟩, ⟨⟨x3, x4, x5, x6⟩, x7⟩, ⟨x8, ⟨x9, x10, x11, x12⟩, ⟨x13, x14, x15, x16⟩, ⟨x17, x18⟩, ⟨x19, x20⟩⟩, x21, x22⟩ ⟨⟨y0, y1, y2⟩, ⟨⟨y3, y4, y5, y6⟩, y7⟩, ⟨y8, ⟨y9, y10, y11, y12⟩, ⟨y13, y14, y15, y16⟩, ⟨y17, y18⟩, ⟨y19, y20⟩⟩, y21, y22⟩ h; simp [laws_FnExactPaintMask_e] at h; simp [h]
@[simp] theorem laws_FnExactPaintMask_k (z0 : Int) (z1 : Int) (z2 : List TColor) (z3 : Int) (z4 : Int) (z5 : Int) (z6 : Int) (z7 : List Int) (z8 : Int) (z9 : Int) (z10 : Int) (z11 : Int) (z12 : Int) (z13 : Int) (z14 : Int) (z15 : Int) (z16 : Int) (z17 : Int) (z18 : Int) (z19 : Int) (z20 : Int) (z21 : Int) (z22 : Int) : laws_FnExactPaintMask_x [AV.agg [AV.int .i64 z0, AV.int .i64 z1, AV.fsl (List.map eColor z2)], AV.agg [AV.int .i64 z3, AV.int .i64 z4, AV.int .i64 z5, AV.int .i64 z6, AV.fsl (List.map (AV.int .i64) z7)], AV.agg [AV.int .i64 z8, AV.int .i64 z9, AV.int .i64 z10, AV.int .i64 z11, AV.int .i64 z12, AV.int .i64 z13, AV.int .i64 z14, AV.int .i64 z15, AV.int .i64 z16, AV.int .i64 z17, AV.int .i64 z18, AV.int .i64 z19, AV.int .i64 z20], AV.int .i64 z21, AV.int .i64 z22] [] = mapR (laws_FnExactPaintMask ⟨z0, z1, z2⟩ ⟨⟨z3, z4, z5, z6⟩, z7⟩ ⟨z8, ⟨z9, z10, z11, z12⟩, ⟨z13, z14, z15, z16⟩, ⟨z17, z18⟩, ⟨z19, z20⟩⟩ z21 z22) (fun r => (AV.bool r, [])) :=
  xOf_eq laws_FnExactPaintMask_i (⟨z0, z1, z2⟩, ⟨⟨z3, z4, z5, z6⟩, z7⟩, ⟨z8, ⟨z9, z10, z11, z12⟩, ⟨z13, z14, z15, z16⟩, ⟨z17, z18⟩, ⟨z19, z20⟩⟩, z21, z22)
end Go.Proofs.Ytoafihhhdnmliaa.Am
