import Derived.Test.YtoafihhhdnmliaaAmK1Ty
set_option linter.unusedVariables false
set_option linter.unusedSimpArgs false
set_option linter.unusedSectionVars false
namespace Go.Proofs.Ytoafihhhdnmliaa.Am
open Go Go.Proofs
set_option maxRecDepth 100000
set_option linter.unusedSimpArgs false
set_option linter.unusedVariables false
set_option maxHeartbeats 4000000
/-! laws_szIntS: function 80 -/
noncomputable def laws_szIntS (a0 : List Int) (a1 : Int) : Option ((Int)) :=
  cnd (ile 0 (IntKind.i64.wrap (a1 - (List.length a0 : Int)))) (
   some (IntKind.i64.wrap (a1 - (List.length a0 : Int)))) (
   some (-1))
noncomputable def laws_szIntS_e (q : (List Int) × (Int)) : List AV × List Ob := ([AV.fsl (List.map (AV.int .i64) q.1), AV.int .i64 q.2], [])
noncomputable def laws_szIntS_v (q : (List Int) × (Int)) (r : (Int)) : AV × List Ob := (AV.int .i64 r, [])
noncomputable def laws_szIntS_x : List AV → List Ob → Option (AV × List Ob) := xOf laws_szIntS_e (fun q => laws_szIntS q.1 q.2) laws_szIntS_v
theorem laws_szIntS_i : ∀ a b, laws_szIntS_e a = laws_szIntS_e b → a = b := by rintro ⟨x0, x1⟩ ⟨y0, y1⟩ h; simp [laws_szIntS_e] at h; simp [h]
@[simp] theorem laws_szIntS_k (z0 : List Int) (z1 : Int) : laws_szIntS_x [AV.fsl (List.map (AV.int .i64) z0), AV.int .i64 z1] [] = mapR (laws_szIntS z0 z1) (fun r => (AV.int .i64 r, [])) :=
  xOf_eq laws_szIntS_i (z0, z1)
/-! laws_szMask: function 66 -/
noncomputable def laws_szMask (a0 : TMask) (a1 : Int) : Option ((Int)) :=
  bnd (laws_szIntS a0.bits a1) fun v1 =>
  cnd (ile 0 v1) (
   some v1) (
   some (-1))
noncomputable def laws_szMask_e (q : (TMask) × (Int)) : List AV × List Ob := ([AV.agg [AV.int .i64 q.1.box.x0, AV.int .i64 q.1.box.y0, AV.int .i64 q.1.box.x1, AV.int .i64 q.1.box.y1, AV.fsl (List.map (AV.int .i64) q.1.bits)], AV.int .i64 q.2], [])
noncomputable def laws_szMask_v (q : (TMask) × (Int)) (r : (Int)) : AV × List Ob := (AV.int .i64 r, [])
noncomputable def laws_szMask_x : List AV → List Ob → Option (AV × List Ob) := xOf laws_szMask_e (fun q => laws_szMask q.1 q.2) laws_szMask_v
theorem laws_szMask_i : ∀ a b, laws_szMask_e a = laws_szMask_e b → a = b := by rintro ⟨⟨⟨x0, x1, x2, x3⟩, x4⟩, x5⟩ ⟨⟨⟨y0, y1, y2, y3⟩, y4⟩, y5⟩ h; simp [laws_szMask_e] at h; simp [h]
@[simp] theorem laws_szMask_k (z0 : Int) (z1 : Int) (z2 : Int) (z3 : Int) (z4 : List Int) (z5 : Int) : laws_szMask_x [AV.agg [AV.int .i64 z0, AV.int .i64 z1, AV.int .i64 z2, AV.int .i64 z3, AV.fsl (List.map (AV.int .i64) z4)], AV.int .i64 z5] [] = mapR (laws_szMask ⟨⟨z0, z1, z2, z3⟩, z4⟩ z5) (fun r => (AV.int .i64 r, [])) :=
  xOf_eq laws_szMask_i (⟨⟨z0, z1, z2, z3⟩, z4⟩, z5)
/-! laws_szKept: function 147 -/
noncomputable def laws_szKept (a0 : TKept) (a1 : Int) : Option ((Int)) :=
  bnd (laws_szMask a0.mask a1) fun v1 =>
  cnd (ile 0 v1) (
   some v1) (
   some (-1))
noncomputable def laws_szKept_e (q : (TKept) × (Int)) : List AV × List Ob := ([AV.agg [AV.int .i64 q.1.id, AV.int .i64 q.1.mask.box.x0, AV.int .i64 q.1.mask.box.y0, AV.int .i64 q.1.mask.box.x1, AV.int .i64 q.1.mask.box.y1, AV.fsl (List.map (AV.int .i64) q.1.mask.bits)], AV.int .i64 q.2], [])
noncomputable def laws_szKept_v (q : (TKept) × (Int)) (r : (Int)) : AV × List Ob := (AV.int .i64 r, [])
noncomputable def laws_szKept_x : List AV → List Ob → Option (AV × List Ob) := xOf laws_szKept_e (fun q => laws_szKept q.1 q.2) laws_szKept_v
theorem laws_szKept_i : ∀ a b, laws_szKept_e a = laws_szKept_e b → a = b := by rintro ⟨⟨x0, ⟨⟨x1, x2, x3, x4⟩, x5⟩⟩, x6⟩ ⟨⟨y0, ⟨⟨y1, y2, y3, y4⟩, y5⟩⟩, y6⟩ h; simp [laws_szKept_e] at h; simp [h]
@[simp] theorem laws_szKept_k (z0 : Int) (z1 : Int) (z2 : Int) (z3 : Int) (z4 : Int) (z5 : List Int) (z6 : Int) : laws_szKept_x [AV.agg [AV.int .i64 z0, AV.int .i64 z1, AV.int .i64 z2, AV.int .i64 z3, AV.int .i64 z4, AV.fsl (List.map (AV.int .i64) z5)], AV.int .i64 z6] [] = mapR (laws_szKept ⟨z0, ⟨⟨z1, z2, z3, z4⟩, z5⟩⟩ z6) (fun r => (AV.int .i64 r, [])) :=
  xOf_eq laws_szKept_i (⟨z0, ⟨⟨z1, z2, z3, z4⟩, z5⟩⟩, z6)
/-! laws_szKeptS: function 72 -/
noncomputable def laws_szKeptS_l0 (a0 : List TKept) : ((Int) × (Int)) → Option (((Int) × (Int)) ⊕ (((Int)) ⊕ (Unit))) := fun (x3, x4) =>
  cnd (ile (List.length a0 : Int) x4) (
   some (.inr (.inl x3))) (
   bnd (idx a0 x4) fun v5 =>
   bnd (laws_szKept v5 x3) fun v6 =>
   cnd (ile 0 v6) (
    some (.inl (v6, (IntKind.i64.wrap (x4 + 1))))) (
    some (.inr (.inr ()))))
noncomputable def laws_szKeptS_l0_S (a0 : List TKept) : ((Int) × (Int)) → St := fun (x3, x4) => ⟨[(0, AV.fsl (List.map eKept a0)), (1, AV.int .i64 x3), (5, AV.int .i64 x4)], [], 0⟩
noncomputable def laws_szKeptS_l0_X (a0 : List TKept) : (((Int)) ⊕ (Unit)) → Ex × St := fun q => match q with
  | .inl y7 => ((.exit 0), ⟨[(1, AV.int .i64 y7)], [], 0⟩)
  | .inr _ => (.ret, ⟨[(4, AV.int .i64 (-1))], [], 0⟩)
noncomputable def laws_szKeptS (a0 : List TKept) (a1 : Int) : Option ((Int)) :=
  cnd (ile 0 (IntKind.i64.wrap (a1 - (List.length a0 : Int)))) (
   bnd (loopI (laws_szKeptS_l0 a0) ((IntKind.i64.wrap (a1 - (List.length a0 : Int))), 0)) fun q => match q with
   | .inl y7 =>
    some y7
   | .inr () =>
    some (-1)) (
   some (-1))
noncomputable def laws_szKeptS_e (q : (List TKept) × (Int)) : List AV × List Ob := ([AV.fsl (List.map eKept q.1), AV.int .i64 q.2], [])
noncomputable def laws_szKeptS_v (q : (List TKept) × (Int)) (r : (Int)) : AV × List Ob := (AV.int .i64 r, [])
noncomputable def laws_szKeptS_x : List AV → List Ob → Option (AV × List Ob) := xOf laws_szKeptS_e (fun q => laws_szKeptS q.1 q.2) laws_szKeptS_v
theorem laws_szKeptS_i : ∀ a b, laws_szKeptS_e a = laws_szKeptS_e b → a = b := by rintro ⟨x0, x1⟩ ⟨y0, y1⟩ h; simp [laws_szKeptS_e] at h; simp [h]
@[simp] theorem laws_szKeptS_k (z0 : List TKept) (z1 : Int) : laws_szKeptS_x [AV.fsl (List.map eKept z0), AV.int .i64 z1] [] = mapR (laws_szKeptS z0 z1) (fun r => (AV.int .i64 r, [])) :=
  xOf_eq laws_szKeptS_i (z0, z1)
/-! laws_szCache: function 12 -/
noncomputable def laws_szCache (a0 : TCache) (a1 : Int) : Option ((Int)) :=
  bnd (laws_szKeptS a0.list a1) fun v1 =>
  cnd (ile 0 v1) (
   some v1) (
   some (-1))
noncomputable def laws_szCache_e (q : (TCache) × (Int)) : List AV × List Ob := ([AV.agg [AV.int .i64 q.1.most, AV.fsl (List.map eKept q.1.list)], AV.int .i64 q.2], [])
noncomputable def laws_szCache_v (q : (TCache) × (Int)) (r : (Int)) : AV × List Ob := (AV.int .i64 r, [])
noncomputable def laws_szCache_x : List AV → List Ob → Option (AV × List Ob) := xOf laws_szCache_e (fun q => laws_szCache q.1 q.2) laws_szCache_v
theorem laws_szCache_i : ∀ a b, laws_szCache_e a = laws_szCache_e b → a = b := by rintro ⟨⟨x0, x1⟩, x2⟩ ⟨⟨y0, y1⟩, y2⟩ h; simp [laws_szCache_e] at h; simp [h]
@[simp] theorem laws_szCache_k (z0 : Int) (z1 : List TKept) (z2 : Int) : laws_szCache_x [AV.agg [AV.int .i64 z0, AV.fsl (List.map eKept z1)], AV.int .i64 z2] [] = mapR (laws_szCache ⟨z0, z1⟩ z2) (fun r => (AV.int .i64 r, [])) :=
  xOf_eq laws_szCache_i (⟨z0, z1⟩, z2)
/-! laws_toBox: function 137 -/
noncomputable def laws_toBox (a0 : TBox) : Option ((TBox)) :=
  some a0
noncomputable def laws_toBox_e (q : (TBox)) : List AV × List Ob := ([AV.agg [AV.int .i64 q.x0, AV.int .i64 q.y0, AV.int .i64 q.x1, AV.int .i64 q.y1]], [])
noncomputable def laws_toBox_v (q : (TBox)) (r : (TBox)) : AV × List Ob := (AV.agg [AV.int .i64 r.x0, AV.int .i64 r.y0, AV.int .i64 r.x1, AV.int .i64 r.y1], [])
noncomputable def laws_toBox_x : List AV → List Ob → Option (AV × List Ob) := xOf laws_toBox_e (fun q => laws_toBox q) laws_toBox_v
theorem laws_toBox_i : ∀ a b, laws_toBox_e a = laws_toBox_e b → a = b := by rintro ⟨x0, x1, x2, x3⟩ ⟨y0, y1, y2, y3⟩ h; simp [laws_toBox_e] at h; simp [h]
@[simp] theorem laws_toBox_k (z0 : Int) (z1 : Int) (z2 : Int) (z3 : Int) : laws_toBox_x [AV.agg [AV.int .i64 z0, AV.int .i64 z1, AV.int .i64 z2, AV.int .i64 z3]] [] = mapR (laws_toBox ⟨z0, z1, z2, z3⟩) (fun r => (AV.agg [AV.int .i64 r.x0, AV.int .i64 r.y0, AV.int .i64 r.x1, AV.int .i64 r.y1], [])) :=
  xOf_eq laws_toBox_i ⟨z0, z1, z2, z3⟩
/-! laws_toIntS: function 86 -/
noncomputable def laws_toIntS_l0 (a0 : List Int) : ((Int) × (List Int)) → Option (((Int) × (List Int)) ⊕ ((List Int))) := fun (x5, x6) =>
  cnd (ile (List.length a0 : Int) x5) (
   some (.inr x6)) (
   bnd (idx a0 x5) fun v7 =>
   bnd (idx x6 x5) fun v8 =>
   nam ((List.set x6 (Int.toNat x5) v7) : List Int) fun l9 =>
   some (.inl ((IntKind.i64.wrap (x5 + 1)), l9)))
noncomputable def laws_toIntS_l0_S (a0 : List Int) : ((Int) × (List Int)) → St := fun (x5, x6) => ⟨[(0, AV.fsl (List.map (AV.int .i64) a0)), (3, AV.osl 0 0 (List.length x6) (List.length x6)), (4, AV.int .i64 x5)], [(0, Ob.arr 1 (List.map (AV.int .i64) x6) false)], 1⟩
noncomputable def laws_toIntS_l0_X (a0 : List Int) : ((List Int)) → Ex × St := fun y10 => ((.exit 0), ⟨[(3, AV.osl 0 0 (List.length y10) (List.length y10))], [(0, Ob.arr 1 (List.map (AV.int .i64) y10) false)], 1⟩)
noncomputable def laws_toIntS (a0 : List Int) : Option ((List Int)) :=
  chkP (0 ≤ (List.length a0 : Int) ∧ (List.length a0 : Int) ≤ (List.length a0 : Int) ∧ (List.length a0 : Int) ≤ 17592186044416 ∧ (List.length a0 : Int) * 8 ≤ 17592186044416) (
  nam ((List.replicate (Int.toNat (List.length a0 : Int)) 0) : List Int) fun l1 =>
  bnd (loopI (laws_toIntS_l0 a0) (0, l1)) fun y10 =>
  some y10)
noncomputable def laws_toIntS_e (q : (List Int)) : List AV × List Ob := ([AV.fsl (List.map (AV.int .i64) q)], [])
noncomputable def laws_toIntS_v (q : (List Int)) (r : (List Int)) : AV × List Ob := (AV.osl 0 0 (List.length r) (List.length r), [Ob.arr 1 (List.map (AV.int .i64) r) false])
noncomputable def laws_toIntS_x : List AV → List Ob → Option (AV × List Ob) := xOf laws_toIntS_e (fun q => laws_toIntS q) laws_toIntS_v
theorem laws_toIntS_i : ∀ a b, laws_toIntS_e a = laws_toIntS_e b → a = b := by rintro x0 y0 h; simp [laws_toIntS_e] at h; simp [h]
@[simp] theorem laws_toIntS_k (z0 : List Int) : laws_toIntS_x [AV.fsl (List.map (AV.int .i64) z0)] [] = mapR (laws_toIntS z0) (fun r => (AV.osl 0 0 (List.length r) (List.length r), [Ob.arr 1 (List.map (AV.int .i64) r) false])) :=
  xOf_eq laws_toIntS_i z0
/-! laws_toMask: function 68 -/
noncomputable def laws_toMask (a0 : TMask) : Option ((TBox) × (List Int)) :=
  bnd (laws_toBox a0.box) fun v1 =>
  bnd (laws_toIntS a0.bits) fun v2 =>
  some (v1, v2)
noncomputable def laws_toMask_e (q : (TMask)) : List AV × List Ob := ([AV.agg [AV.int .i64 q.box.x0, AV.int .i64 q.box.y0, AV.int .i64 q.box.x1, AV.int .i64 q.box.y1, AV.fsl (List.map (AV.int .i64) q.bits)]], [])
noncomputable def laws_toMask_v (q : (TMask)) (r : (TBox) × (List Int)) : AV × List Ob := (AV.agg [AV.int .i64 r.1.x0, AV.int .i64 r.1.y0, AV.int .i64 r.1.x1, AV.int .i64 r.1.y1, AV.osl 0 0 (List.length r.2) (List.length r.2)], [Ob.arr 1 (List.map (AV.int .i64) r.2) false])
noncomputable def laws_toMask_x : List AV → List Ob → Option (AV × List Ob) := xOf laws_toMask_e (fun q => laws_toMask q) laws_toMask_v
theorem laws_toMask_i : ∀ a b, laws_toMask_e a = laws_toMask_e b → a = b := by rintro ⟨⟨x0, x1, x2, x3⟩, x4⟩ ⟨⟨y0, y1, y2, y3⟩, y4⟩ h; simp [laws_toMask_e] at h; simp [h]
@[simp] theorem laws_toMask_k (z0 : Int) (z1 : Int) (z2 : Int) (z3 : Int) (z4 : List Int) : laws_toMask_x [AV.agg [AV.int .i64 z0, AV.int .i64 z1, AV.int .i64 z2, AV.int .i64 z3, AV.fsl (List.map (AV.int .i64) z4)]] [] = mapR (laws_toMask ⟨⟨z0, z1, z2, z3⟩, z4⟩) (fun r => (AV.agg [AV.int .i64 r.1.x0, AV.int .i64 r.1.y0, AV.int .i64 r.1.x1, AV.int .i64 r.1.y1, AV.osl 0 0 (List.length r.2) (List.length r.2)], [Ob.arr 1 (List.map (AV.int .i64) r.2) false])) :=
  xOf_eq laws_toMask_i ⟨⟨z0, z1, z2, z3⟩, z4⟩
/-! laws_toKept: function 149 -/
noncomputable def laws_toKept (a0 : TKept) : Option ((TKept)) :=
  bnd (laws_toMask a0.mask) fun (w2, w3) =>
  some (TKept.mk a0.id (TMask.mk w2 w3))
noncomputable def laws_toKept_e (q : (TKept)) : List AV × List Ob := ([AV.agg [AV.int .i64 q.id, AV.int .i64 q.mask.box.x0, AV.int .i64 q.mask.box.y0, AV.int .i64 q.mask.box.x1, AV.int .i64 q.mask.box.y1, AV.fsl (List.map (AV.int .i64) q.mask.bits)]], [])
noncomputable def laws_toKept_v (q : (TKept)) (r : (TKept)) : AV × List Ob := (AV.agg [AV.int .i64 r.id, AV.int .i64 r.mask.box.x0, AV.int .i64 r.mask.box.y0, AV.int .i64 r.mask.box.x1, AV.int .i64 r.mask.box.y1, AV.fsl (List.map (AV.int .i64) r.mask.bits)], [])
noncomputable def laws_toKept_x : List AV → List Ob → Option (AV × List Ob) := xOf laws_toKept_e (fun q => laws_toKept q) laws_toKept_v
theorem laws_toKept_i : ∀ a b, laws_toKept_e a = laws_toKept_e b → a = b := by rintro ⟨x0, ⟨⟨x1, x2, x3, x4⟩, x5⟩⟩ ⟨y0, ⟨⟨y1, y2, y3, y4⟩, y5⟩⟩ h; simp [laws_toKept_e] at h; simp [h]
@[simp] theorem laws_toKept_k (z0 : Int) (z1 : Int) (z2 : Int) (z3 : Int) (z4 : Int) (z5 : List Int) : laws_toKept_x [AV.agg [AV.int .i64 z0, AV.int .i64 z1, AV.int .i64 z2, AV.int .i64 z3, AV.int .i64 z4, AV.fsl (List.map (AV.int .i64) z5)]] [] = mapR (laws_toKept ⟨z0, ⟨⟨z1, z2, z3, z4⟩, z5⟩⟩) (fun r => (AV.agg [AV.int .i64 r.id, AV.int .i64 r.mask.box.x0, AV.int .i64 r.mask.box.y0, AV.int .i64 r.mask.box.x1, AV.int .i64 r.mask.box.y1, AV.fsl (List.map (AV.int .i64) r.mask.bits)], [])) :=
  xOf_eq laws_toKept_i ⟨z0, ⟨⟨z1, z2, z3, z4⟩, z5⟩⟩
/-! laws_toKeptS: function 75 -/
noncomputable def laws_toKeptS_l0 (a0 : List TKept) : ((Int) × (List TKept)) → Option (((Int) × (List TKept)) ⊕ ((List TKept))) := fun (x6, x7) =>
  cnd (ile (List.length a0 : Int) x6) (
   some (.inr x7)) (
   bnd (idx a0 x6) fun v8 =>
   bnd (laws_toKept v8) fun v9 =>
   bnd (idx x7 x6) fun v10 =>
   nam ((List.set x7 (Int.toNat x6) v9) : List TKept) fun l11 =>
   some (.inl ((IntKind.i64.wrap (x6 + 1)), l11)))
noncomputable def laws_toKeptS_l0_S (a0 : List TKept) : ((Int) × (List TKept)) → St := fun (x6, x7) => ⟨[(0, AV.fsl (List.map eKept a0)), (3, AV.osl 0 0 (List.length x7) (List.length x7)), (4, AV.int .i64 x6)], [(0, Ob.arr 6 (List.map eKept x7) false)], 1⟩
noncomputable def laws_toKeptS_l0_X (a0 : List TKept) : ((List TKept)) → Ex × St := fun y12 => ((.exit 0), ⟨[(3, AV.osl 0 0 (List.length y12) (List.length y12))], [(0, Ob.arr 6 (List.map eKept y12) false)], 1⟩)
noncomputable def laws_toKeptS (a0 : List TKept) : Option ((List TKept)) :=
  chkP (0 ≤ (List.length a0 : Int) ∧ (List.length a0 : Int) ≤ (List.length a0 : Int) ∧ (List.length a0 : Int) ≤ 17592186044416 ∧ (List.length a0 : Int) * 64 ≤ 17592186044416) (
  nam ((List.replicate (Int.toNat (List.length a0 : Int)) (TKept.mk 0 (TMask.mk (TBox.mk 0 0 0 0) []))) : List TKept) fun l1 =>
  bnd (loopI (laws_toKeptS_l0 a0) (0, l1)) fun y12 =>
  some y12)
noncomputable def laws_toKeptS_e (q : (List TKept)) : List AV × List Ob := ([AV.fsl (List.map eKept q)], [])
noncomputable def laws_toKeptS_v (q : (List TKept)) (r : (List TKept)) : AV × List Ob := (AV.fsl (List.map eKept r), [])
noncomputable def laws_toKeptS_x : List AV → List Ob → Option (AV × List Ob) := xOf laws_toKeptS_e (fun q => laws_toKeptS q) laws_toKeptS_v
theorem laws_toKeptS_i : ∀ a b, laws_toKeptS_e a = laws_toKeptS_e b → a = b := by rintro x0 y0 h; simp [laws_toKeptS_e] at h; simp [h]
@[simp] theorem laws_toKeptS_k (z0 : List TKept) : laws_toKeptS_x [AV.fsl (List.map eKept z0)] [] = mapR (laws_toKeptS z0) (fun r => (AV.fsl (List.map eKept r), [])) :=
  xOf_eq laws_toKeptS_i z0
/-! laws_toCache: function 14 -/
noncomputable def laws_toCache (a0 : TCache) : Option ((TCache)) :=
  bnd (laws_toKeptS a0.list) fun v1 =>
  some (TCache.mk a0.most v1)
noncomputable def laws_toCache_e (q : (TCache)) : List AV × List Ob := ([AV.agg [AV.int .i64 q.most, AV.fsl (List.map eKept q.list)]], [])
noncomputable def laws_toCache_v (q : (TCache)) (r : (TCache)) : AV × List Ob := (AV.agg [AV.int .i64 r.most, AV.fsl (List.map eKept r.list)], [])
noncomputable def laws_toCache_x : List AV → List Ob → Option (AV × List Ob) := xOf laws_toCache_e (fun q => laws_toCache q) laws_toCache_v
theorem laws_toCache_i : ∀ a b, laws_toCache_e a = laws_toCache_e b → a = b := by rintro ⟨x0, x1⟩ ⟨y0, y1⟩ h; simp [laws_toCache_e] at h; simp [h]
@[simp] theorem laws_toCache_k (z0 : Int) (z1 : List TKept) : laws_toCache_x [AV.agg [AV.int .i64 z0, AV.fsl (List.map eKept z1)]] [] = mapR (laws_toCache ⟨z0, z1⟩) (fun r => (AV.agg [AV.int .i64 r.most, AV.fsl (List.map eKept r.list)], [])) :=
  xOf_eq laws_toCache_i ⟨z0, z1⟩
/-! spec_l01In: function 73 -/
noncomputable def spec_l01In (a0 : Int) (a1 : Int) (a2 : Int) : Option ((Bool)) :=
  cnd (ile a1 a0) (
   some (ile a0 a2)) (
   some false)
noncomputable def spec_l01In_e (q : (Int) × (Int) × (Int)) : List AV × List Ob := ([AV.int .i64 q.1, AV.int .i64 q.2.1, AV.int .i64 q.2.2], [])
noncomputable def spec_l01In_v (q : (Int) × (Int) × (Int)) (r : (Bool)) : AV × List Ob := (AV.bool r, [])
noncomputable def spec_l01In_x : List AV → List Ob → Option (AV × List Ob) := xOf spec_l01In_e (fun q => spec_l01In q.1 q.2.1 q.2.2) spec_l01In_v
theorem spec_l01In_i : ∀ a b, spec_l01In_e a = spec_l01In_e b → a = b := by rintro ⟨x0, x1, x2⟩ ⟨y0, y1, y2⟩ h; simp [spec_l01In_e] at h; simp [h]
@[simp] theorem spec_l01In_k (z0 : Int) (z1 : Int) (z2 : Int) : spec_l01In_x [AV.int .i64 z0, AV.int .i64 z1, AV.int .i64 z2] [] = mapR (spec_l01In z0 z1 z2) (fun r => (AV.bool r, [])) :=
  xOf_eq spec_l01In_i (z0, z1, z2)
/-! spec_Empty: function 84 -/
noncomputable def spec_Empty (a0 : TBox) : Option ((Bool)) :=
  cnd (ile a0.x1 a0.x0) (
   some true) (
   some (ile a0.y1 a0.y0))
noncomputable def spec_Empty_e (q : (TBox)) : List AV × List Ob := ([AV.agg [AV.int .i64 q.x0, AV.int .i64 q.y0, AV.int .i64 q.x1, AV.int .i64 q.y1]], [])
noncomputable def spec_Empty_v (q : (TBox)) (r : (Bool)) : AV × List Ob := (AV.bool r, [])
noncomputable def spec_Empty_x : List AV → List Ob → Option (AV × List Ob) := xOf spec_Empty_e (fun q => spec_Empty q) spec_Empty_v
theorem spec_Empty_i : ∀ a b, spec_Empty_e a = spec_Empty_e b → a = b := by rintro ⟨x0, x1, x2, x3⟩ ⟨y0, y1, y2, y3⟩ h; simp [spec_Empty_e] at h; simp [h]
@[simp] theorem spec_Empty_k (z0 : Int) (z1 : Int) (z2 : Int) (z3 : Int) : spec_Empty_x [AV.agg [AV.int .i64 z0, AV.int .i64 z1, AV.int .i64 z2, AV.int .i64 z3]] [] = mapR (spec_Empty ⟨z0, z1, z2, z3⟩) (fun r => (AV.bool r, [])) :=
  xOf_eq spec_Empty_i ⟨z0, z1, z2, z3⟩
/-! spec_l11Box: function 148 -/
noncomputable def spec_l11Box (a0 : TBox) : Option ((Bool)) :=
  bnd (spec_Empty a0) fun v1 =>
  cnd v1 (
   some false) (
   bnd (spec_l01In a0.x0 (-2000) 2000) fun v2 =>
   cnd v2 (
    bnd (spec_l01In a0.y0 (-2000) 2000) fun v3 =>
    cnd v3 (
     bnd (spec_l01In a0.x1 (-2000) 2000) fun v4 =>
     cnd v4 (
      bnd (spec_l01In a0.y1 (-2000) 2000) fun v5 =>
      cnd v5 (
       cnd (ile (IntKind.i64.wrap (a0.x1 - a0.x0)) 60) (
        some (ile (IntKind.i64.wrap (a0.y1 - a0.y0)) 60)) (
        some false)) (
       some false)) (
      some false)) (
     some false)) (
    some false))
noncomputable def spec_l11Box_e (q : (TBox)) : List AV × List Ob := ([AV.agg [AV.int .i64 q.x0, AV.int .i64 q.y0, AV.int .i64 q.x1, AV.int .i64 q.y1]], [])
noncomputable def spec_l11Box_v (q : (TBox)) (r : (Bool)) : AV × List Ob := (AV.bool r, [])
noncomputable def spec_l11Box_x : List AV → List Ob → Option (AV × List Ob) := xOf spec_l11Box_e (fun q => spec_l11Box q) spec_l11Box_v
theorem spec_l11Box_i : ∀ a b, spec_l11Box_e a = spec_l11Box_e b → a = b := by rintro ⟨x0, x1, x2, x3⟩ ⟨y0, y1, y2, y3⟩ h; simp [spec_l11Box_e] at h; simp [h]
@[simp] theorem spec_l11Box_k (z0 : Int) (z1 : Int) (z2 : Int) (z3 : Int) : spec_l11Box_x [AV.agg [AV.int .i64 z0, AV.int .i64 z1, AV.int .i64 z2, AV.int .i64 z3]] [] = mapR (spec_l11Box ⟨z0, z1, z2, z3⟩) (fun r => (AV.bool r, [])) :=
  xOf_eq spec_l11Box_i ⟨z0, z1, z2, z3⟩
/-! spec_MaskOk: function 74 -/
noncomputable def spec_MaskOk_l0 (a0 : TMask) : ((Int)) → Option (((Int)) ⊕ ((Unit) ⊕ (Unit))) := fun x4 =>
  cnd (ile (List.length a0.bits : Int) x4) (
   some (.inr (.inl ()))) (
   bnd (idx a0.bits x4) fun v5 =>
   bnd (spec_l01In v5 0 15) fun v6 =>
   cnd v6 (
    some (.inl (IntKind.i64.wrap (x4 + 1)))) (
    some (.inr (.inr ()))))
noncomputable def spec_MaskOk_l0_S (a0 : TMask) : ((Int)) → St := fun x4 => ⟨[(1, AV.optr 0 0 5), (3, AV.int .i64 x4)], [(0, Ob.box [AV.int .i64 a0.box.x0, AV.int .i64 a0.box.y0, AV.int .i64 a0.box.x1, AV.int .i64 a0.box.y1, AV.fsl (List.map (AV.int .i64) a0.bits)])], 1⟩
noncomputable def spec_MaskOk_l0_X (a0 : TMask) : ((Unit) ⊕ (Unit)) → Ex × St := fun q => match q with
  | .inl _ => ((.exit 0), ⟨[], [], 0⟩)
  | .inr _ => (.ret, ⟨[(2, AV.bool false)], [], 0⟩)
noncomputable def spec_MaskOk (a0 : TMask) : Option ((Bool)) :=
  cnd (ieq (List.length a0.bits : Int) 0) (
   some (andB (decide (a0.box.x0 = 0)) (andB (decide (a0.box.y0 = 0)) (andB (decide (a0.box.x1 = 0)) (andB (decide (a0.box.y1 = 0)) true))))) (
   bnd (spec_l11Box a0.box) fun v1 =>
   cnd v1 (
    cnd (ieq (List.length a0.bits : Int) (IntKind.i64.wrap ((IntKind.i64.wrap (a0.box.x1 - a0.box.x0)) * (IntKind.i64.wrap (a0.box.y1 - a0.box.y0))))) (
     bnd (loopI (spec_MaskOk_l0 a0) 0) fun q => match q with
     | .inl () =>
      some true
     | .inr () =>
      some false) (
     some false)) (
    some false))
noncomputable def spec_MaskOk_e (q : (TMask)) : List AV × List Ob := ([AV.agg [AV.int .i64 q.box.x0, AV.int .i64 q.box.y0, AV.int .i64 q.box.x1, AV.int .i64 q.box.y1, AV.fsl (List.map (AV.int .i64) q.bits)]], [])
noncomputable def spec_MaskOk_v (q : (TMask)) (r : (Bool)) : AV × List Ob := (AV.bool r, [])
noncomputable def spec_MaskOk_x : List AV → List Ob → Option (AV × List Ob) := xOf spec_MaskOk_e (fun q => spec_MaskOk q) spec_MaskOk_v
theorem spec_MaskOk_i : ∀ a b, spec_MaskOk_e a = spec_MaskOk_e b → a = b := by rintro ⟨⟨x0, x1, x2, x3⟩, x4⟩ ⟨⟨y0, y1, y2, y3⟩, y4⟩ h; simp [spec_MaskOk_e] at h; simp [h]
@[simp] theorem spec_MaskOk_k (z0 : Int) (z1 : Int) (z2 : Int) (z3 : Int) (z4 : List Int) : spec_MaskOk_x [AV.agg [AV.int .i64 z0, AV.int .i64 z1, AV.int .i64 z2, AV.int .i64 z3, AV.fsl (List.map (AV.int .i64) z4)]] [] = mapR (spec_MaskOk ⟨⟨z0, z1, z2, z3⟩, z4⟩) (fun r => (AV.bool r, [])) :=
  xOf_eq spec_MaskOk_i ⟨⟨z0, z1, z2, z3⟩, z4⟩
/-! spec_CacheOk: function 13 -/
noncomputable def spec_CacheOk_l0 (a0 : TCache) (x9 : Int) : ((Int)) → Option (((Int)) ⊕ ((Unit) ⊕ (Unit))) := fun x15 =>
  cnd (ile x9 x15) (
   some (.inr (.inl ()))) (
   bnd (idx a0.list x15) fun v16 =>
   bnd (idx a0.list x9) fun v17 =>
   cnd (ieq v16.id v17.id) (
    some (.inr (.inr ()))) (
    some (.inl (IntKind.i64.wrap (x15 + 1)))))
noncomputable def spec_CacheOk_l0_S (a0 : TCache) (x9 : Int) : ((Int)) → St := fun x15 => ⟨[(1, AV.optr 0 0 2), (3, AV.int .i64 x9), (4, AV.int .i64 x15)], [(0, Ob.box [AV.int .i64 a0.most, AV.fsl (List.map eKept a0.list)])], 1⟩
noncomputable def spec_CacheOk_l0_X (a0 : TCache) (x9 : Int) : ((Unit) ⊕ (Unit)) → Ex × St := fun q => match q with
  | .inl _ => ((.exit 2), ⟨[(1, AV.optr 0 0 2), (3, AV.int .i64 x9)], [(0, Ob.box [AV.int .i64 a0.most, AV.fsl (List.map eKept a0.list)])], 1⟩)
  | .inr _ => (.ret, ⟨[(2, AV.bool false)], [], 0⟩)
noncomputable def spec_CacheOk_l1 (a0 : TCache) : ((Int)) → Option (((Int)) ⊕ ((Unit) ⊕ (Unit))) := fun x9 =>
  cnd (ile (List.length a0.list : Int) x9) (
   some (.inr (.inl ()))) (
   bnd (idx a0.list x9) fun v10 =>
   bnd (spec_l01In v10.id 1 99) fun v11 =>
   cnd v11 (
    bnd (spec_MaskOk v10.mask) fun v12 =>
    cnd v12 (
     bnd (loopI (spec_CacheOk_l0 a0 x9) 0) fun q => match q with
     | .inl () =>
      some (.inl (IntKind.i64.wrap (x9 + 1)))
     | .inr () =>
      some (.inr (.inr ()))) (
     some (.inr (.inr ())))) (
    some (.inr (.inr ()))))
noncomputable def spec_CacheOk_l1_S (a0 : TCache) : ((Int)) → St := fun x9 => ⟨[(1, AV.optr 0 0 2), (3, AV.int .i64 x9)], [(0, Ob.box [AV.int .i64 a0.most, AV.fsl (List.map eKept a0.list)])], 1⟩
noncomputable def spec_CacheOk_l1_X (a0 : TCache) : ((Unit) ⊕ (Unit)) → Ex × St := fun q => match q with
  | .inl _ => ((.exit 0), ⟨[], [], 0⟩)
  | .inr _ => (.ret, ⟨[(2, AV.bool false)], [], 0⟩)
noncomputable def spec_CacheOk (a0 : TCache) : Option ((Bool)) :=
  bnd (spec_l01In a0.most 1 8) fun v1 =>
  cnd v1 (
   cnd (ile (List.length a0.list : Int) a0.most) (
    bnd (loopI (spec_CacheOk_l1 a0) 0) fun q => match q with
    | .inl () =>
     some true
    | .inr () =>
     some false) (
    some false)) (
   some false)
noncomputable def spec_CacheOk_e (q : (TCache)) : List AV × List Ob := ([AV.agg [AV.int .i64 q.most, AV.fsl (List.map eKept q.list)]], [])
noncomputable def spec_CacheOk_v (q : (TCache)) (r : (Bool)) : AV × List Ob := (AV.bool r, [])
noncomputable def spec_CacheOk_x : List AV → List Ob → Option (AV × List Ob) := xOf spec_CacheOk_e (fun q => spec_CacheOk q) spec_CacheOk_v
theorem spec_CacheOk_i : ∀ a b, spec_CacheOk_e a = spec_CacheOk_e b → a = b := by rintro ⟨x0, x1⟩ ⟨y0, y1⟩ h; simp [spec_CacheOk_e] at h; simp [h]
@[simp] theorem spec_CacheOk_k (z0 : Int) (z1 : List TKept) : spec_CacheOk_x [AV.agg [AV.int .i64 z0, AV.fsl (List.map eKept z1)]] [] = mapR (spec_CacheOk ⟨z0, z1⟩) (fun r => (AV.bool r, [])) :=
  xOf_eq spec_CacheOk_i ⟨z0, z1⟩
/-! impl_inRange: function 76 -/
noncomputable def impl_inRange (a0 : Int) (a1 : Int) (a2 : Int) : Option ((Bool)) :=
  cnd (ile a1 a0) (
   some (ile a0 a2)) (
   some false)
noncomputable def impl_inRange_e (q : (Int) × (Int) × (Int)) : List AV × List Ob := ([AV.int .i64 q.1, AV.int .i64 q.2.1, AV.int .i64 q.2.2], [])
noncomputable def impl_inRange_v (q : (Int) × (Int) × (Int)) (r : (Bool)) : AV × List Ob := (AV.bool r, [])
noncomputable def impl_inRange_x : List AV → List Ob → Option (AV × List Ob) := xOf impl_inRange_e (fun q => impl_inRange q.1 q.2.1 q.2.2) impl_inRange_v
theorem impl_inRange_i : ∀ a b, impl_inRange_e a = impl_inRange_e b → a = b := by rintro ⟨x0, x1, x2⟩ ⟨y0, y1, y2⟩ h; simp [impl_inRange_e] at h; simp [h]
@[simp] theorem impl_inRange_k (z0 : Int) (z1 : Int) (z2 : Int) : impl_inRange_x [AV.int .i64 z0, AV.int .i64 z1, AV.int .i64 z2] [] = mapR (impl_inRange z0 z1 z2) (fun r => (AV.bool r, [])) :=
  xOf_eq impl_inRange_i (z0, z1, z2)
/-! impl_Cache_keptAt_1: function 151 -/
noncomputable def impl_Cache_keptAt_1 (a0 : TKept) (a1 : Int) : Option ((Bool)) :=
  some (ieq a0.id a1)
noncomputable def impl_Cache_keptAt_1_e (q : (TKept) × (Int)) : List AV × List Ob := ([AV.agg [AV.int .i64 q.1.id, AV.int .i64 q.1.mask.box.x0, AV.int .i64 q.1.mask.box.y0, AV.int .i64 q.1.mask.box.x1, AV.int .i64 q.1.mask.box.y1, AV.fsl (List.map (AV.int .i64) q.1.mask.bits)], AV.fptr [AV.int .i64 q.2] 0], [])
noncomputable def impl_Cache_keptAt_1_v (q : (TKept) × (Int)) (r : (Bool)) : AV × List Ob := (AV.bool r, [])
noncomputable def impl_Cache_keptAt_1_x : List AV → List Ob → Option (AV × List Ob) := xOf impl_Cache_keptAt_1_e (fun q => impl_Cache_keptAt_1 q.1 q.2) impl_Cache_keptAt_1_v
theorem impl_Cache_keptAt_1_i : ∀ a b, impl_Cache_keptAt_1_e a = impl_Cache_keptAt_1_e b → a = b := by rintro ⟨⟨x0, ⟨⟨x1, x2, x3, x4⟩, x5⟩⟩, x6⟩ ⟨⟨y0, ⟨⟨y1, y2, y3, y4⟩, y5⟩⟩, y6⟩ h; simp [impl_Cache_keptAt_1_e] at h; simp [h]
@[simp] theorem impl_Cache_keptAt_1_k (z0 : Int) (z1 : Int) (z2 : Int) (z3 : Int) (z4 : Int) (z5 : List Int) (z6 : Int) : impl_Cache_keptAt_1_x [AV.agg [AV.int .i64 z0, AV.int .i64 z1, AV.int .i64 z2, AV.int .i64 z3, AV.int .i64 z4, AV.fsl (List.map (AV.int .i64) z5)], AV.fptr [AV.int .i64 z6] 0] [] = mapR (impl_Cache_keptAt_1 ⟨z0, ⟨⟨z1, z2, z3, z4⟩, z5⟩⟩ z6) (fun r => (AV.bool r, [])) :=
  xOf_eq impl_Cache_keptAt_1_i (⟨z0, ⟨⟨z1, z2, z3, z4⟩, z5⟩⟩, z6)
/-! slices_IndexFunc_Kept: function 150 -/
noncomputable def slices_IndexFunc_Kept_l0 (a0 : List TKept) (a1 : Int) : ((Int)) → Option (((Int)) ⊕ ((Unit) ⊕ ((Int)))) := fun x3 =>
  cnd (ile (List.length a0 : Int) x3) (
   some (.inr (.inl ()))) (
   bnd (idx a0 x3) fun v4 =>
   bnd (impl_Cache_keptAt_1 v4 a1) fun v5 =>
   cnd v5 (
    some (.inr (.inr x3))) (
    some (.inl (IntKind.i64.wrap (x3 + 1)))))
noncomputable def slices_IndexFunc_Kept_l0_S (a0 : List TKept) (a1 : Int) : ((Int)) → St := fun x3 => ⟨[(0, AV.fsl (List.map eKept a0)), (1, AV.func (.func 151) [] [AV.fptr [AV.int .i64 a1] 0]), (7, AV.int .i64 (List.length a0 : Int)), (8, AV.int .i64 x3)], [], 0⟩
noncomputable def slices_IndexFunc_Kept_l0_X (a0 : List TKept) (a1 : Int) : ((Unit) ⊕ ((Int))) → Ex × St := fun q => match q with
  | .inl _ => ((.exit 0), ⟨[], [], 0⟩)
  | .inr y6 => (.ret, ⟨[(4, AV.int .i64 y6)], [], 0⟩)
noncomputable def slices_IndexFunc_Kept (a0 : List TKept) (a1 : Int) : Option ((Int)) :=
  bnd (loopI (slices_IndexFunc_Kept_l0 a0 a1) 0) fun q => match q with
  | .inl () =>
   some (-1)
  | .inr y6 =>
   some y6
noncomputable def slices_IndexFunc_Kept_e (q : (List TKept) × (Int)) : List AV × List Ob := ([AV.fsl (List.map eKept q.1), AV.func (.func 151) [] [AV.fptr [AV.int .i64 q.2] 0]], [])
noncomputable def slices_IndexFunc_Kept_v (q : (List TKept) × (Int)) (r : (Int)) : AV × List Ob := (AV.int .i64 r, [])
noncomputable def slices_IndexFunc_Kept_x : List AV → List Ob → Option (AV × List Ob) := xOf slices_IndexFunc_Kept_e (fun q => slices_IndexFunc_Kept q.1 q.2) slices_IndexFunc_Kept_v
theorem slices_IndexFunc_Kept_i : ∀ a b, slices_IndexFunc_Kept_e a = slices_IndexFunc_Kept_e b → a = b := by rintro ⟨x0, x1⟩ ⟨y0, y1⟩ h; simp [slices_IndexFunc_Kept_e] at h; simp [h]
@[simp] theorem slices_IndexFunc_Kept_k (z0 : List TKept) (z1 : Int) : slices_IndexFunc_Kept_x [AV.fsl (List.map eKept z0), AV.func (.func 151) [] [AV.fptr [AV.int .i64 z1] 0]] [] = mapR (slices_IndexFunc_Kept z0 z1) (fun r => (AV.int .i64 r, [])) :=
  xOf_eq slices_IndexFunc_Kept_i (z0, z1)
/-! impl_Cache_keptAt: function 77 -/
noncomputable def impl_Cache_keptAt (a0 : TCache) (a1 : Int) : Option ((Int)) :=
  bnd (slices_IndexFunc_Kept a0.list a1) fun v1 =>
  some v1
noncomputable def impl_Cache_keptAt_e (q : (TCache) × (Int)) : List AV × List Ob := ([AV.fptr [AV.int .i64 q.1.most, AV.fsl (List.map eKept q.1.list)] 0, AV.int .i64 q.2], [])
noncomputable def impl_Cache_keptAt_v (q : (TCache) × (Int)) (r : (Int)) : AV × List Ob := (AV.int .i64 r, [])
noncomputable def impl_Cache_keptAt_x : List AV → List Ob → Option (AV × List Ob) := xOf impl_Cache_keptAt_e (fun q => impl_Cache_keptAt q.1 q.2) impl_Cache_keptAt_v
theorem impl_Cache_keptAt_i : ∀ a b, impl_Cache_keptAt_e a = impl_Cache_keptAt_e b → a = b := by rintro ⟨⟨x0, x1⟩, x2⟩ ⟨⟨y0, y1⟩, y2⟩ h; simp [impl_Cache_keptAt_e] at h; simp [h]
@[simp] theorem impl_Cache_keptAt_k (z0 : Int) (z1 : List TKept) (z2 : Int) : impl_Cache_keptAt_x [AV.fptr [AV.int .i64 z0, AV.fsl (List.map eKept z1)] 0, AV.int .i64 z2] [] = mapR (impl_Cache_keptAt ⟨z0, z1⟩ z2) (fun r => (AV.int .i64 r, [])) :=
  xOf_eq impl_Cache_keptAt_i (⟨z0, z1⟩, z2)
/-! impl_Empty: function 158 -/
noncomputable def impl_Empty (a0 : TBox) : Option ((Bool)) :=
  cnd (ile a0.x1 a0.x0) (
   some true) (
   some (ile a0.y1 a0.y0))
noncomputable def impl_Empty_e (q : (TBox)) : List AV × List Ob := ([AV.agg [AV.int .i64 q.x0, AV.int .i64 q.y0, AV.int .i64 q.x1, AV.int .i64 q.y1]], [])
noncomputable def impl_Empty_v (q : (TBox)) (r : (Bool)) : AV × List Ob := (AV.bool r, [])
noncomputable def impl_Empty_x : List AV → List Ob → Option (AV × List Ob) := xOf impl_Empty_e (fun q => impl_Empty q) impl_Empty_v
theorem impl_Empty_i : ∀ a b, impl_Empty_e a = impl_Empty_e b → a = b := by rintro ⟨x0, x1, x2, x3⟩ ⟨y0, y1, y2, y3⟩ h; simp [impl_Empty_e] at h; simp [h]
@[simp] theorem impl_Empty_k (z0 : Int) (z1 : Int) (z2 : Int) (z3 : Int) : impl_Empty_x [AV.agg [AV.int .i64 z0, AV.int .i64 z1, AV.int .i64 z2, AV.int .i64 z3]] [] = mapR (impl_Empty ⟨z0, z1, z2, z3⟩) (fun r => (AV.bool r, [])) :=
  xOf_eq impl_Empty_i ⟨z0, z1, z2, z3⟩
/-! impl_isMaskBox: function 152 -/
noncomputable def impl_isMaskBox (a0 : TBox) : Option ((Bool)) :=
  bnd (impl_Empty a0) fun v1 =>
  cnd v1 (
   some false) (
   cnd (ile (-2000) a0.x0) (
    cnd (ile (-2000) a0.y0) (
     cnd (ile a0.x1 2000) (
      cnd (ile a0.y1 2000) (
       cnd (ile (IntKind.i64.wrap (a0.x1 - a0.x0)) 60) (
        some (ile (IntKind.i64.wrap (a0.y1 - a0.y0)) 60)) (
        some false)) (
       some false)) (
      some false)) (
     some false)) (
    some false))
noncomputable def impl_isMaskBox_e (q : (TBox)) : List AV × List Ob := ([AV.agg [AV.int .i64 q.x0, AV.int .i64 q.y0, AV.int .i64 q.x1, AV.int .i64 q.y1]], [])
noncomputable def impl_isMaskBox_v (q : (TBox)) (r : (Bool)) : AV × List Ob := (AV.bool r, [])
noncomputable def impl_isMaskBox_x : List AV → List Ob → Option (AV × List Ob) := xOf impl_isMaskBox_e (fun q => impl_isMaskBox q) impl_isMaskBox_v
theorem impl_isMaskBox_i : ∀ a b, impl_isMaskBox_e a = impl_isMaskBox_e b → a = b := by rintro ⟨x0, x1, x2, x3⟩ ⟨y0, y1, y2, y3⟩ h; simp [impl_isMaskBox_e] at h; simp [h]
@[simp] theorem impl_isMaskBox_k (z0 : Int) (z1 : Int) (z2 : Int) (z3 : Int) : impl_isMaskBox_x [AV.agg [AV.int .i64 z0, AV.int .i64 z1, AV.int .i64 z2, AV.int .i64 z3]] [] = mapR (impl_isMaskBox ⟨z0, z1, z2, z3⟩) (fun r => (AV.bool r, [])) :=
  xOf_eq impl_isMaskBox_i ⟨z0, z1, z2, z3⟩
/-! impl_MaskOk: function 78 -/
noncomputable def impl_MaskOk_l0 (a0 : TMask) : ((Int)) → Option (((Int)) ⊕ ((Unit) ⊕ (Unit))) := fun x4 =>
  cnd (ile (List.length a0.bits : Int) x4) (
   some (.inr (.inl ()))) (
   bnd (idx a0.bits x4) fun v5 =>
   bnd (impl_inRange v5 0 15) fun v6 =>
   cnd v6 (
    some (.inl (IntKind.i64.wrap (x4 + 1)))) (
    some (.inr (.inr ()))))
noncomputable def impl_MaskOk_l0_S (a0 : TMask) : ((Int)) → St := fun x4 => ⟨[(39, AV.fsl (List.map (AV.int .i64) a0.bits)), (40, AV.int .i64 (List.length a0.bits : Int)), (41, AV.int .i64 x4)], [], 0⟩
noncomputable def impl_MaskOk_l0_X (a0 : TMask) : ((Unit) ⊕ (Unit)) → Ex × St := fun q => match q with
  | .inl _ => ((.exit 0), ⟨[], [], 0⟩)
  | .inr _ => (.ret, ⟨[(2, AV.bool false)], [], 0⟩)
noncomputable def impl_MaskOk (a0 : TMask) : Option ((Bool)) :=
  cnd (andB (decide (a0.box.x0 = 0)) (andB (decide (a0.box.y0 = 0)) (andB (decide (a0.box.x1 = 0)) (andB (decide (a0.box.y1 = 0)) true)))) (
   some (ieq (List.length a0.bits : Int) 0)) (
   bnd (impl_isMaskBox a0.box) fun v1 =>
   cnd v1 (
    cnd (ieq (List.length a0.bits : Int) (IntKind.i64.wrap ((IntKind.i64.wrap (a0.box.x1 - a0.box.x0)) * (IntKind.i64.wrap (a0.box.y1 - a0.box.y0))))) (
     bnd (loopI (impl_MaskOk_l0 a0) 0) fun q => match q with
     | .inl () =>
      some true
     | .inr () =>
      some false) (
     some false)) (
    some false))
noncomputable def impl_MaskOk_e (q : (TMask)) : List AV × List Ob := ([AV.agg [AV.int .i64 q.box.x0, AV.int .i64 q.box.y0, AV.int .i64 q.box.x1, AV.int .i64 q.box.y1, AV.fsl (List.map (AV.int .i64) q.bits)]], [])
noncomputable def impl_MaskOk_v (q : (TMask)) (r : (Bool)) : AV × List Ob := (AV.bool r, [])
noncomputable def impl_MaskOk_x : List AV → List Ob → Option (AV × List Ob) := xOf impl_MaskOk_e (fun q => impl_MaskOk q) impl_MaskOk_v
theorem impl_MaskOk_i : ∀ a b, impl_MaskOk_e a = impl_MaskOk_e b → a = b := by rintro ⟨⟨x0, x1, x2, x3⟩, x4⟩ ⟨⟨y0, y1, y2, y3⟩, y4⟩ h; simp [impl_MaskOk_e] at h; simp [h]
@[simp] theorem impl_MaskOk_k (z0 : Int) (z1 : Int) (z2 : Int) (z3 : Int) (z4 : List Int) : impl_MaskOk_x [AV.agg [AV.int .i64 z0, AV.int .i64 z1, AV.int .i64 z2, AV.int .i64 z3, AV.fsl (List.map (AV.int .i64) z4)]] [] = mapR (impl_MaskOk ⟨⟨z0, z1, z2, z3⟩, z4⟩) (fun r => (AV.bool r, [])) :=
  xOf_eq impl_MaskOk_i ⟨⟨z0, z1, z2, z3⟩, z4⟩
/-! impl_CacheOk: function 15 -/
noncomputable def impl_CacheOk_l0 (a0 : TCache) : ((Int)) → Option (((Int)) ⊕ ((Unit) ⊕ (Unit))) := fun x5 =>
  cnd (ile (List.length a0.list : Int) x5) (
   some (.inr (.inl ()))) (
   bnd (idx a0.list x5) fun v6 =>
   bnd (impl_inRange v6.id 1 99) fun v7 =>
   cnd v7 (
    bnd (impl_Cache_keptAt a0 v6.id) fun v8 =>
    cnd (ieq v8 x5) (
     bnd (impl_MaskOk v6.mask) fun v9 =>
     cnd v9 (
      some (.inl (IntKind.i64.wrap (x5 + 1)))) (
      some (.inr (.inr ())))) (
     some (.inr (.inr ())))) (
    some (.inr (.inr ()))))
noncomputable def impl_CacheOk_l0_S (a0 : TCache) : ((Int)) → St := fun x5 => ⟨[(1, AV.optr 0 0 2), (6, AV.fsl (List.map eKept a0.list)), (7, AV.int .i64 (List.length a0.list : Int)), (8, AV.int .i64 x5)], [(0, Ob.box [AV.int .i64 a0.most, AV.fsl (List.map eKept a0.list)])], 1⟩
noncomputable def impl_CacheOk_l0_X (a0 : TCache) : ((Unit) ⊕ (Unit)) → Ex × St := fun q => match q with
  | .inl _ => ((.exit 0), ⟨[(1, AV.optr 0 0 2)], [(0, Ob.box [AV.int .i64 a0.most, AV.fsl (List.map eKept a0.list)])], 1⟩)
  | .inr _ => (.ret, ⟨[(2, AV.bool false)], [], 0⟩)
noncomputable def impl_CacheOk (a0 : TCache) : Option ((Bool)) :=
  bnd (loopI (impl_CacheOk_l0 a0) 0) fun q => match q with
  | .inl () =>
   bnd (impl_inRange a0.most 1 8) fun v10 =>
   cnd v10 (
    some (ile (List.length a0.list : Int) a0.most)) (
    some false)
  | .inr () =>
   some false
noncomputable def impl_CacheOk_e (q : (TCache)) : List AV × List Ob := ([AV.agg [AV.int .i64 q.most, AV.fsl (List.map eKept q.list)]], [])
noncomputable def impl_CacheOk_v (q : (TCache)) (r : (Bool)) : AV × List Ob := (AV.bool r, [])
noncomputable def impl_CacheOk_x : List AV → List Ob → Option (AV × List Ob) := xOf impl_CacheOk_e (fun q => impl_CacheOk q) impl_CacheOk_v
theorem impl_CacheOk_i : ∀ a b, impl_CacheOk_e a = impl_CacheOk_e b → a = b := by rintro ⟨x0, x1⟩ ⟨y0, y1⟩ h; simp [impl_CacheOk_e] at h; simp [h]
@[simp] theorem impl_CacheOk_k (z0 : Int) (z1 : List TKept) : impl_CacheOk_x [AV.agg [AV.int .i64 z0, AV.fsl (List.map eKept z1)]] [] = mapR (impl_CacheOk ⟨z0, z1⟩) (fun r => (AV.bool r, [])) :=
  xOf_eq impl_CacheOk_i ⟨z0, z1⟩
/-! laws_eqBox: function 139 -/
noncomputable def laws_eqBox (a0 : TBox) (a1 : TBox) : Option ((Bool)) :=
  cnd (ieq a0.x0 a1.x0) (
   cnd (ieq a0.y0 a1.y0) (
    cnd (ieq a0.x1 a1.x1) (
     cnd (ieq a0.y1 a1.y1) (
      some true) (
      some false)) (
     some false)) (
    some false)) (
   some false)
noncomputable def laws_eqBox_e (q : (TBox) × (TBox)) : List AV × List Ob := ([AV.agg [AV.int .i64 q.1.x0, AV.int .i64 q.1.y0, AV.int .i64 q.1.x1, AV.int .i64 q.1.y1], AV.agg [AV.int .i64 q.2.x0, AV.int .i64 q.2.y0, AV.int .i64 q.2.x1, AV.int .i64 q.2.y1]], [])
noncomputable def laws_eqBox_v (q : (TBox) × (TBox)) (r : (Bool)) : AV × List Ob := (AV.bool r, [])
noncomputable def laws_eqBox_x : List AV → List Ob → Option (AV × List Ob) := xOf laws_eqBox_e (fun q => laws_eqBox q.1 q.2) laws_eqBox_v
theorem laws_eqBox_i : ∀ a b, laws_eqBox_e a = laws_eqBox_e b → a = b := by rintro ⟨⟨x0, x1, x2, x3⟩, ⟨x4, x5, x6, x7⟩⟩ ⟨⟨y0, y1, y2, y3⟩, ⟨y4, y5, y6, y7⟩⟩ h; simp [laws_eqBox_e] at h; simp [h]
@[simp] theorem laws_eqBox_k (z0 : Int) (z1 : Int) (z2 : Int) (z3 : Int) (z4 : Int) (z5 : Int) (z6 : Int) (z7 : Int) : laws_eqBox_x [AV.agg [AV.int .i64 z0, AV.int .i64 z1, AV.int .i64 z2, AV.int .i64 z3], AV.agg [AV.int .i64 z4, AV.int .i64 z5, AV.int .i64 z6, AV.int .i64 z7]] [] = mapR (laws_eqBox ⟨z0, z1, z2, z3⟩ ⟨z4, z5, z6, z7⟩) (fun r => (AV.bool r, [])) :=
  xOf_eq laws_eqBox_i (⟨z0, z1, z2, z3⟩, ⟨z4, z5, z6, z7⟩)
/-! laws_eqIntS: function 56 -/
noncomputable def laws_eqIntS_l0 (a0 : List Int) (a1 : List Int) : ((Int)) → Option (((Int)) ⊕ ((Unit) ⊕ (Unit))) := fun x3 =>
  cnd (ile (List.length a0 : Int) x3) (
   some (.inr (.inl ()))) (
   bnd (idx a0 x3) fun v4 =>
   bnd (idx a1 x3) fun v5 =>
   cnd (ieq v4 v5) (
    some (.inl (IntKind.i64.wrap (x3 + 1)))) (
    some (.inr (.inr ()))))
noncomputable def laws_eqIntS_l0_S (a0 : List Int) (a1 : List Int) : ((Int)) → St := fun x3 => ⟨[(0, AV.fsl (List.map (AV.int .i64) a0)), (1, AV.fsl (List.map (AV.int .i64) a1)), (5, AV.int .i64 x3)], [], 0⟩
noncomputable def laws_eqIntS_l0_X (a0 : List Int) (a1 : List Int) : ((Unit) ⊕ (Unit)) → Ex × St := fun q => match q with
  | .inl _ => ((.exit 0), ⟨[], [], 0⟩)
  | .inr _ => (.ret, ⟨[(4, AV.bool false)], [], 0⟩)
noncomputable def laws_eqIntS (a0 : List Int) (a1 : List Int) : Option ((Bool)) :=
  cnd (ieq (List.length a0 : Int) (List.length a1 : Int)) (
   bnd (loopI (laws_eqIntS_l0 a0 a1) 0) fun q => match q with
   | .inl () =>
    some true
   | .inr () =>
    some false) (
   some false)
noncomputable def laws_eqIntS_e (q : (List Int) × (List Int)) : List AV × List Ob := ([AV.fsl (List.map (AV.int .i64) q.1), AV.fsl (List.map (AV.int .i64) q.2)], [])
noncomputable def laws_eqIntS_v (q : (List Int) × (List Int)) (r : (Bool)) : AV × List Ob := (AV.bool r, [])
noncomputable def laws_eqIntS_x : List AV → List Ob → Option (AV × List Ob) := xOf laws_eqIntS_e (fun q => laws_eqIntS q.1 q.2) laws_eqIntS_v
theorem laws_eqIntS_i : ∀ a b, laws_eqIntS_e a = laws_eqIntS_e b → a = b := by rintro ⟨x0, x1⟩ ⟨y0, y1⟩ h; simp [laws_eqIntS_e] at h; simp [h]
@[simp] theorem laws_eqIntS_k (z0 : List Int) (z1 : List Int) : laws_eqIntS_x [AV.fsl (List.map (AV.int .i64) z0), AV.fsl (List.map (AV.int .i64) z1)] [] = mapR (laws_eqIntS z0 z1) (fun r => (AV.bool r, [])) :=
  xOf_eq laws_eqIntS_i (z0, z1)
/-! laws_eqMask: function 70 -/
noncomputable def laws_eqMask (a0 : TMask) (a1 : TMask) : Option ((Bool)) :=
  bnd (laws_eqBox a0.box a1.box) fun v1 =>
  cnd v1 (
   bnd (laws_eqIntS a0.bits a1.bits) fun v2 =>
   cnd v2 (
    some true) (
    some false)) (
   some false)
noncomputable def laws_eqMask_e (q : (TMask) × (TMask)) : List AV × List Ob := ([AV.agg [AV.int .i64 q.1.box.x0, AV.int .i64 q.1.box.y0, AV.int .i64 q.1.box.x1, AV.int .i64 q.1.box.y1, AV.fsl (List.map (AV.int .i64) q.1.bits)], AV.agg [AV.int .i64 q.2.box.x0, AV.int .i64 q.2.box.y0, AV.int .i64 q.2.box.x1, AV.int .i64 q.2.box.y1, AV.fsl (List.map (AV.int .i64) q.2.bits)]], [])
noncomputable def laws_eqMask_v (q : (TMask) × (TMask)) (r : (Bool)) : AV × List Ob := (AV.bool r, [])
noncomputable def laws_eqMask_x : List AV → List Ob → Option (AV × List Ob) := xOf laws_eqMask_e (fun q => laws_eqMask q.1 q.2) laws_eqMask_v
theorem laws_eqMask_i : ∀ a b, laws_eqMask_e a = laws_eqMask_e b → a = b := by rintro ⟨⟨⟨x0, x1, x2, x3⟩, x4⟩, ⟨⟨x5, x6, x7, x8⟩, x9⟩⟩ ⟨⟨⟨y0, y1, y2, y3⟩, y4⟩, ⟨⟨y5, y6, y7, y8⟩, y9⟩⟩ h; simp [laws_eqMask_e] at h; simp [h]
@[simp] theorem laws_eqMask_k (z0 : Int) (z1 : Int) (z2 : Int) (z3 : Int) (z4 : List Int) (z5 : Int) (z6 : Int) (z7 : Int) (z8 : Int) (z9 : List Int) : laws_eqMask_x [AV.agg [AV.int .i64 z0, AV.int .i64 z1, AV.int .i64 z2, AV.int .i64 z3, AV.fsl (List.map (AV.int .i64) z4)], AV.agg [AV.int .i64 z5, AV.int .i64 z6, AV.int .i64 z7, AV.int .i64 z8, AV.fsl (List.map (AV.int .i64) z9)]] [] = mapR (laws_eqMask ⟨⟨z0, z1, z2, z3⟩, z4⟩ ⟨⟨z5, z6, z7, z8⟩, z9⟩) (fun r => (AV.bool r, [])) :=
  xOf_eq laws_eqMask_i (⟨⟨z0, z1, z2, z3⟩, z4⟩, ⟨⟨z5, z6, z7, z8⟩, z9⟩)
/-! laws_eqKept: function 153 -/
noncomputable def laws_eqKept (a0 : TKept) (a1 : TKept) : Option ((Bool)) :=
  cnd (ieq a0.id a1.id) (
   bnd (laws_eqMask a0.mask a1.mask) fun v1 =>
   cnd v1 (
    some true) (
    some false)) (
   some false)
noncomputable def laws_eqKept_e (q : (TKept) × (TKept)) : List AV × List Ob := ([AV.agg [AV.int .i64 q.1.id, AV.int .i64 q.1.mask.box.x0, AV.int .i64 q.1.mask.box.y0, AV.int .i64 q.1.mask.box.x1, AV.int .i64 q.1.mask.box.y1, AV.fsl (List.map (AV.int .i64) q.1.mask.bits)], AV.agg [AV.int .i64 q.2.id, AV.int .i64 q.2.mask.box.x0, AV.int .i64 q.2.mask.box.y0, AV.int .i64 q.2.mask.box.x1, AV.int .i64 q.2.mask.box.y1, AV.fsl (List.map (AV.int .i64) q.2.mask.bits)]], [])
noncomputable def laws_eqKept_v (q : (TKept) × (TKept)) (r : (Bool)) : AV × List Ob := (AV.bool r, [])
noncomputable def laws_eqKept_x : List AV → List Ob → Option (AV × List Ob) := xOf laws_eqKept_e (fun q => laws_eqKept q.1 q.2) laws_eqKept_v
theorem laws_eqKept_i : ∀ a b, laws_eqKept_e a = laws_eqKept_e b → a = b := by rintro ⟨⟨x0, ⟨⟨x1, x2, x3, x4⟩, x5⟩⟩, ⟨x6, ⟨⟨x7, x8, x9, x10⟩, x11⟩⟩⟩ ⟨⟨y0, ⟨⟨y1, y2, y3, y4⟩, y5⟩⟩, ⟨y6, ⟨⟨y7, y8, y9, y10⟩, y11⟩⟩⟩ h; simp [laws_eqKept_e] at h; simp [h]
@[simp] theorem laws_eqKept_k (z0 : Int) (z1 : Int) (z2 : Int) (z3 : Int) (z4 : Int) (z5 : List Int) (z6 : Int) (z7 : Int) (z8 : Int) (z9 : Int) (z10 : Int) (z11 : List Int) : laws_eqKept_x [AV.agg [AV.int .i64 z0, AV.int .i64 z1, AV.int .i64 z2, AV.int .i64 z3, AV.int .i64 z4, AV.fsl (List.map (AV.int .i64) z5)], AV.agg [AV.int .i64 z6, AV.int .i64 z7, AV.int .i64 z8, AV.int .i64 z9, AV.int .i64 z10, AV.fsl (List.map (AV.int .i64) z11)]] [] = mapR (laws_eqKept ⟨z0, ⟨⟨z1, z2, z3, z4⟩, z5⟩⟩ ⟨z6, ⟨⟨z7, z8, z9, z10⟩, z11⟩⟩) (fun r => (AV.bool r, [])) :=
  xOf_eq laws_eqKept_i (⟨z0, ⟨⟨z1, z2, z3, z4⟩, z5⟩⟩, ⟨z6, ⟨⟨z7, z8, z9, z10⟩, z11⟩⟩)
/-! laws_eqKeptS: function 79 -/
noncomputable def laws_eqKeptS_l0 (a0 : List TKept) (a1 : List TKept) : ((Int)) → Option (((Int)) ⊕ ((Unit) ⊕ (Unit))) := fun x4 =>
  cnd (ile (List.length a0 : Int) x4) (
   some (.inr (.inl ()))) (
   bnd (idx a0 x4) fun v5 =>
   bnd (idx a1 x4) fun v6 =>
   bnd (laws_eqKept v5 v6) fun v7 =>
   cnd v7 (
    some (.inl (IntKind.i64.wrap (x4 + 1)))) (
    some (.inr (.inr ()))))
noncomputable def laws_eqKeptS_l0_S (a0 : List TKept) (a1 : List TKept) : ((Int)) → St := fun x4 => ⟨[(0, AV.fsl (List.map eKept a0)), (1, AV.fsl (List.map eKept a1)), (5, AV.int .i64 x4)], [], 0⟩
noncomputable def laws_eqKeptS_l0_X (a0 : List TKept) (a1 : List TKept) : ((Unit) ⊕ (Unit)) → Ex × St := fun q => match q with
  | .inl _ => ((.exit 0), ⟨[], [], 0⟩)
  | .inr _ => (.ret, ⟨[(4, AV.bool false)], [], 0⟩)
noncomputable def laws_eqKeptS (a0 : List TKept) (a1 : List TKept) : Option ((Bool)) :=
  cnd (ieq (List.length a0 : Int) (List.length a1 : Int)) (
   bnd (loopI (laws_eqKeptS_l0 a0 a1) 0) fun q => match q with
   | .inl () =>
    some true
   | .inr () =>
    some false) (
   some false)
noncomputable def laws_eqKeptS_e (q : (List TKept) × (List TKept)) : List AV × List Ob := ([AV.fsl (List.map eKept q.1), AV.fsl (List.map eKept q.2)], [])
noncomputable def laws_eqKeptS_v (q : (List TKept) × (List TKept)) (r : (Bool)) : AV × List Ob := (AV.bool r, [])
noncomputable def laws_eqKeptS_x : List AV → List Ob → Option (AV × List Ob) := xOf laws_eqKeptS_e (fun q => laws_eqKeptS q.1 q.2) laws_eqKeptS_v
theorem laws_eqKeptS_i : ∀ a b, laws_eqKeptS_e a = laws_eqKeptS_e b → a = b := by rintro ⟨x0, x1⟩ ⟨y0, y1⟩ h; simp [laws_eqKeptS_e] at h; simp [h]
@[simp] theorem laws_eqKeptS_k (z0 : List TKept) (z1 : List TKept) : laws_eqKeptS_x [AV.fsl (List.map eKept z0), AV.fsl (List.map eKept z1)] [] = mapR (laws_eqKeptS z0 z1) (fun r => (AV.bool r, [])) :=
  xOf_eq laws_eqKeptS_i (z0, z1)
/-! laws_eqCache: function 16 -/
noncomputable def laws_eqCache (a0 : TCache) (a1 : TCache) : Option ((Bool)) :=
  cnd (ieq a0.most a1.most) (
   bnd (laws_eqKeptS a0.list a1.list) fun v1 =>
   cnd v1 (
    some true) (
    some false)) (
   some false)
noncomputable def laws_eqCache_e (q : (TCache) × (TCache)) : List AV × List Ob := ([AV.agg [AV.int .i64 q.1.most, AV.fsl (List.map eKept q.1.list)], AV.agg [AV.int .i64 q.2.most, AV.fsl (List.map eKept q.2.list)]], [])
noncomputable def laws_eqCache_v (q : (TCache) × (TCache)) (r : (Bool)) : AV × List Ob := (AV.bool r, [])
noncomputable def laws_eqCache_x : List AV → List Ob → Option (AV × List Ob) := xOf laws_eqCache_e (fun q => laws_eqCache q.1 q.2) laws_eqCache_v
theorem laws_eqCache_i : ∀ a b, laws_eqCache_e a = laws_eqCache_e b → a = b := by rintro ⟨⟨x0, x1⟩, ⟨x2, x3⟩⟩ ⟨⟨y0, y1⟩, ⟨y2, y3⟩⟩ h; simp [laws_eqCache_e] at h; simp [h]
@[simp] theorem laws_eqCache_k (z0 : Int) (z1 : List TKept) (z2 : Int) (z3 : List TKept) : laws_eqCache_x [AV.agg [AV.int .i64 z0, AV.fsl (List.map eKept z1)], AV.agg [AV.int .i64 z2, AV.fsl (List.map eKept z3)]] [] = mapR (laws_eqCache ⟨z0, z1⟩ ⟨z2, z3⟩) (fun r => (AV.bool r, [])) :=
  xOf_eq laws_eqCache_i (⟨z0, z1⟩, ⟨z2, z3⟩)
/-! laws_FnExactCacheOk: function 3 -/
noncomputable def laws_FnExactCacheOk (a0 : TCache) : Option ((Bool)) :=
  bnd (laws_szCache a0 1048576) fun v1 =>
  cnd (ile 0 v1) (
   bnd (laws_toCache a0) fun v2 =>
   bnd (spec_CacheOk v2) fun v3 =>
   bnd (impl_CacheOk v2) fun v4 =>
   cnd (andB (decide (v4 = v3)) true) (
    bnd (laws_eqCache v2 v2) fun v5 =>
    cnd v5 (
     some true) (
     some false)) (
    some false)) (
   some true)
noncomputable def laws_FnExactCacheOk_e (q : (TCache)) : List AV × List Ob := ([AV.agg [AV.int .i64 q.most, AV.fsl (List.map eKept q.list)]], [])
noncomputable def laws_FnExactCacheOk_v (q : (TCache)) (r : (Bool)) : AV × List Ob := (AV.bool r, [])
noncomputable def laws_FnExactCacheOk_x : List AV → List Ob → Option (AV × List Ob) := xOf laws_FnExactCacheOk_e (fun q => laws_FnExactCacheOk q) laws_FnExactCacheOk_v
theorem laws_FnExactCacheOk_i : ∀ a b, laws_FnExactCacheOk_e a = laws_FnExactCacheOk_e b → a = b := by rintro ⟨x0, x1⟩ ⟨y0, y1⟩ h; simp [laws_FnExactCacheOk_e] at h; simp [h]
@[simp] theorem laws_FnExactCacheOk_k (z0 : Int) (z1 : List TKept) : laws_FnExactCacheOk_x [AV.agg [AV.int .i64 z0, AV.fsl (List.map eKept z1)]] [] = mapR (laws_FnExactCacheOk ⟨z0, z1⟩) (fun r => (AV.bool r, [])) :=
  xOf_eq laws_FnExactCacheOk_i ⟨z0, z1⟩
end Go.Proofs.Ytoafihhhdnmliaa.Am
