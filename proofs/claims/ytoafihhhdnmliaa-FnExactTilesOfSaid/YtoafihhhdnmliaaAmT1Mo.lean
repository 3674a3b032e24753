import Derived.Test.YtoafihhhdnmliaaAmT1Ty
set_option linter.unusedVariables false
set_option linter.unusedSimpArgs false
set_option linter.unusedSectionVars false
namespace Go.Proofs.Ytoafihhhdnmliaa.Am
open Go Go.Proofs
set_option maxRecDepth 100000
set_option linter.unusedSimpArgs false
set_option linter.unusedVariables false
set_option maxHeartbeats 4000000
/-! laws_szBoxS: function 52 -/
noncomputable def laws_szBoxS (a0 : List TBox) (a1 : Int) : Option ((Int)) :=
  cnd (ile 0 (IntKind.i64.wrap (a1 - (List.length a0 : Int)))) (
   some (IntKind.i64.wrap (a1 - (List.length a0 : Int)))) (
   some (-1))
noncomputable def laws_szBoxS_e (q : (List TBox) × (Int)) : List AV × List Ob := ([AV.fsl (List.map eBox q.1), AV.int .i64 q.2], [])
noncomputable def laws_szBoxS_v (q : (List TBox) × (Int)) (r : (Int)) : AV × List Ob := (AV.int .i64 r, [])
noncomputable def laws_szBoxS_x : List AV → List Ob → Option (AV × List Ob) := xOf laws_szBoxS_e (fun q => laws_szBoxS q.1 q.2) laws_szBoxS_v
theorem laws_szBoxS_i : ∀ a b, laws_szBoxS_e a = laws_szBoxS_e b → a = b := by rintro ⟨x0, x1⟩ ⟨y0, y1⟩ h; simp [laws_szBoxS_e] at h; simp [h]
@[simp] theorem laws_szBoxS_k (z0 : List TBox) (z1 : Int) : laws_szBoxS_x [AV.fsl (List.map eBox z0), AV.int .i64 z1] [] = mapR (laws_szBoxS z0 z1) (fun r => (AV.int .i64 r, [])) :=
  xOf_eq laws_szBoxS_i (z0, z1)
/-! laws_toBox: function 137 -/
noncomputable def laws_toBox (a0 : TBox) : Option ((TBox)) :=
  some a0
noncomputable def laws_toBox_e (q : (TBox)) : List AV × List Ob := ([AV.agg [AV.int .i64 q.x0, AV.int .i64 q.y0, AV.int .i64 q.x1, AV.int .i64 q.y1]], [])
noncomputable def laws_toBox_v (q : (TBox)) (r : (TBox)) : AV × List Ob := (AV.agg [AV.int .i64 r.x0, AV.int .i64 r.y0, AV.int .i64 r.x1, AV.int .i64 r.y1], [])
noncomputable def laws_toBox_x : List AV → List Ob → Option (AV × List Ob) := xOf laws_toBox_e (fun q => laws_toBox q) laws_toBox_v
theorem laws_toBox_i : ∀ a b, laws_toBox_e a = laws_toBox_e b → a = b := by rintro ⟨x0, x1, x2, x3⟩ ⟨y0, y1, y2, y3⟩ h; simp [laws_toBox_e] at h; simp [h]
@[simp] theorem laws_toBox_k (z0 : Int) (z1 : Int) (z2 : Int) (z3 : Int) : laws_toBox_x [AV.agg [AV.int .i64 z0, AV.int .i64 z1, AV.int .i64 z2, AV.int .i64 z3]] [] = mapR (laws_toBox ⟨z0, z1, z2, z3⟩) (fun r => (AV.agg [AV.int .i64 r.x0, AV.int .i64 r.y0, AV.int .i64 r.x1, AV.int .i64 r.y1], [])) :=
  xOf_eq laws_toBox_i ⟨z0, z1, z2, z3⟩
/-! laws_toBoxS: function 54 -/
noncomputable def laws_toBoxS_l0 (a0 : List TBox) : ((Int) × (List TBox)) → Option (((Int) × (List TBox)) ⊕ ((List TBox))) := fun (x6, x7) =>
  cnd (ile (List.length a0 : Int) x6) (
   some (.inr x7)) (
   bnd (idx a0 x6) fun v8 =>
   bnd (laws_toBox v8) fun v9 =>
   bnd (idx x7 x6) fun v10 =>
   nam ((List.set x7 (Int.toNat x6) v9) : List TBox) fun l11 =>
   some (.inl ((IntKind.i64.wrap (x6 + 1)), l11)))
noncomputable def laws_toBoxS_l0_S (a0 : List TBox) : ((Int) × (List TBox)) → St := fun (x6, x7) => ⟨[(0, AV.fsl (List.map eBox a0)), (3, AV.osl 0 0 (List.length x7) (List.length x7)), (4, AV.int .i64 x6)], [(0, Ob.arr 4 (List.map eBox x7) false)], 1⟩
noncomputable def laws_toBoxS_l0_X (a0 : List TBox) : ((List TBox)) → Ex × St := fun y12 => ((.exit 0), ⟨[(3, AV.osl 0 0 (List.length y12) (List.length y12))], [(0, Ob.arr 4 (List.map eBox y12) false)], 1⟩)
noncomputable def laws_toBoxS (a0 : List TBox) : Option ((List TBox)) :=
  chkP (0 ≤ (List.length a0 : Int) ∧ (List.length a0 : Int) ≤ (List.length a0 : Int) ∧ (List.length a0 : Int) ≤ 17592186044416 ∧ (List.length a0 : Int) * 32 ≤ 17592186044416) (
  nam ((List.replicate (Int.toNat (List.length a0 : Int)) (TBox.mk 0 0 0 0)) : List TBox) fun l1 =>
  bnd (loopI (laws_toBoxS_l0 a0) (0, l1)) fun y12 =>
  some y12)
noncomputable def laws_toBoxS_e (q : (List TBox)) : List AV × List Ob := ([AV.fsl (List.map eBox q)], [])
noncomputable def laws_toBoxS_v (q : (List TBox)) (r : (List TBox)) : AV × List Ob := (AV.osl 0 0 (List.length r) (List.length r), [Ob.arr 4 (List.map eBox r) false])
noncomputable def laws_toBoxS_x : List AV → List Ob → Option (AV × List Ob) := xOf laws_toBoxS_e (fun q => laws_toBoxS q) laws_toBoxS_v
theorem laws_toBoxS_i : ∀ a b, laws_toBoxS_e a = laws_toBoxS_e b → a = b := by rintro x0 y0 h; simp [laws_toBoxS_e] at h; simp [h]
@[simp] theorem laws_toBoxS_k (z0 : List TBox) : laws_toBoxS_x [AV.fsl (List.map eBox z0)] [] = mapR (laws_toBoxS z0) (fun r => (AV.osl 0 0 (List.length r) (List.length r), [Ob.arr 4 (List.map eBox r) false])) :=
  xOf_eq laws_toBoxS_i z0
/-! spec_l01In: function 73 -/
noncomputable def spec_l01In (a0 : Int) (a1 : Int) (a2 : Int) : Option ((Bool)) :=
  cnd (ile a1 a0) (
   some (ile a0 a2)) (
   some false)
noncomputable def spec_l01In_e (q : (Int) × (Int) × (Int)) : List AV × List Ob := ([AV.int .i64 q.1, AV.int .i64 q.2.1, AV.int .i64 q.2.2], [])
noncomputable def spec_l01In_v (q : (Int) × (Int) × (Int)) (r : (Bool)) : AV × List Ob := (AV.bool r, [])
noncomputable def spec_l01In_x : List AV → List Ob → Option (AV × List Ob) := xOf spec_l01In_e (fun q => spec_l01In q.1 q.2.1 q.2.2) spec_l01In_v
theorem spec_l01In_i : ∀ a b, spec_l01In_e a = spec_l01In_e b → a = b := by rintro ⟨x0, x1, x2⟩ ⟨y0, y1, y2⟩ h; simp [spec_l01In_e] at h; simp [h]
@[simp] theorem spec_l01In_k (z0 : Int) (z1 : Int) (z2 : Int) : spec_l01In_x [AV.int .i64 z0, AV.int .i64 z1, AV.int .i64 z2] [] = mapR (spec_l01In z0 z1 z2) (fun r => (AV.bool r, [])) :=
  xOf_eq spec_l01In_i (z0, z1, z2)
/-! spec_TileCount: function 81 -/
noncomputable def spec_TileCount (a0 : Int) (a1 : Int) : Option ((Int)) :=
  bnd (spec_l01In a0 1 12) fun v1 =>
  cnd v1 (
   bnd (spec_l01In a1 1 12) fun v2 =>
   cnd v2 (
    some (IntKind.i64.wrap ((IntKind.i64.wrap (Int.tdiv (IntKind.i64.wrap (a0 + 3)) 4)) * (IntKind.i64.wrap (Int.tdiv (IntKind.i64.wrap (a1 + 3)) 4))))) (
    some 0)) (
   some 0)
noncomputable def spec_TileCount_e (q : (Int) × (Int)) : List AV × List Ob := ([AV.int .i64 q.1, AV.int .i64 q.2], [])
noncomputable def spec_TileCount_v (q : (Int) × (Int)) (r : (Int)) : AV × List Ob := (AV.int .i64 r, [])
noncomputable def spec_TileCount_x : List AV → List Ob → Option (AV × List Ob) := xOf spec_TileCount_e (fun q => spec_TileCount q.1 q.2) spec_TileCount_v
theorem spec_TileCount_i : ∀ a b, spec_TileCount_e a = spec_TileCount_e b → a = b := by rintro ⟨x0, x1⟩ ⟨y0, y1⟩ h; simp [spec_TileCount_e] at h; simp [h]
@[simp] theorem spec_TileCount_k (z0 : Int) (z1 : Int) : spec_TileCount_x [AV.int .i64 z0, AV.int .i64 z1] [] = mapR (spec_TileCount z0 z1) (fun r => (AV.int .i64 r, [])) :=
  xOf_eq spec_TileCount_i (z0, z1)
/-! spec_l05Most: function 154 -/
noncomputable def spec_l05Most (a0 : Int) (a1 : Int) : Option ((Int)) :=
  cnd (ile a0 a1) (
   some a1) (
   some a0)
noncomputable def spec_l05Most_e (q : (Int) × (Int)) : List AV × List Ob := ([AV.int .i64 q.1, AV.int .i64 q.2], [])
noncomputable def spec_l05Most_v (q : (Int) × (Int)) (r : (Int)) : AV × List Ob := (AV.int .i64 r, [])
noncomputable def spec_l05Most_x : List AV → List Ob → Option (AV × List Ob) := xOf spec_l05Most_e (fun q => spec_l05Most q.1 q.2) spec_l05Most_v
theorem spec_l05Most_i : ∀ a b, spec_l05Most_e a = spec_l05Most_e b → a = b := by rintro ⟨x0, x1⟩ ⟨y0, y1⟩ h; simp [spec_l05Most_e] at h; simp [h]
@[simp] theorem spec_l05Most_k (z0 : Int) (z1 : Int) : spec_l05Most_x [AV.int .i64 z0, AV.int .i64 z1] [] = mapR (spec_l05Most z0 z1) (fun r => (AV.int .i64 r, [])) :=
  xOf_eq spec_l05Most_i (z0, z1)
/-! spec_l05Least: function 155 -/
noncomputable def spec_l05Least (a0 : Int) (a1 : Int) : Option ((Int)) :=
  cnd (ile a1 a0) (
   some a1) (
   some a0)
noncomputable def spec_l05Least_e (q : (Int) × (Int)) : List AV × List Ob := ([AV.int .i64 q.1, AV.int .i64 q.2], [])
noncomputable def spec_l05Least_v (q : (Int) × (Int)) (r : (Int)) : AV × List Ob := (AV.int .i64 r, [])
noncomputable def spec_l05Least_x : List AV → List Ob → Option (AV × List Ob) := xOf spec_l05Least_e (fun q => spec_l05Least q.1 q.2) spec_l05Least_v
theorem spec_l05Least_i : ∀ a b, spec_l05Least_e a = spec_l05Least_e b → a = b := by rintro ⟨x0, x1⟩ ⟨y0, y1⟩ h; simp [spec_l05Least_e] at h; simp [h]
@[simp] theorem spec_l05Least_k (z0 : Int) (z1 : Int) : spec_l05Least_x [AV.int .i64 z0, AV.int .i64 z1] [] = mapR (spec_l05Least z0 z1) (fun r => (AV.int .i64 r, [])) :=
  xOf_eq spec_l05Least_i (z0, z1)
/-! spec_Empty: function 84 -/
noncomputable def spec_Empty (a0 : TBox) : Option ((Bool)) :=
  cnd (ile a0.x1 a0.x0) (
   some true) (
   some (ile a0.y1 a0.y0))
noncomputable def spec_Empty_e (q : (TBox)) : List AV × List Ob := ([AV.agg [AV.int .i64 q.x0, AV.int .i64 q.y0, AV.int .i64 q.x1, AV.int .i64 q.y1]], [])
noncomputable def spec_Empty_v (q : (TBox)) (r : (Bool)) : AV × List Ob := (AV.bool r, [])
noncomputable def spec_Empty_x : List AV → List Ob → Option (AV × List Ob) := xOf spec_Empty_e (fun q => spec_Empty q) spec_Empty_v
theorem spec_Empty_i : ∀ a b, spec_Empty_e a = spec_Empty_e b → a = b := by rintro ⟨x0, x1, x2, x3⟩ ⟨y0, y1, y2, y3⟩ h; simp [spec_Empty_e] at h; simp [h]
@[simp] theorem spec_Empty_k (z0 : Int) (z1 : Int) (z2 : Int) (z3 : Int) : spec_Empty_x [AV.agg [AV.int .i64 z0, AV.int .i64 z1, AV.int .i64 z2, AV.int .i64 z3]] [] = mapR (spec_Empty ⟨z0, z1, z2, z3⟩) (fun r => (AV.bool r, [])) :=
  xOf_eq spec_Empty_i ⟨z0, z1, z2, z3⟩
/-! spec_MeetBox: function 85 -/
noncomputable def spec_MeetBox (a0 : TBox) (a1 : TBox) : Option ((TBox)) :=
  bnd (spec_l05Most a0.x0 a1.x0) fun v1 =>
  bnd (spec_l05Most a0.y0 a1.y0) fun v2 =>
  bnd (spec_l05Least a0.x1 a1.x1) fun v3 =>
  bnd (spec_l05Least a0.y1 a1.y1) fun v4 =>
  bnd (spec_Empty (TBox.mk v1 v2 v3 v4)) fun v5 =>
  cnd v5 (
   some (TBox.mk 0 0 0 0)) (
   some (TBox.mk v1 v2 v3 v4))
noncomputable def spec_MeetBox_e (q : (TBox) × (TBox)) : List AV × List Ob := ([AV.agg [AV.int .i64 q.1.x0, AV.int .i64 q.1.y0, AV.int .i64 q.1.x1, AV.int .i64 q.1.y1], AV.agg [AV.int .i64 q.2.x0, AV.int .i64 q.2.y0, AV.int .i64 q.2.x1, AV.int .i64 q.2.y1]], [])
noncomputable def spec_MeetBox_v (q : (TBox) × (TBox)) (r : (TBox)) : AV × List Ob := (AV.agg [AV.int .i64 r.x0, AV.int .i64 r.y0, AV.int .i64 r.x1, AV.int .i64 r.y1], [])
noncomputable def spec_MeetBox_x : List AV → List Ob → Option (AV × List Ob) := xOf spec_MeetBox_e (fun q => spec_MeetBox q.1 q.2) spec_MeetBox_v
theorem spec_MeetBox_i : ∀ a b, spec_MeetBox_e a = spec_MeetBox_e b → a = b := by rintro ⟨⟨x0, x1, x2, x3⟩, ⟨x4, x5, x6, x7⟩⟩ ⟨⟨y0, y1, y2, y3⟩, ⟨y4, y5, y6, y7⟩⟩ h; simp [spec_MeetBox_e] at h; simp [h]
@[simp] theorem spec_MeetBox_k (z0 : Int) (z1 : Int) (z2 : Int) (z3 : Int) (z4 : Int) (z5 : Int) (z6 : Int) (z7 : Int) : spec_MeetBox_x [AV.agg [AV.int .i64 z0, AV.int .i64 z1, AV.int .i64 z2, AV.int .i64 z3], AV.agg [AV.int .i64 z4, AV.int .i64 z5, AV.int .i64 z6, AV.int .i64 z7]] [] = mapR (spec_MeetBox ⟨z0, z1, z2, z3⟩ ⟨z4, z5, z6, z7⟩) (fun r => (AV.agg [AV.int .i64 r.x0, AV.int .i64 r.y0, AV.int .i64 r.x1, AV.int .i64 r.y1], [])) :=
  xOf_eq spec_MeetBox_i (⟨z0, z1, z2, z3⟩, ⟨z4, z5, z6, z7⟩)
/-! spec_TileBox: function 83 -/
noncomputable def spec_TileBox (a0 : Int) (a1 : Int) (a2 : Int) : Option ((TBox)) :=
  bnd (spec_TileCount a0 a1) fun v1 =>
  bnd (spec_l01In a2 0 (IntKind.i64.wrap (v1 - 1))) fun v2 =>
  cnd v2 (
   chkP (¬ (IntKind.i64.wrap (Int.tdiv (IntKind.i64.wrap (a0 + 3)) 4)) = 0) (
   bnd (spec_MeetBox (TBox.mk (IntKind.i64.wrap ((Int.tmod a2 (IntKind.i64.wrap (Int.tdiv (IntKind.i64.wrap (a0 + 3)) 4))) * 4)) (IntKind.i64.wrap ((IntKind.i64.wrap (Int.tdiv a2 (IntKind.i64.wrap (Int.tdiv (IntKind.i64.wrap (a0 + 3)) 4)))) * 4)) (IntKind.i64.wrap ((IntKind.i64.wrap ((Int.tmod a2 (IntKind.i64.wrap (Int.tdiv (IntKind.i64.wrap (a0 + 3)) 4))) * 4)) + 4)) (IntKind.i64.wrap ((IntKind.i64.wrap ((IntKind.i64.wrap (Int.tdiv a2 (IntKind.i64.wrap (Int.tdiv (IntKind.i64.wrap (a0 + 3)) 4)))) * 4)) + 4))) (TBox.mk 0 0 a0 a1)) fun v3 =>
   some v3)) (
   some (TBox.mk 0 0 0 0))
noncomputable def spec_TileBox_e (q : (Int) × (Int) × (Int)) : List AV × List Ob := ([AV.int .i64 q.1, AV.int .i64 q.2.1, AV.int .i64 q.2.2], [])
noncomputable def spec_TileBox_v (q : (Int) × (Int) × (Int)) (r : (TBox)) : AV × List Ob := (AV.agg [AV.int .i64 r.x0, AV.int .i64 r.y0, AV.int .i64 r.x1, AV.int .i64 r.y1], [])
noncomputable def spec_TileBox_x : List AV → List Ob → Option (AV × List Ob) := xOf spec_TileBox_e (fun q => spec_TileBox q.1 q.2.1 q.2.2) spec_TileBox_v
theorem spec_TileBox_i : ∀ a b, spec_TileBox_e a = spec_TileBox_e b → a = b := by rintro ⟨x0, x1, x2⟩ ⟨y0, y1, y2⟩ h; simp [spec_TileBox_e] at h; simp [h]
@[simp] theorem spec_TileBox_k (z0 : Int) (z1 : Int) (z2 : Int) : spec_TileBox_x [AV.int .i64 z0, AV.int .i64 z1, AV.int .i64 z2] [] = mapR (spec_TileBox z0 z1 z2) (fun r => (AV.agg [AV.int .i64 r.x0, AV.int .i64 r.y0, AV.int .i64 r.x1, AV.int .i64 r.y1], [])) :=
  xOf_eq spec_TileBox_i (z0, z1, z2)
/-! spec_TilesOf: function 53 -/
noncomputable def spec_TilesOf_l0 (a0 : Int) (a1 : Int) (a2 : List TBox) (v15 : TBox) (x12 : Int) (x13 : List Int) : ((Bool) × (Int)) → Option (((Bool) × (Int)) ⊕ ((Bool))) := fun (x19, x20) =>
  cnd (ile (List.length a2 : Int) x20) (
   some (.inr x19)) (
   cnd x19 (
    some (.inl (true, (IntKind.i64.wrap (x20 + 1))))) (
    bnd (idx a2 x20) fun v21 =>
    bnd (spec_MeetBox v15 v21) fun v22 =>
    bnd (spec_Empty v22) fun v23 =>
    some (.inl ((!v23), (IntKind.i64.wrap (x20 + 1))))))
noncomputable def spec_TilesOf_l0_S (a0 : Int) (a1 : Int) (a2 : List TBox) (v15 : TBox) (x12 : Int) (x13 : List Int) : ((Bool) × (Int)) → St := fun (x19, x20) => ⟨[(0, AV.int .i64 a0), (1, AV.int .i64 a1), (2, AV.fsl (List.map eBox a2)), (7, AV.osl 0 0 (List.length x13) (List.length x13)), (8, AV.int .i64 x12), (9, AV.optr 1 0 4), (10, AV.bool x19), (11, AV.int .i64 x20)], [(0, Ob.arr 1 (List.map (AV.int .i64) x13) false), (1, Ob.box [AV.int .i64 v15.x0, AV.int .i64 v15.y0, AV.int .i64 v15.x1, AV.int .i64 v15.y1])], 2⟩
noncomputable def spec_TilesOf_l0_X (a0 : Int) (a1 : Int) (a2 : List TBox) (v15 : TBox) (x12 : Int) (x13 : List Int) : ((Bool)) → Ex × St := fun y24 => ((.exit 2), ⟨[(0, AV.int .i64 a0), (1, AV.int .i64 a1), (2, AV.fsl (List.map eBox a2)), (7, AV.osl 0 0 (List.length x13) (List.length x13)), (8, AV.int .i64 x12), (10, AV.bool y24)], [(0, Ob.arr 1 (List.map (AV.int .i64) x13) false)], 1⟩)
noncomputable def spec_TilesOf_l1 (a0 : Int) (a1 : Int) (a2 : List TBox) : ((Int) × (List Int)) → Option (((Int) × (List Int)) ⊕ ((List Int))) := fun (x12, x13) =>
  bnd (spec_TileCount a0 a1) fun v14 =>
  cnd (ile v14 x12) (
   some (.inr x13)) (
   bnd (spec_TileBox a0 a1 x12) fun v15 =>
   bnd (loopI (spec_TilesOf_l0 a0 a1 a2 v15 x12 x13) (false, 0)) fun y24 =>
   cnd y24 (
    chkP ((List.length x13 + 1) * 8 ≤ 17592186044416) (
    nam ((x13 ++ [x12]) : List Int) fun l25 =>
    some (.inl ((IntKind.i64.wrap (x12 + 1)), l25)))) (
    some (.inl ((IntKind.i64.wrap (x12 + 1)), x13))))
noncomputable def spec_TilesOf_l1_S (a0 : Int) (a1 : Int) (a2 : List TBox) : ((Int) × (List Int)) → St := fun (x12, x13) => ⟨[(0, AV.int .i64 a0), (1, AV.int .i64 a1), (2, AV.fsl (List.map eBox a2)), (7, AV.osl 0 0 (List.length x13) (List.length x13)), (8, AV.int .i64 x12)], [(0, Ob.arr 1 (List.map (AV.int .i64) x13) false)], 1⟩
noncomputable def spec_TilesOf_l1_X (a0 : Int) (a1 : Int) (a2 : List TBox) : ((List Int)) → Ex × St := fun y26 => ((.exit 0), ⟨[(7, AV.osl 0 0 (List.length y26) (List.length y26))], [(0, Ob.arr 1 (List.map (AV.int .i64) y26) false)], 1⟩)
noncomputable def spec_TilesOf (a0 : Int) (a1 : Int) (a2 : List TBox) : Option ((List Int)) :=
  bnd (loopI (spec_TilesOf_l1 a0 a1 a2) (0, [])) fun y26 =>
  some y26
noncomputable def spec_TilesOf_e (q : (Int) × (Int) × (List TBox)) : List AV × List Ob := ([AV.int .i64 q.1, AV.int .i64 q.2.1, AV.fsl (List.map eBox q.2.2)], [])
noncomputable def spec_TilesOf_v (q : (Int) × (Int) × (List TBox)) (r : (List Int)) : AV × List Ob := (AV.fsl (List.map (AV.int .i64) r), [])
noncomputable def spec_TilesOf_x : List AV → List Ob → Option (AV × List Ob) := xOf spec_TilesOf_e (fun q => spec_TilesOf q.1 q.2.1 q.2.2) spec_TilesOf_v
theorem spec_TilesOf_i : ∀ a b, spec_TilesOf_e a = spec_TilesOf_e b → a = b := by rintro ⟨x0, x1, x2⟩ ⟨y0, y1, y2⟩ h; simp [spec_TilesOf_e] at h; simp [h]
@[simp] theorem spec_TilesOf_k (z0 : Int) (z1 : Int) (z2 : List TBox) : spec_TilesOf_x [AV.int .i64 z0, AV.int .i64 z1, AV.fsl (List.map eBox z2)] [] = mapR (spec_TilesOf z0 z1 z2) (fun r => (AV.fsl (List.map (AV.int .i64) r), [])) :=
  xOf_eq spec_TilesOf_i (z0, z1, z2)
/-! impl_inRange: function 76 -/
noncomputable def impl_inRange (a0 : Int) (a1 : Int) (a2 : Int) : Option ((Bool)) :=
  cnd (ile a1 a0) (
   some (ile a0 a2)) (
   some false)
noncomputable def impl_inRange_e (q : (Int) × (Int) × (Int)) : List AV × List Ob := ([AV.int .i64 q.1, AV.int .i64 q.2.1, AV.int .i64 q.2.2], [])
noncomputable def impl_inRange_v (q : (Int) × (Int) × (Int)) (r : (Bool)) : AV × List Ob := (AV.bool r, [])
noncomputable def impl_inRange_x : List AV → List Ob → Option (AV × List Ob) := xOf impl_inRange_e (fun q => impl_inRange q.1 q.2.1 q.2.2) impl_inRange_v
theorem impl_inRange_i : ∀ a b, impl_inRange_e a = impl_inRange_e b → a = b := by rintro ⟨x0, x1, x2⟩ ⟨y0, y1, y2⟩ h; simp [impl_inRange_e] at h; simp [h]
@[simp] theorem impl_inRange_k (z0 : Int) (z1 : Int) (z2 : Int) : impl_inRange_x [AV.int .i64 z0, AV.int .i64 z1, AV.int .i64 z2] [] = mapR (impl_inRange z0 z1 z2) (fun r => (AV.bool r, [])) :=
  xOf_eq impl_inRange_i (z0, z1, z2)
/-! impl_isSide: function 102 -/
noncomputable def impl_isSide (a0 : Int) : Option ((Bool)) :=
  bnd (impl_inRange a0 1 12) fun v1 =>
  some v1
noncomputable def impl_isSide_e (q : (Int)) : List AV × List Ob := ([AV.int .i64 q], [])
noncomputable def impl_isSide_v (q : (Int)) (r : (Bool)) : AV × List Ob := (AV.bool r, [])
noncomputable def impl_isSide_x : List AV → List Ob → Option (AV × List Ob) := xOf impl_isSide_e (fun q => impl_isSide q) impl_isSide_v
theorem impl_isSide_i : ∀ a b, impl_isSide_e a = impl_isSide_e b → a = b := by rintro x0 y0 h; simp [impl_isSide_e] at h; simp [h]
@[simp] theorem impl_isSide_k (z0 : Int) : impl_isSide_x [AV.int .i64 z0] [] = mapR (impl_isSide z0) (fun r => (AV.bool r, [])) :=
  xOf_eq impl_isSide_i z0
/-! impl_tilesAlong: function 156 -/
noncomputable def impl_tilesAlong (a0 : Int) : Option ((Int)) :=
  some (IntKind.i64.wrap (Int.tdiv (IntKind.i64.wrap ((IntKind.i64.wrap (a0 + 4)) - 1)) 4))
noncomputable def impl_tilesAlong_e (q : (Int)) : List AV × List Ob := ([AV.int .i64 q], [])
noncomputable def impl_tilesAlong_v (q : (Int)) (r : (Int)) : AV × List Ob := (AV.int .i64 r, [])
noncomputable def impl_tilesAlong_x : List AV → List Ob → Option (AV × List Ob) := xOf impl_tilesAlong_e (fun q => impl_tilesAlong q) impl_tilesAlong_v
theorem impl_tilesAlong_i : ∀ a b, impl_tilesAlong_e a = impl_tilesAlong_e b → a = b := by rintro x0 y0 h; simp [impl_tilesAlong_e] at h; simp [h]
@[simp] theorem impl_tilesAlong_k (z0 : Int) : impl_tilesAlong_x [AV.int .i64 z0] [] = mapR (impl_tilesAlong z0) (fun r => (AV.int .i64 r, [])) :=
  xOf_eq impl_tilesAlong_i z0
/-! impl_TileCount: function 138 -/
noncomputable def impl_TileCount (a0 : Int) (a1 : Int) : Option ((Int)) :=
  bnd (impl_isSide a0) fun v1 =>
  cnd v1 (
   bnd (impl_isSide a1) fun v2 =>
   cnd v2 (
    bnd (impl_tilesAlong a0) fun v3 =>
    bnd (impl_tilesAlong a1) fun v4 =>
    some (IntKind.i64.wrap (v3 * v4))) (
    some 0)) (
   some 0)
noncomputable def impl_TileCount_e (q : (Int) × (Int)) : List AV × List Ob := ([AV.int .i64 q.1, AV.int .i64 q.2], [])
noncomputable def impl_TileCount_v (q : (Int) × (Int)) (r : (Int)) : AV × List Ob := (AV.int .i64 r, [])
noncomputable def impl_TileCount_x : List AV → List Ob → Option (AV × List Ob) := xOf impl_TileCount_e (fun q => impl_TileCount q.1 q.2) impl_TileCount_v
theorem impl_TileCount_i : ∀ a b, impl_TileCount_e a = impl_TileCount_e b → a = b := by rintro ⟨x0, x1⟩ ⟨y0, y1⟩ h; simp [impl_TileCount_e] at h; simp [h]
@[simp] theorem impl_TileCount_k (z0 : Int) (z1 : Int) : impl_TileCount_x [AV.int .i64 z0, AV.int .i64 z1] [] = mapR (impl_TileCount z0 z1) (fun r => (AV.int .i64 r, [])) :=
  xOf_eq impl_TileCount_i (z0, z1)
/-! impl_Empty: function 158 -/
noncomputable def impl_Empty (a0 : TBox) : Option ((Bool)) :=
  cnd (ile a0.x1 a0.x0) (
   some true) (
   some (ile a0.y1 a0.y0))
noncomputable def impl_Empty_e (q : (TBox)) : List AV × List Ob := ([AV.agg [AV.int .i64 q.x0, AV.int .i64 q.y0, AV.int .i64 q.x1, AV.int .i64 q.y1]], [])
noncomputable def impl_Empty_v (q : (TBox)) (r : (Bool)) : AV × List Ob := (AV.bool r, [])
noncomputable def impl_Empty_x : List AV → List Ob → Option (AV × List Ob) := xOf impl_Empty_e (fun q => impl_Empty q) impl_Empty_v
theorem impl_Empty_i : ∀ a b, impl_Empty_e a = impl_Empty_e b → a = b := by rintro ⟨x0, x1, x2, x3⟩ ⟨y0, y1, y2, y3⟩ h; simp [impl_Empty_e] at h; simp [h]
@[simp] theorem impl_Empty_k (z0 : Int) (z1 : Int) (z2 : Int) (z3 : Int) : impl_Empty_x [AV.agg [AV.int .i64 z0, AV.int .i64 z1, AV.int .i64 z2, AV.int .i64 z3]] [] = mapR (impl_Empty ⟨z0, z1, z2, z3⟩) (fun r => (AV.bool r, [])) :=
  xOf_eq impl_Empty_i ⟨z0, z1, z2, z3⟩
/-! impl_MeetBox: function 157 -/
noncomputable def impl_MeetBox (a0 : TBox) (a1 : TBox) : Option ((TBox)) :=
  bnd (impl_Empty (TBox.mk (max a0.x0 a1.x0) (max a0.y0 a1.y0) (min a0.x1 a1.x1) (min a0.y1 a1.y1))) fun v1 =>
  cnd v1 (
   some (TBox.mk 0 0 0 0)) (
   some (TBox.mk (max a0.x0 a1.x0) (max a0.y0 a1.y0) (min a0.x1 a1.x1) (min a0.y1 a1.y1)))
noncomputable def impl_MeetBox_e (q : (TBox) × (TBox)) : List AV × List Ob := ([AV.agg [AV.int .i64 q.1.x0, AV.int .i64 q.1.y0, AV.int .i64 q.1.x1, AV.int .i64 q.1.y1], AV.agg [AV.int .i64 q.2.x0, AV.int .i64 q.2.y0, AV.int .i64 q.2.x1, AV.int .i64 q.2.y1]], [])
noncomputable def impl_MeetBox_v (q : (TBox) × (TBox)) (r : (TBox)) : AV × List Ob := (AV.agg [AV.int .i64 r.x0, AV.int .i64 r.y0, AV.int .i64 r.x1, AV.int .i64 r.y1], [])
noncomputable def impl_MeetBox_x : List AV → List Ob → Option (AV × List Ob) := xOf impl_MeetBox_e (fun q => impl_MeetBox q.1 q.2) impl_MeetBox_v
theorem impl_MeetBox_i : ∀ a b, impl_MeetBox_e a = impl_MeetBox_e b → a = b := by rintro ⟨⟨x0, x1, x2, x3⟩, ⟨x4, x5, x6, x7⟩⟩ ⟨⟨y0, y1, y2, y3⟩, ⟨y4, y5, y6, y7⟩⟩ h; simp [impl_MeetBox_e] at h; simp [h]
@[simp] theorem impl_MeetBox_k (z0 : Int) (z1 : Int) (z2 : Int) (z3 : Int) (z4 : Int) (z5 : Int) (z6 : Int) (z7 : Int) : impl_MeetBox_x [AV.agg [AV.int .i64 z0, AV.int .i64 z1, AV.int .i64 z2, AV.int .i64 z3], AV.agg [AV.int .i64 z4, AV.int .i64 z5, AV.int .i64 z6, AV.int .i64 z7]] [] = mapR (impl_MeetBox ⟨z0, z1, z2, z3⟩ ⟨z4, z5, z6, z7⟩) (fun r => (AV.agg [AV.int .i64 r.x0, AV.int .i64 r.y0, AV.int .i64 r.x1, AV.int .i64 r.y1], [])) :=
  xOf_eq impl_MeetBox_i (⟨z0, z1, z2, z3⟩, ⟨z4, z5, z6, z7⟩)
/-! impl_TileBox: function 88 -/
noncomputable def impl_TileBox (a0 : Int) (a1 : Int) (a2 : Int) : Option ((TBox)) :=
  bnd (impl_TileCount a0 a1) fun v1 =>
  bnd (impl_inRange a2 0 (IntKind.i64.wrap (v1 - 1))) fun v2 =>
  cnd v2 (
   bnd (impl_tilesAlong a0) fun v3 =>
   chkP (¬ v3 = 0) (
   bnd (impl_MeetBox (TBox.mk (IntKind.i64.wrap ((Int.tmod a2 v3) * 4)) (IntKind.i64.wrap ((IntKind.i64.wrap (Int.tdiv a2 v3)) * 4)) (IntKind.i64.wrap ((IntKind.i64.wrap ((Int.tmod a2 v3) * 4)) + 4)) (IntKind.i64.wrap ((IntKind.i64.wrap ((IntKind.i64.wrap (Int.tdiv a2 v3)) * 4)) + 4))) (TBox.mk 0 0 a0 a1)) fun v4 =>
   some v4)) (
   some (TBox.mk 0 0 0 0))
noncomputable def impl_TileBox_e (q : (Int) × (Int) × (Int)) : List AV × List Ob := ([AV.int .i64 q.1, AV.int .i64 q.2.1, AV.int .i64 q.2.2], [])
noncomputable def impl_TileBox_v (q : (Int) × (Int) × (Int)) (r : (TBox)) : AV × List Ob := (AV.agg [AV.int .i64 r.x0, AV.int .i64 r.y0, AV.int .i64 r.x1, AV.int .i64 r.y1], [])
noncomputable def impl_TileBox_x : List AV → List Ob → Option (AV × List Ob) := xOf impl_TileBox_e (fun q => impl_TileBox q.1 q.2.1 q.2.2) impl_TileBox_v
theorem impl_TileBox_i : ∀ a b, impl_TileBox_e a = impl_TileBox_e b → a = b := by rintro ⟨x0, x1, x2⟩ ⟨y0, y1, y2⟩ h; simp [impl_TileBox_e] at h; simp [h]
@[simp] theorem impl_TileBox_k (z0 : Int) (z1 : Int) (z2 : Int) : impl_TileBox_x [AV.int .i64 z0, AV.int .i64 z1, AV.int .i64 z2] [] = mapR (impl_TileBox z0 z1 z2) (fun r => (AV.agg [AV.int .i64 r.x0, AV.int .i64 r.y0, AV.int .i64 r.x1, AV.int .i64 r.y1], [])) :=
  xOf_eq impl_TileBox_i (z0, z1, z2)
/-! impl_meetsAny: function 89 -/
noncomputable def impl_meetsAny_l0 (a0 : TBox) (a1 : List TBox) : ((Int)) → Option (((Int)) ⊕ ((Unit) ⊕ (Unit))) := fun x4 =>
  cnd (ile (List.length a1 : Int) x4) (
   some (.inr (.inl ()))) (
   bnd (idx a1 x4) fun v5 =>
   bnd (impl_MeetBox a0 v5) fun v6 =>
   bnd (impl_Empty v6) fun v7 =>
   cnd v7 (
    some (.inl (IntKind.i64.wrap (x4 + 1)))) (
    some (.inr (.inr ()))))
noncomputable def impl_meetsAny_l0_S (a0 : TBox) (a1 : List TBox) : ((Int)) → St := fun x4 => ⟨[(2, AV.optr 0 0 4), (7, AV.fsl (List.map eBox a1)), (8, AV.int .i64 (List.length a1 : Int)), (9, AV.int .i64 x4)], [(0, Ob.box [AV.int .i64 a0.x0, AV.int .i64 a0.y0, AV.int .i64 a0.x1, AV.int .i64 a0.y1])], 1⟩
noncomputable def impl_meetsAny_l0_X (a0 : TBox) (a1 : List TBox) : ((Unit) ⊕ (Unit)) → Ex × St := fun q => match q with
  | .inl _ => ((.exit 0), ⟨[], [], 0⟩)
  | .inr _ => (.ret, ⟨[(4, AV.bool true)], [], 0⟩)
noncomputable def impl_meetsAny (a0 : TBox) (a1 : List TBox) : Option ((Bool)) :=
  bnd (loopI (impl_meetsAny_l0 a0 a1) 0) fun q => match q with
  | .inl () =>
   some false
  | .inr () =>
   some true
noncomputable def impl_meetsAny_e (q : (TBox) × (List TBox)) : List AV × List Ob := ([AV.agg [AV.int .i64 q.1.x0, AV.int .i64 q.1.y0, AV.int .i64 q.1.x1, AV.int .i64 q.1.y1], AV.fsl (List.map eBox q.2)], [])
noncomputable def impl_meetsAny_v (q : (TBox) × (List TBox)) (r : (Bool)) : AV × List Ob := (AV.bool r, [])
noncomputable def impl_meetsAny_x : List AV → List Ob → Option (AV × List Ob) := xOf impl_meetsAny_e (fun q => impl_meetsAny q.1 q.2) impl_meetsAny_v
theorem impl_meetsAny_i : ∀ a b, impl_meetsAny_e a = impl_meetsAny_e b → a = b := by rintro ⟨⟨x0, x1, x2, x3⟩, x4⟩ ⟨⟨y0, y1, y2, y3⟩, y4⟩ h; simp [impl_meetsAny_e] at h; simp [h]
@[simp] theorem impl_meetsAny_k (z0 : Int) (z1 : Int) (z2 : Int) (z3 : Int) (z4 : List TBox) : impl_meetsAny_x [AV.agg [AV.int .i64 z0, AV.int .i64 z1, AV.int .i64 z2, AV.int .i64 z3], AV.fsl (List.map eBox z4)] [] = mapR (impl_meetsAny ⟨z0, z1, z2, z3⟩ z4) (fun r => (AV.bool r, [])) :=
  xOf_eq impl_meetsAny_i (⟨z0, z1, z2, z3⟩, z4)
/-! impl_TilesOf: function 55 -/
noncomputable def impl_TilesOf_l0 (a0 : Int) (a1 : Int) (a2 : List TBox) (v1 : Int) : ((List Int) × (Int)) → Option (((List Int) × (Int)) ⊕ ((List Int))) := fun (x4, x5) =>
  cnd (ile v1 x5) (
   some (.inr x4)) (
   bnd (impl_TileBox a0 a1 x5) fun v6 =>
   bnd (impl_meetsAny v6 a2) fun v7 =>
   cnd v7 (
    chkP ((List.length x4 + 1) * 8 ≤ 17592186044416) (
    nam ((x4 ++ [x5]) : List Int) fun l8 =>
    some (.inl (l8, (IntKind.i64.wrap (x5 + 1)))))) (
    some (.inl (x4, (IntKind.i64.wrap (x5 + 1))))))
noncomputable def impl_TilesOf_l0_S (a0 : Int) (a1 : Int) (a2 : List TBox) (v1 : Int) : ((List Int) × (Int)) → St := fun (x4, x5) => ⟨[(0, AV.int .i64 a0), (1, AV.int .i64 a1), (2, AV.fsl (List.map eBox a2)), (7, AV.osl 0 0 (List.length x4) (List.length x4)), (11, AV.int .i64 v1), (12, AV.int .i64 x5)], [(0, Ob.arr 1 (List.map (AV.int .i64) x4) false)], 1⟩
noncomputable def impl_TilesOf_l0_X (a0 : Int) (a1 : Int) (a2 : List TBox) (v1 : Int) : ((List Int)) → Ex × St := fun y9 => ((.exit 0), ⟨[(7, AV.osl 0 0 (List.length y9) (List.length y9))], [(0, Ob.arr 1 (List.map (AV.int .i64) y9) false)], 1⟩)
noncomputable def impl_TilesOf (a0 : Int) (a1 : Int) (a2 : List TBox) : Option ((List Int)) :=
  bnd (impl_TileCount a0 a1) fun v1 =>
  bnd (loopI (impl_TilesOf_l0 a0 a1 a2 v1) ([], 0)) fun y9 =>
  some y9
noncomputable def impl_TilesOf_e (q : (Int) × (Int) × (List TBox)) : List AV × List Ob := ([AV.int .i64 q.1, AV.int .i64 q.2.1, AV.fsl (List.map eBox q.2.2)], [])
noncomputable def impl_TilesOf_v (q : (Int) × (Int) × (List TBox)) (r : (List Int)) : AV × List Ob := (AV.osl 0 0 (List.length r) (List.length r), [Ob.arr 1 (List.map (AV.int .i64) r) false])
noncomputable def impl_TilesOf_x : List AV → List Ob → Option (AV × List Ob) := xOf impl_TilesOf_e (fun q => impl_TilesOf q.1 q.2.1 q.2.2) impl_TilesOf_v
theorem impl_TilesOf_i : ∀ a b, impl_TilesOf_e a = impl_TilesOf_e b → a = b := by rintro ⟨x0, x1, x2⟩ ⟨y0, y1, y2⟩ h; simp [impl_TilesOf_e] at h; simp [h]
@[simp] theorem impl_TilesOf_k (z0 : Int) (z1 : Int) (z2 : List TBox) : impl_TilesOf_x [AV.int .i64 z0, AV.int .i64 z1, AV.fsl (List.map eBox z2)] [] = mapR (impl_TilesOf z0 z1 z2) (fun r => (AV.osl 0 0 (List.length r) (List.length r), [Ob.arr 1 (List.map (AV.int .i64) r) false])) :=
  xOf_eq impl_TilesOf_i (z0, z1, z2)
/-! laws_eqIntS: function 56 -/
noncomputable def laws_eqIntS_l0 (a0 : List Int) (a1 : List Int) : ((Int)) → Option (((Int)) ⊕ ((Unit) ⊕ (Unit))) := fun x3 =>
  cnd (ile (List.length a0 : Int) x3) (
   some (.inr (.inl ()))) (
   bnd (idx a0 x3) fun v4 =>
   bnd (idx a1 x3) fun v5 =>
   cnd (ieq v4 v5) (
    some (.inl (IntKind.i64.wrap (x3 + 1)))) (
    some (.inr (.inr ()))))
noncomputable def laws_eqIntS_l0_S (a0 : List Int) (a1 : List Int) : ((Int)) → St := fun x3 => ⟨[(0, AV.fsl (List.map (AV.int .i64) a0)), (1, AV.fsl (List.map (AV.int .i64) a1)), (5, AV.int .i64 x3)], [], 0⟩
noncomputable def laws_eqIntS_l0_X (a0 : List Int) (a1 : List Int) : ((Unit) ⊕ (Unit)) → Ex × St := fun q => match q with
  | .inl _ => ((.exit 0), ⟨[], [], 0⟩)
  | .inr _ => (.ret, ⟨[(4, AV.bool false)], [], 0⟩)
noncomputable def laws_eqIntS (a0 : List Int) (a1 : List Int) : Option ((Bool)) :=
  cnd (ieq (List.length a0 : Int) (List.length a1 : Int)) (
   bnd (loopI (laws_eqIntS_l0 a0 a1) 0) fun q => match q with
   | .inl () =>
    some true
   | .inr () =>
    some false) (
   some false)
noncomputable def laws_eqIntS_e (q : (List Int) × (List Int)) : List AV × List Ob := ([AV.fsl (List.map (AV.int .i64) q.1), AV.fsl (List.map (AV.int .i64) q.2)], [])
noncomputable def laws_eqIntS_v (q : (List Int) × (List Int)) (r : (Bool)) : AV × List Ob := (AV.bool r, [])
noncomputable def laws_eqIntS_x : List AV → List Ob → Option (AV × List Ob) := xOf laws_eqIntS_e (fun q => laws_eqIntS q.1 q.2) laws_eqIntS_v
theorem laws_eqIntS_i : ∀ a b, laws_eqIntS_e a = laws_eqIntS_e b → a = b := by rintro ⟨x0, x1⟩ ⟨y0, y1⟩ h; simp [laws_eqIntS_e] at h; simp [h]
@[simp] theorem laws_eqIntS_k (z0 : List Int) (z1 : List Int) : laws_eqIntS_x [AV.fsl (List.map (AV.int .i64) z0), AV.fsl (List.map (AV.int .i64) z1)] [] = mapR (laws_eqIntS z0 z1) (fun r => (AV.bool r, [])) :=
  xOf_eq laws_eqIntS_i (z0, z1)
/-! laws_eqBox: function 139 -/
noncomputable def laws_eqBox (a0 : TBox) (a1 : TBox) : Option ((Bool)) :=
  cnd (ieq a0.x0 a1.x0) (
   cnd (ieq a0.y0 a1.y0) (
    cnd (ieq a0.x1 a1.x1) (
     cnd (ieq a0.y1 a1.y1) (
      some true) (
      some false)) (
     some false)) (
    some false)) (
   some false)
noncomputable def laws_eqBox_e (q : (TBox) × (TBox)) : List AV × List Ob := ([AV.agg [AV.int .i64 q.1.x0, AV.int .i64 q.1.y0, AV.int .i64 q.1.x1, AV.int .i64 q.1.y1], AV.agg [AV.int .i64 q.2.x0, AV.int .i64 q.2.y0, AV.int .i64 q.2.x1, AV.int .i64 q.2.y1]], [])
noncomputable def laws_eqBox_v (q : (TBox) × (TBox)) (r : (Bool)) : AV × List Ob := (AV.bool r, [])
noncomputable def laws_eqBox_x : List AV → List Ob → Option (AV × List Ob) := xOf laws_eqBox_e (fun q => laws_eqBox q.1 q.2) laws_eqBox_v
theorem laws_eqBox_i : ∀ a b, laws_eqBox_e a = laws_eqBox_e b → a = b := by rintro ⟨⟨x0, x1, x2, x3⟩, ⟨x4, x5, x6, x7⟩⟩ ⟨⟨y0, y1, y2, y3⟩, ⟨y4, y5, y6, y7⟩⟩ h; simp [laws_eqBox_e] at h; simp [h]
@[simp] theorem laws_eqBox_k (z0 : Int) (z1 : Int) (z2 : Int) (z3 : Int) (z4 : Int) (z5 : Int) (z6 : Int) (z7 : Int) : laws_eqBox_x [AV.agg [AV.int .i64 z0, AV.int .i64 z1, AV.int .i64 z2, AV.int .i64 z3], AV.agg [AV.int .i64 z4, AV.int .i64 z5, AV.int .i64 z6, AV.int .i64 z7]] [] = mapR (laws_eqBox ⟨z0, z1, z2, z3⟩ ⟨z4, z5, z6, z7⟩) (fun r => (AV.bool r, [])) :=
  xOf_eq laws_eqBox_i (⟨z0, z1, z2, z3⟩, ⟨z4, z5, z6, z7⟩)
/-! laws_eqBoxS: function 57 -/
noncomputable def laws_eqBoxS_l0 (a0 : List TBox) (a1 : List TBox) : ((Int)) → Option (((Int)) ⊕ ((Unit) ⊕ (Unit))) := fun x4 =>
  cnd (ile (List.length a0 : Int) x4) (
   some (.inr (.inl ()))) (
   bnd (idx a0 x4) fun v5 =>
   bnd (idx a1 x4) fun v6 =>
   bnd (laws_eqBox v5 v6) fun v7 =>
   cnd v7 (
    some (.inl (IntKind.i64.wrap (x4 + 1)))) (
    some (.inr (.inr ()))))
noncomputable def laws_eqBoxS_l0_S (a0 : List TBox) (a1 : List TBox) : ((Int)) → St := fun x4 => ⟨[(0, AV.fsl (List.map eBox a0)), (1, AV.fsl (List.map eBox a1)), (5, AV.int .i64 x4)], [], 0⟩
noncomputable def laws_eqBoxS_l0_X (a0 : List TBox) (a1 : List TBox) : ((Unit) ⊕ (Unit)) → Ex × St := fun q => match q with
  | .inl _ => ((.exit 0), ⟨[], [], 0⟩)
  | .inr _ => (.ret, ⟨[(4, AV.bool false)], [], 0⟩)
noncomputable def laws_eqBoxS (a0 : List TBox) (a1 : List TBox) : Option ((Bool)) :=
  cnd (ieq (List.length a0 : Int) (List.length a1 : Int)) (
   bnd (loopI (laws_eqBoxS_l0 a0 a1) 0) fun q => match q with
   | .inl () =>
    some true
   | .inr () =>
    some false) (
   some false)
noncomputable def laws_eqBoxS_e (q : (List TBox) × (List TBox)) : List AV × List Ob := ([AV.fsl (List.map eBox q.1), AV.fsl (List.map eBox q.2)], [])
noncomputable def laws_eqBoxS_v (q : (List TBox) × (List TBox)) (r : (Bool)) : AV × List Ob := (AV.bool r, [])
noncomputable def laws_eqBoxS_x : List AV → List Ob → Option (AV × List Ob) := xOf laws_eqBoxS_e (fun q => laws_eqBoxS q.1 q.2) laws_eqBoxS_v
theorem laws_eqBoxS_i : ∀ a b, laws_eqBoxS_e a = laws_eqBoxS_e b → a = b := by rintro ⟨x0, x1⟩ ⟨y0, y1⟩ h; simp [laws_eqBoxS_e] at h; simp [h]
@[simp] theorem laws_eqBoxS_k (z0 : List TBox) (z1 : List TBox) : laws_eqBoxS_x [AV.fsl (List.map eBox z0), AV.fsl (List.map eBox z1)] [] = mapR (laws_eqBoxS z0 z1) (fun r => (AV.bool r, [])) :=
  xOf_eq laws_eqBoxS_i (z0, z1)
/-! laws_markBoxS: function 58 -/
noncomputable def laws_markBoxS_l0  : ((Int) × (Int) × (List TBox)) → Option (((Int) × (Int) × (List TBox)) ⊕ ((List TBox) × (Int))) := fun (x9, x10, x11) =>
  cnd (ile (List.length x11 : Int) x10) (
   some (.inr (x11, x9))) (
   bnd (idx x11 x10) fun v12 =>
   nam ((List.set x11 (Int.toNat x10) (TBox.mk x9 v12.y0 v12.x1 v12.y1)) : List TBox) fun l13 =>
   bnd (idx l13 x10) fun v14 =>
   nam ((List.set l13 (Int.toNat x10) (TBox.mk v14.x0 (IntKind.i64.wrap (x9 + 1)) v14.x1 v14.y1)) : List TBox) fun l15 =>
   bnd (idx l15 x10) fun v16 =>
   nam ((List.set l15 (Int.toNat x10) (TBox.mk v16.x0 v16.y0 (IntKind.i64.wrap ((IntKind.i64.wrap (x9 + 1)) + 1)) v16.y1)) : List TBox) fun l17 =>
   bnd (idx l17 x10) fun v18 =>
   nam ((List.set l17 (Int.toNat x10) (TBox.mk v18.x0 v18.y0 v18.x1 (IntKind.i64.wrap ((IntKind.i64.wrap ((IntKind.i64.wrap (x9 + 1)) + 1)) + 1)))) : List TBox) fun l19 =>
   some (.inl ((IntKind.i64.wrap ((IntKind.i64.wrap ((IntKind.i64.wrap ((IntKind.i64.wrap (x9 + 1)) + 1)) + 1)) + 1)), (IntKind.i64.wrap (x10 + 1)), l19)))
noncomputable def laws_markBoxS_l0_S  : ((Int) × (Int) × (List TBox)) → St := fun (x9, x10, x11) => ⟨[(0, AV.osl 0 0 (List.length x11) (List.length x11)), (1, AV.int .i64 x9), (5, AV.int .i64 x10)], [(0, Ob.arr 4 (List.map eBox x11) false)], 1⟩
noncomputable def laws_markBoxS_l0_X  : ((List TBox) × (Int)) → Ex × St := fun (y20, y21) => ((.exit 0), ⟨[(1, AV.int .i64 y21)], [(0, Ob.arr 4 (List.map eBox y20) false)], 1⟩)
noncomputable def laws_markBoxS (a0 : Int) (a1 : List TBox) : Option ((Int) × (List TBox)) :=
  bnd (loopI laws_markBoxS_l0 (a0, 0, a1)) fun (y20, y21) =>
  some (y21, y20)
noncomputable def laws_markBoxS_e (q : (Int) × (List TBox)) : List AV × List Ob := ([AV.osl 0 0 (List.length q.2) (List.length q.2), AV.int .i64 q.1], [Ob.arr 4 (List.map eBox q.2) false])
noncomputable def laws_markBoxS_v (q : (Int) × (List TBox)) (r : (Int) × (List TBox)) : AV × List Ob := (AV.int .i64 r.1, [Ob.arr 4 (List.map eBox r.2) false])
noncomputable def laws_markBoxS_x : List AV → List Ob → Option (AV × List Ob) := xOf laws_markBoxS_e (fun q => laws_markBoxS q.1 q.2) laws_markBoxS_v
theorem laws_markBoxS_i : ∀ a b, laws_markBoxS_e a = laws_markBoxS_e b → a = b := by rintro ⟨x0, x1⟩ ⟨y0, y1⟩ h; simp [laws_markBoxS_e] at h; simp [h]
@[simp] theorem laws_markBoxS_k (z0 : Int) (z1 : List TBox) : laws_markBoxS_x [AV.osl 0 0 (List.length z1) (List.length z1), AV.int .i64 z0] [Ob.arr 4 (List.map eBox z1) false] = mapR (laws_markBoxS z0 z1) (fun r => (AV.int .i64 r.1, [Ob.arr 4 (List.map eBox r.2) false])) :=
  xOf_eq laws_markBoxS_i (z0, z1)
theorem laws_markBoxS_n {a0 : Int} {a1 : List TBox} {r0 : Int} {r1 : List TBox} (h : laws_markBoxS a0 a1 = some (r0, r1)) : List.length a1 = List.length r1 := by
  unfold laws_markBoxS at h; replace h : HS _ _ := h
  obtain ⟨q, e1, h⟩ := HS.bnd h
  replace e1 := loopI_pres (P := fun s => List.length a1 = List.length s.2.2) (Q := fun s => List.length a1 = List.length s.1) e1 (by
    rintro ⟨x9, x10, x11⟩ o hp h; dsimp only at hp; unfold laws_markBoxS_l0 at h; replace h : HS _ _ := h
    rcases HS.cnd h with h | h
    · skip
      have h := HS.some h
      first | (cases h; simp_all; done) | (subst h; simp_all; done) | (simp only [Prod.mk.injEq] at h; simp_all; done)
    · skip
      obtain ⟨v12, e2, h⟩ := HS.bnd h
      clear e2
      obtain ⟨l13, e3, h⟩ := HS.nam h; replace e3 := congrArg List.length e3; simp only [List.length_set] at e3
      obtain ⟨v14, e4, h⟩ := HS.bnd h
      clear e4
      obtain ⟨l15, e5, h⟩ := HS.nam h; replace e5 := congrArg List.length e5; simp only [List.length_set] at e5
      obtain ⟨v16, e6, h⟩ := HS.bnd h
      clear e6
      obtain ⟨l17, e7, h⟩ := HS.nam h; replace e7 := congrArg List.length e7; simp only [List.length_set] at e7
      obtain ⟨v18, e8, h⟩ := HS.bnd h
      clear e8
      obtain ⟨l19, e9, h⟩ := HS.nam h; replace e9 := congrArg List.length e9; simp only [List.length_set] at e9
      have h := HS.some h
      first | (cases h; simp_all; done) | (subst h; simp_all; done) | (simp only [Prod.mk.injEq] at h; simp_all; done)) (by simp)
  obtain ⟨y20, y21⟩ := q
  dsimp only at h e1
  have h := HS.some h
  first | (cases h; simp_all; done) | (subst h; simp_all; done) | (simp only [Prod.mk.injEq] at h; simp_all; done)
/-! laws_markIntS: function 59 -/
noncomputable def laws_markIntS_l0  : ((Int) × (Int) × (List Int)) → Option (((Int) × (Int) × (List Int)) ⊕ ((List Int) × (Int))) := fun (x3, x4, x5) =>
  cnd (ile (List.length x5 : Int) x4) (
   some (.inr (x5, x3))) (
   bnd (idx x5 x4) fun v6 =>
   nam ((List.set x5 (Int.toNat x4) x3) : List Int) fun l7 =>
   some (.inl ((IntKind.i64.wrap (x3 + 1)), (IntKind.i64.wrap (x4 + 1)), l7)))
noncomputable def laws_markIntS_l0_S  : ((Int) × (Int) × (List Int)) → St := fun (x3, x4, x5) => ⟨[(0, AV.osl 0 0 (List.length x5) (List.length x5)), (1, AV.int .i64 x3), (5, AV.int .i64 x4)], [(0, Ob.arr 1 (List.map (AV.int .i64) x5) false)], 1⟩
noncomputable def laws_markIntS_l0_X  : ((List Int) × (Int)) → Ex × St := fun (y8, y9) => ((.exit 0), ⟨[(1, AV.int .i64 y9)], [(0, Ob.arr 1 (List.map (AV.int .i64) y8) false)], 1⟩)
noncomputable def laws_markIntS (a0 : Int) (a1 : List Int) : Option ((Int) × (List Int)) :=
  bnd (loopI laws_markIntS_l0 (a0, 0, a1)) fun (y8, y9) =>
  some (y9, y8)
noncomputable def laws_markIntS_e (q : (Int) × (List Int)) : List AV × List Ob := ([AV.osl 0 0 (List.length q.2) (List.length q.2), AV.int .i64 q.1], [Ob.arr 1 (List.map (AV.int .i64) q.2) false])
noncomputable def laws_markIntS_v (q : (Int) × (List Int)) (r : (Int) × (List Int)) : AV × List Ob := (AV.int .i64 r.1, [Ob.arr 1 (List.map (AV.int .i64) r.2) false])
noncomputable def laws_markIntS_x : List AV → List Ob → Option (AV × List Ob) := xOf laws_markIntS_e (fun q => laws_markIntS q.1 q.2) laws_markIntS_v
theorem laws_markIntS_i : ∀ a b, laws_markIntS_e a = laws_markIntS_e b → a = b := by rintro ⟨x0, x1⟩ ⟨y0, y1⟩ h; simp [laws_markIntS_e] at h; simp [h]
@[simp] theorem laws_markIntS_k (z0 : Int) (z1 : List Int) : laws_markIntS_x [AV.osl 0 0 (List.length z1) (List.length z1), AV.int .i64 z0] [Ob.arr 1 (List.map (AV.int .i64) z1) false] = mapR (laws_markIntS z0 z1) (fun r => (AV.int .i64 r.1, [Ob.arr 1 (List.map (AV.int .i64) r.2) false])) :=
  xOf_eq laws_markIntS_i (z0, z1)
theorem laws_markIntS_n {a0 : Int} {a1 : List Int} {r0 : Int} {r1 : List Int} (h : laws_markIntS a0 a1 = some (r0, r1)) : List.length a1 = List.length r1 := by
  unfold laws_markIntS at h; replace h : HS _ _ := h
  obtain ⟨q, e1, h⟩ := HS.bnd h
  replace e1 := loopI_pres (P := fun s => List.length a1 = List.length s.2.2) (Q := fun s => List.length a1 = List.length s.1) e1 (by
    rintro ⟨x3, x4, x5⟩ o hp h; dsimp only at hp; unfold laws_markIntS_l0 at h; replace h : HS _ _ := h
    rcases HS.cnd h with h | h
    · skip
      have h := HS.some h
      first | (cases h; simp_all; done) | (subst h; simp_all; done) | (simp only [Prod.mk.injEq] at h; simp_all; done)
    · skip
      obtain ⟨v6, e2, h⟩ := HS.bnd h
      clear e2
      obtain ⟨l7, e3, h⟩ := HS.nam h; replace e3 := congrArg List.length e3; simp only [List.length_set] at e3
      have h := HS.some h
      first | (cases h; simp_all; done) | (subst h; simp_all; done) | (simp only [Prod.mk.injEq] at h; simp_all; done)) (by simp)
  obtain ⟨y8, y9⟩ := q
  dsimp only at h e1
  have h := HS.some h
  first | (cases h; simp_all; done) | (subst h; simp_all; done) | (simp only [Prod.mk.injEq] at h; simp_all; done)
/-! laws_heldIntS: function 60 -/
noncomputable def laws_heldIntS_l0 (a0 : List Int) : ((Int) × (Int)) → Option (((Int) × (Int)) ⊕ (((Int)) ⊕ (Unit))) := fun (x2, x3) =>
  cnd (ile (List.length a0 : Int) x3) (
   some (.inr (.inl x2))) (
   bnd (idx a0 x3) fun v4 =>
   cnd (ieq v4 x2) (
    some (.inl ((IntKind.i64.wrap (x2 + 1)), (IntKind.i64.wrap (x3 + 1))))) (
    some (.inr (.inr ()))))
noncomputable def laws_heldIntS_l0_S (a0 : List Int) : ((Int) × (Int)) → St := fun (x2, x3) => ⟨[(0, AV.fsl (List.map (AV.int .i64) a0)), (1, AV.int .i64 x2), (5, AV.int .i64 x3)], [], 0⟩
noncomputable def laws_heldIntS_l0_X (a0 : List Int) : (((Int)) ⊕ (Unit)) → Ex × St := fun q => match q with
  | .inl y5 => ((.exit 0), ⟨[(1, AV.int .i64 y5)], [], 0⟩)
  | .inr _ => (.ret, ⟨[(4, AV.int .i64 (-1))], [], 0⟩)
noncomputable def laws_heldIntS (a0 : List Int) (a1 : Int) : Option ((Int)) :=
  bnd (loopI (laws_heldIntS_l0 a0) (a1, 0)) fun q => match q with
  | .inl y5 =>
   some y5
  | .inr () =>
   some (-1)
noncomputable def laws_heldIntS_e (q : (List Int) × (Int)) : List AV × List Ob := ([AV.fsl (List.map (AV.int .i64) q.1), AV.int .i64 q.2], [])
noncomputable def laws_heldIntS_v (q : (List Int) × (Int)) (r : (Int)) : AV × List Ob := (AV.int .i64 r, [])
noncomputable def laws_heldIntS_x : List AV → List Ob → Option (AV × List Ob) := xOf laws_heldIntS_e (fun q => laws_heldIntS q.1 q.2) laws_heldIntS_v
theorem laws_heldIntS_i : ∀ a b, laws_heldIntS_e a = laws_heldIntS_e b → a = b := by rintro ⟨x0, x1⟩ ⟨y0, y1⟩ h; simp [laws_heldIntS_e] at h; simp [h]
@[simp] theorem laws_heldIntS_k (z0 : List Int) (z1 : Int) : laws_heldIntS_x [AV.fsl (List.map (AV.int .i64) z0), AV.int .i64 z1] [] = mapR (laws_heldIntS z0 z1) (fun r => (AV.int .i64 r, [])) :=
  xOf_eq laws_heldIntS_i (z0, z1)
/-! laws_FnExactTilesOf: function 9 -/
noncomputable def laws_FnExactTilesOf (a0 : Int) (a1 : Int) (a2 : List TBox) : Option ((Bool)) :=
  bnd (laws_szBoxS a2 1048576) fun v1 =>
  cnd (ile 0 v1) (
   bnd (laws_toBoxS a2) fun v2 =>
   bnd (spec_TilesOf a0 a1 v2) fun v3 =>
   bnd (impl_TilesOf a0 a1 v2) fun v4 =>
   bnd (laws_eqIntS v4 v3) fun v5 =>
   cnd v5 (
    bnd (laws_eqBoxS v2 v2) fun v6 =>
    cnd v6 (
     bnd (laws_markBoxS 1 v2) fun (w8, w9) =>
     cnd (ile 0 w8) (
      bnd (laws_markIntS 1 v4) fun (w11, w12) =>
      bnd (laws_heldIntS w12 1) fun v13 =>
      cnd (ile 0 v13) (
       cnd (ieq v13 w11) (
        some true) (
        some false)) (
       some false)) (
      some false)) (
     some false)) (
    some false)) (
   some true)
noncomputable def laws_FnExactTilesOf_e (q : (Int) × (Int) × (List TBox)) : List AV × List Ob := ([AV.int .i64 q.1, AV.int .i64 q.2.1, AV.fsl (List.map eBox q.2.2)], [])
noncomputable def laws_FnExactTilesOf_v (q : (Int) × (Int) × (List TBox)) (r : (Bool)) : AV × List Ob := (AV.bool r, [])
noncomputable def laws_FnExactTilesOf_x : List AV → List Ob → Option (AV × List Ob) := xOf laws_FnExactTilesOf_e (fun q => laws_FnExactTilesOf q.1 q.2.1 q.2.2) laws_FnExactTilesOf_v
theorem laws_FnExactTilesOf_i : ∀ a b, laws_FnExactTilesOf_e a = laws_FnExactTilesOf_e b → a = b := by rintro ⟨x0, x1, x2⟩ ⟨y0, y1, y2⟩ h; simp [laws_FnExactTilesOf_e] at h; simp [h]
@[simp] theorem laws_FnExactTilesOf_k (z0 : Int) (z1 : Int) (z2 : List TBox) : laws_FnExactTilesOf_x [AV.int .i64 z0, AV.int .i64 z1, AV.fsl (List.map eBox z2)] [] = mapR (laws_FnExactTilesOf z0 z1 z2) (fun r => (AV.bool r, [])) :=
  xOf_eq laws_FnExactTilesOf_i (z0, z1, z2)
end Go.Proofs.Ytoafihhhdnmliaa.Am
