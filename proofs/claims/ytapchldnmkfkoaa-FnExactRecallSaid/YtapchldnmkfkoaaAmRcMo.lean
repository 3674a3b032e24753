import Derived.Test.YtapchldnmkfkoaaAmRcTy
set_option linter.unusedVariables false
set_option linter.unusedSimpArgs false
set_option linter.unusedSectionVars false
namespace Go.Proofs.Ytapchldnmkfkoaa.Am
open Go Go.Proofs
set_option maxRecDepth 100000
set_option linter.unusedSimpArgs false
set_option linter.unusedVariables false
set_option maxHeartbeats 4000000
noncomputable def laws_szIntS (a0 : List Int) (a1 : Int) : Option ((Int)) :=
  cnd (ile 0 (IntKind.i64.wrap (a1 - (List.length a0 : Int)))) (
   some (IntKind.i64.wrap (a1 - (List.length a0 : Int)))) (
   some (-1))
noncomputable def laws_szIntS_e (q : (List Int) × (Int)) : List AV × List Ob := ([AV.fsl (List.map (AV.int .i64) q.1),AV.int .i64 q.2],[])
noncomputable def laws_szIntS_v (q : (List Int) × (Int)) (r : (Int)) : AV × List Ob := (AV.int .i64 r,[])
noncomputable def laws_szIntS_x : List AV → List Ob → Option (AV × List Ob) := xOf laws_szIntS_e (fun q => laws_szIntS q.1 q.2) laws_szIntS_v
theorem laws_szIntS_i : ∀ a b,laws_szIntS_e a = laws_szIntS_e b → a = b := by rintro ⟨x0,x1⟩ ⟨y0,y1⟩ h; simp [laws_szIntS_e] at h; simp [h]
@[simp] theorem laws_szIntS_k (z0 : List Int) (z1 : Int) : laws_szIntS_x [AV.fsl (List.map (AV.int .i64) z0),AV.int .i64 z1] [] = mapR (laws_szIntS z0 z1) (fun r => (AV.int .i64 r,[])) :=
  xOf_eq laws_szIntS_i (z0,z1)
noncomputable def laws_szMask (a0 : TMask) (a1 : Int) : Option ((Int)) :=
  bnd (laws_szIntS a0.bits a1) fun v1 =>
  cnd (ile 0 v1) (
   some v1) (
   some (-1))
noncomputable def laws_szMask_e (q : (TMask) × (Int)) : List AV × List Ob := ([AV.agg [AV.int .i64 q.1.box.x0,AV.int .i64 q.1.box.y0,AV.int .i64 q.1.box.x1,AV.int .i64 q.1.box.y1,AV.fsl (List.map (AV.int .i64) q.1.bits)],AV.int .i64 q.2],[])
noncomputable def laws_szMask_v (q : (TMask) × (Int)) (r : (Int)) : AV × List Ob := (AV.int .i64 r,[])
noncomputable def laws_szMask_x : List AV → List Ob → Option (AV × List Ob) := xOf laws_szMask_e (fun q => laws_szMask q.1 q.2) laws_szMask_v
theorem laws_szMask_i : ∀ a b,laws_szMask_e a = laws_szMask_e b → a = b := by rintro ⟨⟨⟨x0,x1,x2,x3⟩,x4⟩,x5⟩ ⟨⟨⟨y0,y1,y2,y3⟩,y4⟩,y5⟩ h; simp [laws_szMask_e] at h; simp [h]
@[simp] theorem laws_szMask_k (z0 : Int) (z1 : Int) (z2 : Int) (z3 : Int) (z4 : List Int) (z5 : Int) : laws_szMask_x [AV.agg [AV.int .i64 z0,AV.int .i64 z1,AV.int .i64 z2,AV.int .i64 z3,AV.fsl (List.map (AV.int .i64) z4)],AV.int .i64 z5] [] = mapR (laws_szMask ⟨⟨z0,z1,z2,z3⟩,z4⟩ z5) (fun r => (AV.int .i64 r,[])) :=
  xOf_eq laws_szMask_i (⟨⟨z0,z1,z2,z3⟩,z4⟩,z5)
noncomputable def laws_szKept (a0 : TKept) (a1 : Int) : Option ((Int)) :=
  bnd (laws_szMask a0.mask a1) fun v1 =>
  cnd (ile 0 v1) (
   some v1) (
   some (-1))
noncomputable def laws_szKept_e (q : (TKept) × (Int)) : List AV × List Ob := ([AV.agg [AV.int .i64 q.1.id,AV.int .i64 q.1.mask.box.x0,AV.int .i64 q.1.mask.box.y0,AV.int .i64 q.1.mask.box.x1,AV.int .i64 q.1.mask.box.y1,AV.fsl (List.map (AV.int .i64) q.1.mask.bits)],AV.int .i64 q.2],[])
noncomputable def laws_szKept_v (q : (TKept) × (Int)) (r : (Int)) : AV × List Ob := (AV.int .i64 r,[])
noncomputable def laws_szKept_x : List AV → List Ob → Option (AV × List Ob) := xOf laws_szKept_e (fun q => laws_szKept q.1 q.2) laws_szKept_v
theorem laws_szKept_i : ∀ a b,laws_szKept_e a = laws_szKept_e b → a = b := by rintro ⟨⟨x0,⟨⟨x1,x2,x3,x4⟩,x5⟩⟩,x6⟩ ⟨⟨y0,⟨⟨y1,y2,y3,y4⟩,y5⟩⟩,y6⟩ h; simp [laws_szKept_e] at h; simp [h]
@[simp] theorem laws_szKept_k (z0 : Int) (z1 : Int) (z2 : Int) (z3 : Int) (z4 : Int) (z5 : List Int) (z6 : Int) : laws_szKept_x [AV.agg [AV.int .i64 z0,AV.int .i64 z1,AV.int .i64 z2,AV.int .i64 z3,AV.int .i64 z4,AV.fsl (List.map (AV.int .i64) z5)],AV.int .i64 z6] [] = mapR (laws_szKept ⟨z0,⟨⟨z1,z2,z3,z4⟩,z5⟩⟩ z6) (fun r => (AV.int .i64 r,[])) :=
  xOf_eq laws_szKept_i (⟨z0,⟨⟨z1,z2,z3,z4⟩,z5⟩⟩,z6)
noncomputable def laws_szKeptS_l0 (a0 : List TKept) : ((Int) × (Int)) → Option (((Int) × (Int)) ⊕ (((Int)) ⊕ (Unit))) := fun (x3,x4) =>
  cnd (ile (List.length a0 : Int) x4) (
   some (.inr (.inl x3))) (
   bnd (idx a0 x4) fun v5 =>
   bnd (laws_szKept v5 x3) fun v6 =>
   cnd (ile 0 v6) (
    some (.inl (v6,(IntKind.i64.wrap (x4 + 1))))) (
    some (.inr (.inr ()))))
noncomputable def laws_szKeptS_l0_S (a0 : List TKept) : ((Int) × (Int)) → St := fun (x3,x4) => ⟨[(0,AV.fsl (List.map eKept a0)),(1,AV.int .i64 x3),(5,AV.int .i64 x4)],[],0⟩
noncomputable def laws_szKeptS_l0_X (a0 : List TKept) : (((Int)) ⊕ (Unit)) → Ex × St := fun q => match q with
  | .inl y7 => ((.exit 0),⟨[(1,AV.int .i64 y7)],[],0⟩)
  | .inr _ => (.ret,⟨[(4,AV.int .i64 (-1))],[],0⟩)
noncomputable def laws_szKeptS (a0 : List TKept) (a1 : Int) : Option ((Int)) :=
  cnd (ile 0 (IntKind.i64.wrap (a1 - (List.length a0 : Int)))) (
   bnd (loopI (laws_szKeptS_l0 a0) ((IntKind.i64.wrap (a1 - (List.length a0 : Int))),0)) fun q => match q with
   | .inl y7 =>
    some y7
   | .inr () =>
    some (-1)) (
   some (-1))
noncomputable def laws_szKeptS_e (q : (List TKept) × (Int)) : List AV × List Ob := ([AV.fsl (List.map eKept q.1),AV.int .i64 q.2],[])
noncomputable def laws_szKeptS_v (q : (List TKept) × (Int)) (r : (Int)) : AV × List Ob := (AV.int .i64 r,[])
noncomputable def laws_szKeptS_x : List AV → List Ob → Option (AV × List Ob) := xOf laws_szKeptS_e (fun q => laws_szKeptS q.1 q.2) laws_szKeptS_v
theorem laws_szKeptS_i : ∀ a b,laws_szKeptS_e a = laws_szKeptS_e b → a = b := by rintro ⟨x0,x1⟩ ⟨y0,y1⟩ h; simp [laws_szKeptS_e] at h; simp [h]
@[simp] theorem laws_szKeptS_k (z0 : List TKept) (z1 : Int) : laws_szKeptS_x [AV.fsl (List.map eKept z0),AV.int .i64 z1] [] = mapR (laws_szKeptS z0 z1) (fun r => (AV.int .i64 r,[])) :=
  xOf_eq laws_szKeptS_i (z0,z1)
noncomputable def laws_szCache (a0 : TCache) (a1 : Int) : Option ((Int)) :=
  bnd (laws_szKeptS a0.list a1) fun v1 =>
  cnd (ile 0 v1) (
   some v1) (
   some (-1))
noncomputable def laws_szCache_e (q : (TCache) × (Int)) : List AV × List Ob := ([AV.agg [AV.int .i64 q.1.most,AV.fsl (List.map eKept q.1.list)],AV.int .i64 q.2],[])
noncomputable def laws_szCache_v (q : (TCache) × (Int)) (r : (Int)) : AV × List Ob := (AV.int .i64 r,[])
noncomputable def laws_szCache_x : List AV → List Ob → Option (AV × List Ob) := xOf laws_szCache_e (fun q => laws_szCache q.1 q.2) laws_szCache_v
theorem laws_szCache_i : ∀ a b,laws_szCache_e a = laws_szCache_e b → a = b := by rintro ⟨⟨x0,x1⟩,x2⟩ ⟨⟨y0,y1⟩,y2⟩ h; simp [laws_szCache_e] at h; simp [h]
@[simp] theorem laws_szCache_k (z0 : Int) (z1 : List TKept) (z2 : Int) : laws_szCache_x [AV.agg [AV.int .i64 z0,AV.fsl (List.map eKept z1)],AV.int .i64 z2] [] = mapR (laws_szCache ⟨z0,z1⟩ z2) (fun r => (AV.int .i64 r,[])) :=
  xOf_eq laws_szCache_i (⟨z0,z1⟩,z2)
noncomputable def laws_toBox (a0 : TBox) : Option ((TBox)) :=
  some a0
noncomputable def laws_toBox_e (q : (TBox)) : List AV × List Ob := ([AV.agg [AV.int .i64 q.x0,AV.int .i64 q.y0,AV.int .i64 q.x1,AV.int .i64 q.y1]],[])
noncomputable def laws_toBox_v (q : (TBox)) (r : (TBox)) : AV × List Ob := (AV.agg [AV.int .i64 r.x0,AV.int .i64 r.y0,AV.int .i64 r.x1,AV.int .i64 r.y1],[])
noncomputable def laws_toBox_x : List AV → List Ob → Option (AV × List Ob) := xOf laws_toBox_e (fun q => laws_toBox q) laws_toBox_v
theorem laws_toBox_i : ∀ a b,laws_toBox_e a = laws_toBox_e b → a = b := by rintro ⟨x0,x1,x2,x3⟩ ⟨y0,y1,y2,y3⟩ h; simp [laws_toBox_e] at h; simp [h]
@[simp] theorem laws_toBox_k (z0 : Int) (z1 : Int) (z2 : Int) (z3 : Int) : laws_toBox_x [AV.agg [AV.int .i64 z0,AV.int .i64 z1,AV.int .i64 z2,AV.int .i64 z3]] [] = mapR (laws_toBox ⟨z0,z1,z2,z3⟩) (fun r => (AV.agg [AV.int .i64 r.x0,AV.int .i64 r.y0,AV.int .i64 r.x1,AV.int .i64 r.y1],[])) :=
  xOf_eq laws_toBox_i ⟨z0,z1,z2,z3⟩
noncomputable def laws_toIntS_l0 (a0 : List Int) : ((Int) × (List Int)) → Option (((Int) × (List Int)) ⊕ ((List Int))) := fun (x5,x6) =>
  cnd (ile (List.length a0 : Int) x5) (
   some (.inr x6)) (
   bnd (idx a0 x5) fun v7 =>
   bnd (idx x6 x5) fun v8 =>
   nam ((List.set x6 (Int.toNat x5) v7) : List Int) fun l9 =>
   some (.inl ((IntKind.i64.wrap (x5 + 1)),l9)))
noncomputable def laws_toIntS_l0_S (a0 : List Int) : ((Int) × (List Int)) → St := fun (x5,x6) => ⟨[(0,AV.fsl (List.map (AV.int .i64) a0)),(3,AV.osl 0 0 (List.length x6) (List.length x6)),(4,AV.int .i64 x5)],[(0,Ob.arr 1 (List.map (AV.int .i64) x6) false)],1⟩
noncomputable def laws_toIntS_l0_X (a0 : List Int) : ((List Int)) → Ex × St := fun y10 => ((.exit 0),⟨[(3,AV.osl 0 0 (List.length y10) (List.length y10))],[(0,Ob.arr 1 (List.map (AV.int .i64) y10) false)],1⟩)
noncomputable def laws_toIntS (a0 : List Int) : Option ((List Int)) :=
  chkP (0 ≤ (List.length a0 : Int) ∧ (List.length a0 : Int) ≤ (List.length a0 : Int) ∧ (List.length a0 : Int) ≤ 17592186044416 ∧ (List.length a0 : Int) * 8 ≤ 17592186044416) (
  nam ((List.replicate (Int.toNat (List.length a0 : Int)) 0) : List Int) fun l1 =>
  bnd (loopI (laws_toIntS_l0 a0) (0,l1)) fun y10 =>
  some y10)
noncomputable def laws_toIntS_e (q : (List Int)) : List AV × List Ob := ([AV.fsl (List.map (AV.int .i64) q)],[])
noncomputable def laws_toIntS_v (q : (List Int)) (r : (List Int)) : AV × List Ob := (AV.osl 0 0 (List.length r) (List.length r),[Ob.arr 1 (List.map (AV.int .i64) r) false])
noncomputable def laws_toIntS_x : List AV → List Ob → Option (AV × List Ob) := xOf laws_toIntS_e (fun q => laws_toIntS q) laws_toIntS_v
theorem laws_toIntS_i : ∀ a b,laws_toIntS_e a = laws_toIntS_e b → a = b := by rintro x0 y0 h; simp [laws_toIntS_e] at h; simp [h]
@[simp] theorem laws_toIntS_k (z0 : List Int) : laws_toIntS_x [AV.fsl (List.map (AV.int .i64) z0)] [] = mapR (laws_toIntS z0) (fun r => (AV.osl 0 0 (List.length r) (List.length r),[Ob.arr 1 (List.map (AV.int .i64) r) false])) :=
  xOf_eq laws_toIntS_i z0
noncomputable def laws_toMask (a0 : TMask) : Option ((TBox) × (List Int)) :=
  bnd (laws_toBox a0.box) fun v1 =>
  bnd (laws_toIntS a0.bits) fun v2 =>
  some (v1,v2)
noncomputable def laws_toMask_e (q : (TMask)) : List AV × List Ob := ([AV.agg [AV.int .i64 q.box.x0,AV.int .i64 q.box.y0,AV.int .i64 q.box.x1,AV.int .i64 q.box.y1,AV.fsl (List.map (AV.int .i64) q.bits)]],[])
noncomputable def laws_toMask_v (q : (TMask)) (r : (TBox) × (List Int)) : AV × List Ob := (AV.agg [AV.int .i64 r.1.x0,AV.int .i64 r.1.y0,AV.int .i64 r.1.x1,AV.int .i64 r.1.y1,AV.osl 0 0 (List.length r.2) (List.length r.2)],[Ob.arr 1 (List.map (AV.int .i64) r.2) false])
noncomputable def laws_toMask_x : List AV → List Ob → Option (AV × List Ob) := xOf laws_toMask_e (fun q => laws_toMask q) laws_toMask_v
theorem laws_toMask_i : ∀ a b,laws_toMask_e a = laws_toMask_e b → a = b := by rintro ⟨⟨x0,x1,x2,x3⟩,x4⟩ ⟨⟨y0,y1,y2,y3⟩,y4⟩ h; simp [laws_toMask_e] at h; simp [h]
@[simp] theorem laws_toMask_k (z0 : Int) (z1 : Int) (z2 : Int) (z3 : Int) (z4 : List Int) : laws_toMask_x [AV.agg [AV.int .i64 z0,AV.int .i64 z1,AV.int .i64 z2,AV.int .i64 z3,AV.fsl (List.map (AV.int .i64) z4)]] [] = mapR (laws_toMask ⟨⟨z0,z1,z2,z3⟩,z4⟩) (fun r => (AV.agg [AV.int .i64 r.1.x0,AV.int .i64 r.1.y0,AV.int .i64 r.1.x1,AV.int .i64 r.1.y1,AV.osl 0 0 (List.length r.2) (List.length r.2)],[Ob.arr 1 (List.map (AV.int .i64) r.2) false])) :=
  xOf_eq laws_toMask_i ⟨⟨z0,z1,z2,z3⟩,z4⟩
noncomputable def laws_toKept (a0 : TKept) : Option ((Int) × (TBox) × (List Int)) :=
  bnd (laws_toMask a0.mask) fun (w2,w3) =>
  some (a0.id,w2,w3)
noncomputable def laws_toKept_e (q : (TKept)) : List AV × List Ob := ([AV.agg [AV.int .i64 q.id,AV.int .i64 q.mask.box.x0,AV.int .i64 q.mask.box.y0,AV.int .i64 q.mask.box.x1,AV.int .i64 q.mask.box.y1,AV.fsl (List.map (AV.int .i64) q.mask.bits)]],[])
noncomputable def laws_toKept_v (q : (TKept)) (r : (Int) × (TBox) × (List Int)) : AV × List Ob := (AV.agg [AV.int .i64 r.1,AV.int .i64 r.2.1.x0,AV.int .i64 r.2.1.y0,AV.int .i64 r.2.1.x1,AV.int .i64 r.2.1.y1,AV.osl 0 0 (List.length r.2.2) (List.length r.2.2)],[Ob.arr 1 (List.map (AV.int .i64) r.2.2) false])
noncomputable def laws_toKept_x : List AV → List Ob → Option (AV × List Ob) := xOf laws_toKept_e (fun q => laws_toKept q) laws_toKept_v
theorem laws_toKept_i : ∀ a b,laws_toKept_e a = laws_toKept_e b → a = b := by rintro ⟨x0,⟨⟨x1,x2,x3,x4⟩,x5⟩⟩ ⟨y0,⟨⟨y1,y2,y3,y4⟩,y5⟩⟩ h; simp [laws_toKept_e] at h; simp [h]
@[simp] theorem laws_toKept_k (z0 : Int) (z1 : Int) (z2 : Int) (z3 : Int) (z4 : Int) (z5 : List Int) : laws_toKept_x [AV.agg [AV.int .i64 z0,AV.int .i64 z1,AV.int .i64 z2,AV.int .i64 z3,AV.int .i64 z4,AV.fsl (List.map (AV.int .i64) z5)]] [] = mapR (laws_toKept ⟨z0,⟨⟨z1,z2,z3,z4⟩,z5⟩⟩) (fun r => (AV.agg [AV.int .i64 r.1,AV.int .i64 r.2.1.x0,AV.int .i64 r.2.1.y0,AV.int .i64 r.2.1.x1,AV.int .i64 r.2.1.y1,AV.osl 0 0 (List.length r.2.2) (List.length r.2.2)],[Ob.arr 1 (List.map (AV.int .i64) r.2.2) false])) :=
  xOf_eq laws_toKept_i ⟨z0,⟨⟨z1,z2,z3,z4⟩,z5⟩⟩
noncomputable def laws_toKeptS_l0 (a0 : List TKept) : ((Int) × (List TKept)) → Option (((Int) × (List TKept)) ⊕ ((List TKept))) := fun (x8,x9) =>
  cnd (ile (List.length a0 : Int) x8) (
   some (.inr x9)) (
   bnd (idx a0 x8) fun v10 =>
   bnd (laws_toKept v10) fun (w12,w13,w14) =>
   bnd (idx x9 x8) fun v15 =>
   some (.inl ((IntKind.i64.wrap (x8 + 1)),(List.set x9 (Int.toNat x8) (TKept.mk w12 (TMask.mk w13 w14))))))
noncomputable def laws_toKeptS_l0_S (a0 : List TKept) : ((Int) × (List TKept)) → St := fun (x8,x9) => ⟨[(0,AV.fsl (List.map eKept a0)),(3,AV.osl 0 0 (List.length x9) (List.length x9)),(4,AV.int .i64 x8)],[(0,Ob.nar 6 (List.map eKept x9) [0,0,0,0,0,1])],1⟩
noncomputable def laws_toKeptS_l0_X (a0 : List TKept) : ((List TKept)) → Ex × St := fun y16 => ((.exit 0),⟨[(3,AV.osl 0 0 (List.length y16) (List.length y16))],[(0,Ob.nar 6 (List.map eKept y16) [0,0,0,0,0,1])],1⟩)
noncomputable def laws_toKeptS (a0 : List TKept) : Option ((List TKept)) :=
  chkP (0 ≤ (List.length a0 : Int) ∧ (List.length a0 : Int) ≤ (List.length a0 : Int) ∧ (List.length a0 : Int) ≤ 17592186044416 ∧ (List.length a0 : Int) * 64 ≤ 17592186044416) (
  nam ((List.replicate (Int.toNat (List.length a0 : Int)) (TKept.mk 0 (TMask.mk (TBox.mk 0 0 0 0) []))) : List TKept) fun l1 =>
  bnd (loopI (laws_toKeptS_l0 a0) (0,l1)) fun y16 =>
  some y16)
noncomputable def laws_toKeptS_e (q : (List TKept)) : List AV × List Ob := ([AV.fsl (List.map eKept q)],[])
noncomputable def laws_toKeptS_v (q : (List TKept)) (r : (List TKept)) : AV × List Ob := (AV.osl 0 0 (List.length r) (List.length r),[Ob.nar 6 (List.map eKept r) [0,0,0,0,0,1]])
noncomputable def laws_toKeptS_x : List AV → List Ob → Option (AV × List Ob) := xOf laws_toKeptS_e (fun q => laws_toKeptS q) laws_toKeptS_v
theorem laws_toKeptS_i : ∀ a b,laws_toKeptS_e a = laws_toKeptS_e b → a = b := by rintro x0 y0 h; simp [laws_toKeptS_e] at h; simp [h]
@[simp] theorem laws_toKeptS_k (z0 : List TKept) : laws_toKeptS_x [AV.fsl (List.map eKept z0)] [] = mapR (laws_toKeptS z0) (fun r => (AV.osl 0 0 (List.length r) (List.length r),[Ob.nar 6 (List.map eKept r) [0,0,0,0,0,1]])) :=
  xOf_eq laws_toKeptS_i z0
noncomputable def laws_toCache (a0 : TCache) : Option ((Int) × (List TKept)) :=
  bnd (laws_toKeptS a0.list) fun v1 =>
  some (a0.most,v1)
noncomputable def laws_toCache_e (q : (TCache)) : List AV × List Ob := ([AV.agg [AV.int .i64 q.most,AV.fsl (List.map eKept q.list)]],[])
noncomputable def laws_toCache_v (q : (TCache)) (r : (Int) × (List TKept)) : AV × List Ob := (AV.agg [AV.int .i64 r.1,AV.osl 0 0 (List.length r.2) (List.length r.2)],[Ob.nar 6 (List.map eKept r.2) [0,0,0,0,0,1]])
noncomputable def laws_toCache_x : List AV → List Ob → Option (AV × List Ob) := xOf laws_toCache_e (fun q => laws_toCache q) laws_toCache_v
theorem laws_toCache_i : ∀ a b,laws_toCache_e a = laws_toCache_e b → a = b := by rintro ⟨x0,x1⟩ ⟨y0,y1⟩ h; simp [laws_toCache_e] at h; simp [h]
@[simp] theorem laws_toCache_k (z0 : Int) (z1 : List TKept) : laws_toCache_x [AV.agg [AV.int .i64 z0,AV.fsl (List.map eKept z1)]] [] = mapR (laws_toCache ⟨z0,z1⟩) (fun r => (AV.agg [AV.int .i64 r.1,AV.osl 0 0 (List.length r.2) (List.length r.2)],[Ob.nar 6 (List.map eKept r.2) [0,0,0,0,0,1]])) :=
  xOf_eq laws_toCache_i ⟨z0,z1⟩
noncomputable def spec_l01In (a0 : Int) (a1 : Int) (a2 : Int) : Option ((Bool)) :=
  cnd (ile a1 a0) (
   some (ile a0 a2)) (
   some false)
noncomputable def spec_l01In_e (q : (Int) × (Int) × (Int)) : List AV × List Ob := ([AV.int .i64 q.1,AV.int .i64 q.2.1,AV.int .i64 q.2.2],[])
noncomputable def spec_l01In_v (q : (Int) × (Int) × (Int)) (r : (Bool)) : AV × List Ob := (AV.bool r,[])
noncomputable def spec_l01In_x : List AV → List Ob → Option (AV × List Ob) := xOf spec_l01In_e (fun q => spec_l01In q.1 q.2.1 q.2.2) spec_l01In_v
theorem spec_l01In_i : ∀ a b,spec_l01In_e a = spec_l01In_e b → a = b := by rintro ⟨x0,x1,x2⟩ ⟨y0,y1,y2⟩ h; simp [spec_l01In_e] at h; simp [h]
@[simp] theorem spec_l01In_k (z0 : Int) (z1 : Int) (z2 : Int) : spec_l01In_x [AV.int .i64 z0,AV.int .i64 z1,AV.int .i64 z2] [] = mapR (spec_l01In z0 z1 z2) (fun r => (AV.bool r,[])) :=
  xOf_eq spec_l01In_i (z0,z1,z2)
noncomputable def spec_Empty (a0 : TBox) : Option ((Bool)) :=
  cnd (ile a0.x1 a0.x0) (
   some true) (
   some (ile a0.y1 a0.y0))
noncomputable def spec_Empty_e (q : (TBox)) : List AV × List Ob := ([AV.agg [AV.int .i64 q.x0,AV.int .i64 q.y0,AV.int .i64 q.x1,AV.int .i64 q.y1]],[])
noncomputable def spec_Empty_v (q : (TBox)) (r : (Bool)) : AV × List Ob := (AV.bool r,[])
noncomputable def spec_Empty_x : List AV → List Ob → Option (AV × List Ob) := xOf spec_Empty_e (fun q => spec_Empty q) spec_Empty_v
theorem spec_Empty_i : ∀ a b,spec_Empty_e a = spec_Empty_e b → a = b := by rintro ⟨x0,x1,x2,x3⟩ ⟨y0,y1,y2,y3⟩ h; simp [spec_Empty_e] at h; simp [h]
@[simp] theorem spec_Empty_k (z0 : Int) (z1 : Int) (z2 : Int) (z3 : Int) : spec_Empty_x [AV.agg [AV.int .i64 z0,AV.int .i64 z1,AV.int .i64 z2,AV.int .i64 z3]] [] = mapR (spec_Empty ⟨z0,z1,z2,z3⟩) (fun r => (AV.bool r,[])) :=
  xOf_eq spec_Empty_i ⟨z0,z1,z2,z3⟩
noncomputable def spec_l11Box (a0 : TBox) : Option ((Bool)) :=
  bnd (spec_Empty a0) fun v1 =>
  cnd v1 (
   some false) (
   bnd (spec_l01In a0.x0 (-2000) 2000) fun v2 =>
   cnd v2 (
    bnd (spec_l01In a0.y0 (-2000) 2000) fun v3 =>
    cnd v3 (
     bnd (spec_l01In a0.x1 (-2000) 2000) fun v4 =>
     cnd v4 (
      bnd (spec_l01In a0.y1 (-2000) 2000) fun v5 =>
      cnd v5 (
       cnd (ile (IntKind.i64.wrap (a0.x1 - a0.x0)) 60) (
        some (ile (IntKind.i64.wrap (a0.y1 - a0.y0)) 60)) (
        some false)) (
       some false)) (
      some false)) (
     some false)) (
    some false))
noncomputable def spec_l11Box_e (q : (TBox)) : List AV × List Ob := ([AV.agg [AV.int .i64 q.x0,AV.int .i64 q.y0,AV.int .i64 q.x1,AV.int .i64 q.y1]],[])
noncomputable def spec_l11Box_v (q : (TBox)) (r : (Bool)) : AV × List Ob := (AV.bool r,[])
noncomputable def spec_l11Box_x : List AV → List Ob → Option (AV × List Ob) := xOf spec_l11Box_e (fun q => spec_l11Box q) spec_l11Box_v
theorem spec_l11Box_i : ∀ a b,spec_l11Box_e a = spec_l11Box_e b → a = b := by rintro ⟨x0,x1,x2,x3⟩ ⟨y0,y1,y2,y3⟩ h; simp [spec_l11Box_e] at h; simp [h]
@[simp] theorem spec_l11Box_k (z0 : Int) (z1 : Int) (z2 : Int) (z3 : Int) : spec_l11Box_x [AV.agg [AV.int .i64 z0,AV.int .i64 z1,AV.int .i64 z2,AV.int .i64 z3]] [] = mapR (spec_l11Box ⟨z0,z1,z2,z3⟩) (fun r => (AV.bool r,[])) :=
  xOf_eq spec_l11Box_i ⟨z0,z1,z2,z3⟩
noncomputable def spec_MaskOk_l0 (a0 : TMask) : ((Int)) → Option (((Int)) ⊕ ((Unit) ⊕ (Unit))) := fun x4 =>
  cnd (ile (List.length a0.bits : Int) x4) (
   some (.inr (.inl ()))) (
   bnd (idx a0.bits x4) fun v5 =>
   bnd (spec_l01In v5 0 15) fun v6 =>
   cnd v6 (
    some (.inl (IntKind.i64.wrap (x4 + 1)))) (
    some (.inr (.inr ()))))
noncomputable def spec_MaskOk_l0_S (a0 : TMask) : ((Int)) → St := fun x4 => ⟨[(1,AV.optr 0 0 5),(3,AV.int .i64 x4)],[(0,Ob.box [AV.int .i64 a0.box.x0,AV.int .i64 a0.box.y0,AV.int .i64 a0.box.x1,AV.int .i64 a0.box.y1,AV.fsl (List.map (AV.int .i64) a0.bits)])],1⟩
noncomputable def spec_MaskOk_l0_X (a0 : TMask) : ((Unit) ⊕ (Unit)) → Ex × St := fun q => match q with
  | .inl _ => ((.exit 0),⟨[],[],0⟩)
  | .inr _ => (.ret,⟨[(2,AV.bool false)],[],0⟩)
noncomputable def spec_MaskOk (a0 : TMask) : Option ((Bool)) :=
  cnd (ieq (List.length a0.bits : Int) 0) (
   some (andB (decide (a0.box.x0 = 0)) (andB (decide (a0.box.y0 = 0)) (andB (decide (a0.box.x1 = 0)) (andB (decide (a0.box.y1 = 0)) true))))) (
   bnd (spec_l11Box a0.box) fun v1 =>
   cnd v1 (
    cnd (ieq (List.length a0.bits : Int) (IntKind.i64.wrap ((IntKind.i64.wrap (a0.box.x1 - a0.box.x0)) * (IntKind.i64.wrap (a0.box.y1 - a0.box.y0))))) (
     bnd (loopI (spec_MaskOk_l0 a0) 0) fun q => match q with
     | .inl () =>
      some true
     | .inr () =>
      some false) (
     some false)) (
    some false))
noncomputable def spec_MaskOk_e (q : (TMask)) : List AV × List Ob := ([AV.agg [AV.int .i64 q.box.x0,AV.int .i64 q.box.y0,AV.int .i64 q.box.x1,AV.int .i64 q.box.y1,AV.fsl (List.map (AV.int .i64) q.bits)]],[])
noncomputable def spec_MaskOk_v (q : (TMask)) (r : (Bool)) : AV × List Ob := (AV.bool r,[])
noncomputable def spec_MaskOk_x : List AV → List Ob → Option (AV × List Ob) := xOf spec_MaskOk_e (fun q => spec_MaskOk q) spec_MaskOk_v
theorem spec_MaskOk_i : ∀ a b,spec_MaskOk_e a = spec_MaskOk_e b → a = b := by rintro ⟨⟨x0,x1,x2,x3⟩,x4⟩ ⟨⟨y0,y1,y2,y3⟩,y4⟩ h; simp [spec_MaskOk_e] at h; simp [h]
@[simp] theorem spec_MaskOk_k (z0 : Int) (z1 : Int) (z2 : Int) (z3 : Int) (z4 : List Int) : spec_MaskOk_x [AV.agg [AV.int .i64 z0,AV.int .i64 z1,AV.int .i64 z2,AV.int .i64 z3,AV.fsl (List.map (AV.int .i64) z4)]] [] = mapR (spec_MaskOk ⟨⟨z0,z1,z2,z3⟩,z4⟩) (fun r => (AV.bool r,[])) :=
  xOf_eq spec_MaskOk_i ⟨⟨z0,z1,z2,z3⟩,z4⟩
noncomputable def spec_CacheOk_l0 (a0 : TCache) (x5 : Int) : ((Int)) → Option (((Int)) ⊕ ((Unit) ⊕ (Unit))) := fun x11 =>
  cnd (ile x5 x11) (
   some (.inr (.inl ()))) (
   bnd (idx a0.list x11) fun v12 =>
   bnd (idx a0.list x5) fun v13 =>
   cnd (ieq v12.id v13.id) (
    some (.inr (.inr ()))) (
    some (.inl (IntKind.i64.wrap (x11 + 1)))))
noncomputable def spec_CacheOk_l0_S (a0 : TCache) (x5 : Int) : ((Int)) → St := fun x11 => ⟨[(1,AV.optr 0 0 2),(3,AV.int .i64 x5),(4,AV.int .i64 x11)],[(0,Ob.box [AV.int .i64 a0.most,AV.fsl (List.map eKept a0.list)])],1⟩
noncomputable def spec_CacheOk_l0_X (a0 : TCache) (x5 : Int) : ((Unit) ⊕ (Unit)) → Ex × St := fun q => match q with
  | .inl _ => ((.exit 2),⟨[(1,AV.optr 0 0 2),(3,AV.int .i64 x5)],[(0,Ob.box [AV.int .i64 a0.most,AV.fsl (List.map eKept a0.list)])],1⟩)
  | .inr _ => (.ret,⟨[(2,AV.bool false)],[],0⟩)
noncomputable def spec_CacheOk_l1 (a0 : TCache) : ((Int)) → Option (((Int)) ⊕ ((Unit) ⊕ (Unit))) := fun x5 =>
  cnd (ile (List.length a0.list : Int) x5) (
   some (.inr (.inl ()))) (
   bnd (idx a0.list x5) fun v6 =>
   bnd (spec_l01In v6.id 1 99) fun v7 =>
   cnd v7 (
    bnd (spec_MaskOk v6.mask) fun v8 =>
    cnd v8 (
     bnd (loopI (spec_CacheOk_l0 a0 x5) 0) fun q => match q with
     | .inl () =>
      some (.inl (IntKind.i64.wrap (x5 + 1)))
     | .inr () =>
      some (.inr (.inr ()))) (
     some (.inr (.inr ())))) (
    some (.inr (.inr ()))))
noncomputable def spec_CacheOk_l1_S (a0 : TCache) : ((Int)) → St := fun x5 => ⟨[(1,AV.optr 0 0 2),(3,AV.int .i64 x5)],[(0,Ob.box [AV.int .i64 a0.most,AV.fsl (List.map eKept a0.list)])],1⟩
noncomputable def spec_CacheOk_l1_X (a0 : TCache) : ((Unit) ⊕ (Unit)) → Ex × St := fun q => match q with
  | .inl _ => ((.exit 0),⟨[],[],0⟩)
  | .inr _ => (.ret,⟨[(2,AV.bool false)],[],0⟩)
noncomputable def spec_CacheOk (a0 : TCache) : Option ((Bool)) :=
  bnd (spec_l01In a0.most 1 8) fun v1 =>
  cnd v1 (
   cnd (ile (List.length a0.list : Int) a0.most) (
    bnd (loopI (spec_CacheOk_l1 a0) 0) fun q => match q with
    | .inl () =>
     some true
    | .inr () =>
     some false) (
    some false)) (
   some false)
noncomputable def spec_CacheOk_e (q : (TCache)) : List AV × List Ob := ([AV.agg [AV.int .i64 q.most,AV.fsl (List.map eKept q.list)]],[])
noncomputable def spec_CacheOk_v (q : (TCache)) (r : (Bool)) : AV × List Ob := (AV.bool r,[])
noncomputable def spec_CacheOk_x : List AV → List Ob → Option (AV × List Ob) := xOf spec_CacheOk_e (fun q => spec_CacheOk q) spec_CacheOk_v
theorem spec_CacheOk_i : ∀ a b,spec_CacheOk_e a = spec_CacheOk_e b → a = b := by rintro ⟨x0,x1⟩ ⟨y0,y1⟩ h; simp [spec_CacheOk_e] at h; simp [h]
@[simp] theorem spec_CacheOk_k (z0 : Int) (z1 : List TKept) : spec_CacheOk_x [AV.agg [AV.int .i64 z0,AV.fsl (List.map eKept z1)]] [] = mapR (spec_CacheOk ⟨z0,z1⟩) (fun r => (AV.bool r,[])) :=
  xOf_eq spec_CacheOk_i ⟨z0,z1⟩
noncomputable def spec_l21CopyMask (a0 : TMask) : Option ((TBox) × (List Int)) :=
  chkP ((0 + List.length a0.bits) * 8 ≤ 17592186044416) (
  nam (([] ++ a0.bits) : List Int) fun l1 =>
  some (a0.box,l1))
noncomputable def spec_l21CopyMask_e (q : (TMask)) : List AV × List Ob := ([AV.agg [AV.int .i64 q.box.x0,AV.int .i64 q.box.y0,AV.int .i64 q.box.x1,AV.int .i64 q.box.y1,AV.fsl (List.map (AV.int .i64) q.bits)]],[])
noncomputable def spec_l21CopyMask_v (q : (TMask)) (r : (TBox) × (List Int)) : AV × List Ob := (AV.agg [AV.int .i64 r.1.x0,AV.int .i64 r.1.y0,AV.int .i64 r.1.x1,AV.int .i64 r.1.y1,AV.osl 0 0 (List.length r.2) (List.length r.2)],[Ob.arr 1 (List.map (AV.int .i64) r.2) false])
noncomputable def spec_l21CopyMask_x : List AV → List Ob → Option (AV × List Ob) := xOf spec_l21CopyMask_e (fun q => spec_l21CopyMask q) spec_l21CopyMask_v
theorem spec_l21CopyMask_i : ∀ a b,spec_l21CopyMask_e a = spec_l21CopyMask_e b → a = b := by rintro ⟨⟨x0,x1,x2,x3⟩,x4⟩ ⟨⟨y0,y1,y2,y3⟩,y4⟩ h; simp [spec_l21CopyMask_e] at h; simp [h]
@[simp] theorem spec_l21CopyMask_k (z0 : Int) (z1 : Int) (z2 : Int) (z3 : Int) (z4 : List Int) : spec_l21CopyMask_x [AV.agg [AV.int .i64 z0,AV.int .i64 z1,AV.int .i64 z2,AV.int .i64 z3,AV.fsl (List.map (AV.int .i64) z4)]] [] = mapR (spec_l21CopyMask ⟨⟨z0,z1,z2,z3⟩,z4⟩) (fun r => (AV.agg [AV.int .i64 r.1.x0,AV.int .i64 r.1.y0,AV.int .i64 r.1.x1,AV.int .i64 r.1.y1,AV.osl 0 0 (List.length r.2) (List.length r.2)],[Ob.arr 1 (List.map (AV.int .i64) r.2) false])) :=
  xOf_eq spec_l21CopyMask_i ⟨⟨z0,z1,z2,z3⟩,z4⟩
noncomputable def spec_l21Copy_l0 (a0 : TCache) : ((Int) × (List TKept)) → Option (((Int) × (List TKept)) ⊕ ((List TKept))) := fun (x5,x6) =>
  cnd (ile (List.length a0.list : Int) x5) (
   some (.inr x6)) (
   bnd (idx a0.list x5) fun v7 =>
   bnd (spec_l21CopyMask v7.mask) fun (w9,w10) =>
   chkP ((List.length x6 + 1) * 64 ≤ 17592186044416) (
   some (.inl ((IntKind.i64.wrap (x5 + 1)),(x6 ++ [(TKept.mk v7.id (TMask.mk w9 w10))])))))
noncomputable def spec_l21Copy_l0_S (a0 : TCache) : ((Int) × (List TKept)) → St := fun (x5,x6) => ⟨[(1,AV.optr 0 0 2),(2,AV.optr 1 0 2),(3,AV.optr 2 0 2),(4,AV.int .i64 x5)],[(0,Ob.box [AV.int .i64 a0.most,AV.fsl (List.map eKept a0.list)]),(1,Ob.box [AV.int .i64 0,AV.nilsl]),(2,Ob.box [AV.int .i64 a0.most,AV.osl 3 0 (List.length x6) (List.length x6)]),(3,Ob.nar 6 (List.map eKept x6) [0,0,0,0,0,1])],4⟩
noncomputable def spec_l21Copy_l0_X (a0 : TCache) : ((List TKept)) → Ex × St := fun y11 => ((.exit 0),⟨[(2,AV.optr 0 0 2),(3,AV.optr 1 0 2)],[(0,Ob.box [AV.int .i64 0,AV.nilsl]),(1,Ob.box [AV.int .i64 a0.most,AV.osl 2 0 (List.length y11) (List.length y11)]),(2,Ob.nar 6 (List.map eKept y11) [0,0,0,0,0,1])],3⟩)
noncomputable def spec_l21Copy (a0 : TCache) : Option ((Int) × (List TKept)) :=
  bnd (loopI (spec_l21Copy_l0 a0) (0,[])) fun y11 =>
  some (a0.most,y11)
noncomputable def spec_l21Copy_e (q : (TCache)) : List AV × List Ob := ([AV.agg [AV.int .i64 q.most,AV.fsl (List.map eKept q.list)]],[])
noncomputable def spec_l21Copy_v (q : (TCache)) (r : (Int) × (List TKept)) : AV × List Ob := (AV.agg [AV.int .i64 r.1,AV.osl 0 0 (List.length r.2) (List.length r.2)],[Ob.nar 6 (List.map eKept r.2) [0,0,0,0,0,1]])
noncomputable def spec_l21Copy_x : List AV → List Ob → Option (AV × List Ob) := xOf spec_l21Copy_e (fun q => spec_l21Copy q) spec_l21Copy_v
theorem spec_l21Copy_i : ∀ a b,spec_l21Copy_e a = spec_l21Copy_e b → a = b := by rintro ⟨x0,x1⟩ ⟨y0,y1⟩ h; simp [spec_l21Copy_e] at h; simp [h]
@[simp] theorem spec_l21Copy_k (z0 : Int) (z1 : List TKept) : spec_l21Copy_x [AV.agg [AV.int .i64 z0,AV.fsl (List.map eKept z1)]] [] = mapR (spec_l21Copy ⟨z0,z1⟩) (fun r => (AV.agg [AV.int .i64 r.1,AV.osl 0 0 (List.length r.2) (List.length r.2)],[Ob.nar 6 (List.map eKept r.2) [0,0,0,0,0,1]])) :=
  xOf_eq spec_l21Copy_i ⟨z0,z1⟩
noncomputable def spec_l21First_l0 (a0 : TCache) (a1 : Int) : ((Int) × (List TKept)) → Option (((Int) × (List TKept)) ⊕ ((List TKept))) := fun (x2,x3) =>
  cnd (ile (List.length a0.list : Int) x2) (
   some (.inr x3)) (
   bnd (idx a0.list x2) fun v4 =>
   cnd (ieq v4.id a1) (
    some (.inl ((IntKind.i64.wrap (x2 + 1)),x3))) (
    cnd (ile a0.most (List.length x3 : Int)) (
     some (.inl ((IntKind.i64.wrap (x2 + 1)),x3))) (
     chkP ((List.length x3 + 1) * 64 ≤ 17592186044416) (
     nam ((x3 ++ [v4]) : List TKept) fun l5 =>
     some (.inl ((IntKind.i64.wrap (x2 + 1)),l5))))))
noncomputable def spec_l21First_l0_S (a0 : TCache) (a1 : Int) : ((Int) × (List TKept)) → St := fun (x2,x3) => ⟨[(1,AV.int .i64 a1),(3,AV.optr 0 0 2),(6,AV.optr 1 0 2),(7,AV.optr 2 0 2),(8,AV.int .i64 x2)],[(0,Ob.box [AV.int .i64 a0.most,AV.fsl (List.map eKept a0.list)]),(1,Ob.box [AV.int .i64 0,AV.nilsl]),(2,Ob.box [AV.int .i64 a0.most,AV.osl 3 0 (List.length x3) (List.length x3)]),(3,Ob.arr 6 (List.map eKept x3) false)],4⟩
noncomputable def spec_l21First_l0_X (a0 : TCache) (a1 : Int) : ((List TKept)) → Ex × St := fun y6 => ((.exit 0),⟨[(6,AV.optr 0 0 2),(7,AV.optr 1 0 2)],[(0,Ob.box [AV.int .i64 0,AV.nilsl]),(1,Ob.box [AV.int .i64 a0.most,AV.osl 2 0 (List.length y6) (List.length y6)]),(2,Ob.arr 6 (List.map eKept y6) false)],3⟩)
noncomputable def spec_l21First (a0 : TCache) (a1 : Int) (a2 : TMask) : Option ((Int) × (List TKept)) :=
  bnd (loopI (spec_l21First_l0 a0 a1) (0,[(TKept.mk a1 a2)])) fun y6 =>
  bnd (spec_l21Copy (TCache.mk a0.most y6)) fun (w8,w9) =>
  some (w8,w9)
noncomputable def spec_l21First_e (q : (TCache) × (Int) × (TMask)) : List AV × List Ob := ([AV.agg [AV.int .i64 q.1.most,AV.fsl (List.map eKept q.1.list)],AV.int .i64 q.2.1,AV.agg [AV.int .i64 q.2.2.box.x0,AV.int .i64 q.2.2.box.y0,AV.int .i64 q.2.2.box.x1,AV.int .i64 q.2.2.box.y1,AV.fsl (List.map (AV.int .i64) q.2.2.bits)]],[])
noncomputable def spec_l21First_v (q : (TCache) × (Int) × (TMask)) (r : (Int) × (List TKept)) : AV × List Ob := (AV.agg [AV.int .i64 r.1,AV.osl 0 0 (List.length r.2) (List.length r.2)],[Ob.nar 6 (List.map eKept r.2) [0,0,0,0,0,1]])
noncomputable def spec_l21First_x : List AV → List Ob → Option (AV × List Ob) := xOf spec_l21First_e (fun q => spec_l21First q.1 q.2.1 q.2.2) spec_l21First_v
theorem spec_l21First_i : ∀ a b,spec_l21First_e a = spec_l21First_e b → a = b := by rintro ⟨⟨x0,x1⟩,x2,⟨⟨x3,x4,x5,x6⟩,x7⟩⟩ ⟨⟨y0,y1⟩,y2,⟨⟨y3,y4,y5,y6⟩,y7⟩⟩ h; simp [spec_l21First_e] at h; simp [h]
@[simp] theorem spec_l21First_k (z0 : Int) (z1 : List TKept) (z2 : Int) (z3 : Int) (z4 : Int) (z5 : Int) (z6 : Int) (z7 : List Int) : spec_l21First_x [AV.agg [AV.int .i64 z0,AV.fsl (List.map eKept z1)],AV.int .i64 z2,AV.agg [AV.int .i64 z3,AV.int .i64 z4,AV.int .i64 z5,AV.int .i64 z6,AV.fsl (List.map (AV.int .i64) z7)]] [] = mapR (spec_l21First ⟨z0,z1⟩ z2 ⟨⟨z3,z4,z5,z6⟩,z7⟩) (fun r => (AV.agg [AV.int .i64 r.1,AV.osl 0 0 (List.length r.2) (List.length r.2)],[Ob.nar 6 (List.map eKept r.2) [0,0,0,0,0,1]])) :=
  xOf_eq spec_l21First_i (⟨z0,z1⟩,z2,⟨⟨z3,z4,z5,z6⟩,z7⟩)
noncomputable def spec_Recall_l0 (a0 : TCache) (a1 : Int) : ((Int)) → Option (((Int)) ⊕ ((Unit) ⊕ ((Int) × (Int) × (Int) × (Int) × (Int) × (List TKept) × (List Int)))) := fun x9 =>
  cnd (ile (List.length a0.list : Int) x9) (
   some (.inr (.inl ()))) (
   bnd (idx a0.list x9) fun v10 =>
   cnd (ieq v10.id a1) (
    bnd (spec_CacheOk a0) fun v11 =>
    cnd v11 (
     bnd (spec_l21First a0 a1 v10.mask) fun (w13,w14) =>
     bnd (spec_l21CopyMask v10.mask) fun (w16,w17) =>
     some (.inr (.inr (w13,w16.x0,w16.y0,w16.x1,w16.y1,w14,w17)))) (
     some (.inl (IntKind.i64.wrap (x9 + 1))))) (
    some (.inl (IntKind.i64.wrap (x9 + 1)))))
noncomputable def spec_Recall_l0_S (a0 : TCache) (a1 : Int) : ((Int)) → St := fun x9 => ⟨[(1,AV.int .i64 a1),(2,AV.optr 0 0 2),(4,AV.optr 1 0 2),(5,AV.optr 2 0 5),(7,AV.int .i64 x9)],[(0,Ob.box [AV.int .i64 a0.most,AV.fsl (List.map eKept a0.list)]),(1,Ob.box [AV.int .i64 0,AV.nilsl]),(2,Ob.box [AV.int .i64 0,AV.int .i64 0,AV.int .i64 0,AV.int .i64 0,AV.nilsl])],3⟩
noncomputable def spec_Recall_l0_X (a0 : TCache) (a1 : Int) : ((Unit) ⊕ ((Int) × (Int) × (Int) × (Int) × (Int) × (List TKept) × (List Int))) → Ex × St := fun q => match q with
  | .inl _ => ((.exit 0),⟨[(2,AV.optr 0 0 2),(4,AV.optr 1 0 2),(5,AV.optr 2 0 5)],[(0,Ob.box [AV.int .i64 a0.most,AV.fsl (List.map eKept a0.list)]),(1,Ob.box [AV.int .i64 0,AV.nilsl]),(2,Ob.box [AV.int .i64 0,AV.int .i64 0,AV.int .i64 0,AV.int .i64 0,AV.nilsl])],3⟩)
  | .inr (y18,y19,y20,y21,y22,y23,y24) => (.ret,⟨[(4,AV.optr 0 0 2),(5,AV.optr 1 0 5),(6,AV.bool true)],[(0,Ob.box [AV.int .i64 y18,AV.osl 2 0 (List.length y23) (List.length y23)]),(1,Ob.box [AV.int .i64 y19,AV.int .i64 y20,AV.int .i64 y21,AV.int .i64 y22,AV.osl 3 0 (List.length y24) (List.length y24)]),(2,Ob.nar 6 (List.map eKept y23) [0,0,0,0,0,1]),(3,Ob.arr 1 (List.map (AV.int .i64) y24) false)],4⟩)
noncomputable def spec_Recall (a0 : TCache) (a1 : Int) : Option ((Int) × (TBox) × (Bool) × (List TKept) × (List Int)) :=
  bnd (loopI (spec_Recall_l0 a0 a1) 0) fun q => match q with
  | .inl () =>
   bnd (spec_l21Copy a0) fun (w26,w27) =>
   some (w26,(TBox.mk 0 0 0 0),false,w27,[])
  | .inr (y18,y19,y20,y21,y22,y23,y24) =>
   some (y18,(TBox.mk y19 y20 y21 y22),true,y23,y24)
noncomputable def spec_Recall_e (q : (TCache) × (Int)) : List AV × List Ob := ([AV.agg [AV.int .i64 q.1.most,AV.fsl (List.map eKept q.1.list)],AV.int .i64 q.2],[])
noncomputable def spec_Recall_v (q : (TCache) × (Int)) (r : (Int) × (TBox) × (Bool) × (List TKept) × (List Int)) : AV × List Ob := (AV.tup [AV.agg [AV.int .i64 r.1,AV.osl 0 0 (List.length r.2.2.2.1) (List.length r.2.2.2.1)],AV.agg [AV.int .i64 r.2.1.x0,AV.int .i64 r.2.1.y0,AV.int .i64 r.2.1.x1,AV.int .i64 r.2.1.y1,AV.osl 1 0 (List.length r.2.2.2.2) (List.length r.2.2.2.2)],AV.bool r.2.2.1],[Ob.nar 6 (List.map eKept r.2.2.2.1) [0,0,0,0,0,1],Ob.arr 1 (List.map (AV.int .i64) r.2.2.2.2) false])
noncomputable def spec_Recall_x : List AV → List Ob → Option (AV × List Ob) := xOf spec_Recall_e (fun q => spec_Recall q.1 q.2) spec_Recall_v
theorem spec_Recall_i : ∀ a b,spec_Recall_e a = spec_Recall_e b → a = b := by rintro ⟨⟨x0,x1⟩,x2⟩ ⟨⟨y0,y1⟩,y2⟩ h; simp [spec_Recall_e] at h; simp [h]
@[simp] theorem spec_Recall_k (z0 : Int) (z1 : List TKept) (z2 : Int) : spec_Recall_x [AV.agg [AV.int .i64 z0,AV.fsl (List.map eKept z1)],AV.int .i64 z2] [] = mapR (spec_Recall ⟨z0,z1⟩ z2) (fun r => (AV.tup [AV.agg [AV.int .i64 r.1,AV.osl 0 0 (List.length r.2.2.2.1) (List.length r.2.2.2.1)],AV.agg [AV.int .i64 r.2.1.x0,AV.int .i64 r.2.1.y0,AV.int .i64 r.2.1.x1,AV.int .i64 r.2.1.y1,AV.osl 1 0 (List.length r.2.2.2.2) (List.length r.2.2.2.2)],AV.bool r.2.2.1],[Ob.nar 6 (List.map eKept r.2.2.2.1) [0,0,0,0,0,1],Ob.arr 1 (List.map (AV.int .i64) r.2.2.2.2) false])) :=
  xOf_eq spec_Recall_i (⟨z0,z1⟩,z2)
noncomputable def slices_Clone_int (a0 : List Int) : Option ((List Int)) :=
  chkP (List.length a0 * 8 ≤ 17592186044416) (
  some a0)
noncomputable def slices_Clone_int_e (q : (List Int)) : List AV × List Ob := ([AV.fsl (List.map (AV.int .i64) q)],[])
noncomputable def slices_Clone_int_v (q : (List Int)) (r : (List Int)) : AV × List Ob := (AV.osl 0 0 (List.length r) (List.length r),[Ob.arr 1 (List.map (AV.int .i64) r) false])
noncomputable def slices_Clone_int_x : List AV → List Ob → Option (AV × List Ob) := xOf slices_Clone_int_e (fun q => slices_Clone_int q) slices_Clone_int_v
theorem slices_Clone_int_i : ∀ a b,slices_Clone_int_e a = slices_Clone_int_e b → a = b := by rintro x0 y0 h; simp [slices_Clone_int_e] at h; simp [h]
@[simp] theorem slices_Clone_int_k (z0 : List Int) : slices_Clone_int_x [AV.fsl (List.map (AV.int .i64) z0)] [] = mapR (slices_Clone_int z0) (fun r => (AV.osl 0 0 (List.length r) (List.length r),[Ob.arr 1 (List.map (AV.int .i64) r) false])) :=
  xOf_eq slices_Clone_int_i z0
noncomputable def impl_copyMask (a0 : TMask) : Option ((TBox) × (List Int)) :=
  bnd (slices_Clone_int a0.bits) fun v1 =>
  some (a0.box,v1)
noncomputable def impl_copyMask_e (q : (TMask)) : List AV × List Ob := ([AV.agg [AV.int .i64 q.box.x0,AV.int .i64 q.box.y0,AV.int .i64 q.box.x1,AV.int .i64 q.box.y1,AV.fsl (List.map (AV.int .i64) q.bits)]],[])
noncomputable def impl_copyMask_v (q : (TMask)) (r : (TBox) × (List Int)) : AV × List Ob := (AV.agg [AV.int .i64 r.1.x0,AV.int .i64 r.1.y0,AV.int .i64 r.1.x1,AV.int .i64 r.1.y1,AV.osl 0 0 (List.length r.2) (List.length r.2)],[Ob.arr 1 (List.map (AV.int .i64) r.2) false])
noncomputable def impl_copyMask_x : List AV → List Ob → Option (AV × List Ob) := xOf impl_copyMask_e (fun q => impl_copyMask q) impl_copyMask_v
theorem impl_copyMask_i : ∀ a b,impl_copyMask_e a = impl_copyMask_e b → a = b := by rintro ⟨⟨x0,x1,x2,x3⟩,x4⟩ ⟨⟨y0,y1,y2,y3⟩,y4⟩ h; simp [impl_copyMask_e] at h; simp [h]
@[simp] theorem impl_copyMask_k (z0 : Int) (z1 : Int) (z2 : Int) (z3 : Int) (z4 : List Int) : impl_copyMask_x [AV.agg [AV.int .i64 z0,AV.int .i64 z1,AV.int .i64 z2,AV.int .i64 z3,AV.fsl (List.map (AV.int .i64) z4)]] [] = mapR (impl_copyMask ⟨⟨z0,z1,z2,z3⟩,z4⟩) (fun r => (AV.agg [AV.int .i64 r.1.x0,AV.int .i64 r.1.y0,AV.int .i64 r.1.x1,AV.int .i64 r.1.y1,AV.osl 0 0 (List.length r.2) (List.length r.2)],[Ob.arr 1 (List.map (AV.int .i64) r.2) false])) :=
  xOf_eq impl_copyMask_i ⟨⟨z0,z1,z2,z3⟩,z4⟩
noncomputable def impl_copyCache_l0 (a0 : TCache) : ((Int) × (List TKept)) → Option (((Int) × (List TKept)) ⊕ ((List TKept))) := fun (x5,x6) =>
  cnd (ile (List.length a0.list : Int) x5) (
   some (.inr x6)) (
   bnd (idx a0.list x5) fun v7 =>
   bnd (impl_copyMask v7.mask) fun (w9,w10) =>
   chkP ((List.length x6 + 1) * 64 ≤ 17592186044416) (
   some (.inl ((IntKind.i64.wrap (x5 + 1)),(x6 ++ [(TKept.mk v7.id (TMask.mk w9 w10))])))))
noncomputable def impl_copyCache_l0_S (a0 : TCache) : ((Int) × (List TKept)) → St := fun (x5,x6) => ⟨[(2,AV.optr 0 0 2),(3,AV.optr 1 0 2),(10,AV.fsl (List.map eKept a0.list)),(11,AV.int .i64 (List.length a0.list : Int)),(12,AV.int .i64 x5)],[(0,Ob.box [AV.int .i64 0,AV.nilsl]),(1,Ob.box [AV.int .i64 a0.most,AV.osl 2 0 (List.length x6) (List.length x6)]),(2,Ob.nar 6 (List.map eKept x6) [0,0,0,0,0,1])],3⟩
noncomputable def impl_copyCache_l0_X (a0 : TCache) : ((List TKept)) → Ex × St := fun y11 => ((.exit 0),⟨[(2,AV.optr 0 0 2),(3,AV.optr 1 0 2)],[(0,Ob.box [AV.int .i64 0,AV.nilsl]),(1,Ob.box [AV.int .i64 a0.most,AV.osl 2 0 (List.length y11) (List.length y11)]),(2,Ob.nar 6 (List.map eKept y11) [0,0,0,0,0,1])],3⟩)
noncomputable def impl_copyCache (a0 : TCache) : Option ((Int) × (List TKept)) :=
  bnd (loopI (impl_copyCache_l0 a0) (0,[])) fun y11 =>
  some (a0.most,y11)
noncomputable def impl_copyCache_e (q : (TCache)) : List AV × List Ob := ([AV.agg [AV.int .i64 q.most,AV.fsl (List.map eKept q.list)]],[])
noncomputable def impl_copyCache_v (q : (TCache)) (r : (Int) × (List TKept)) : AV × List Ob := (AV.agg [AV.int .i64 r.1,AV.osl 0 0 (List.length r.2) (List.length r.2)],[Ob.nar 6 (List.map eKept r.2) [0,0,0,0,0,1]])
noncomputable def impl_copyCache_x : List AV → List Ob → Option (AV × List Ob) := xOf impl_copyCache_e (fun q => impl_copyCache q) impl_copyCache_v
theorem impl_copyCache_i : ∀ a b,impl_copyCache_e a = impl_copyCache_e b → a = b := by rintro ⟨x0,x1⟩ ⟨y0,y1⟩ h; simp [impl_copyCache_e] at h; simp [h]
@[simp] theorem impl_copyCache_k (z0 : Int) (z1 : List TKept) : impl_copyCache_x [AV.agg [AV.int .i64 z0,AV.fsl (List.map eKept z1)]] [] = mapR (impl_copyCache ⟨z0,z1⟩) (fun r => (AV.agg [AV.int .i64 r.1,AV.osl 0 0 (List.length r.2) (List.length r.2)],[Ob.nar 6 (List.map eKept r.2) [0,0,0,0,0,1]])) :=
  xOf_eq impl_copyCache_i ⟨z0,z1⟩
noncomputable def impl_Cache_keptAt_1 (a0 : TKept) (a1 : Int) : Option ((Bool)) :=
  some (ieq a0.id a1)
noncomputable def impl_Cache_keptAt_1_e (q : (TKept) × (Int)) : List AV × List Ob := ([AV.agg [AV.int .i64 q.1.id,AV.int .i64 q.1.mask.box.x0,AV.int .i64 q.1.mask.box.y0,AV.int .i64 q.1.mask.box.x1,AV.int .i64 q.1.mask.box.y1,AV.fsl (List.map (AV.int .i64) q.1.mask.bits)],AV.fptr [AV.int .i64 q.2] 0],[])
noncomputable def impl_Cache_keptAt_1_v (q : (TKept) × (Int)) (r : (Bool)) : AV × List Ob := (AV.bool r,[])
noncomputable def impl_Cache_keptAt_1_x : List AV → List Ob → Option (AV × List Ob) := xOf impl_Cache_keptAt_1_e (fun q => impl_Cache_keptAt_1 q.1 q.2) impl_Cache_keptAt_1_v
theorem impl_Cache_keptAt_1_i : ∀ a b,impl_Cache_keptAt_1_e a = impl_Cache_keptAt_1_e b → a = b := by rintro ⟨⟨x0,⟨⟨x1,x2,x3,x4⟩,x5⟩⟩,x6⟩ ⟨⟨y0,⟨⟨y1,y2,y3,y4⟩,y5⟩⟩,y6⟩ h; simp [impl_Cache_keptAt_1_e] at h; simp [h]
@[simp] theorem impl_Cache_keptAt_1_k (z0 : Int) (z1 : Int) (z2 : Int) (z3 : Int) (z4 : Int) (z5 : List Int) (z6 : Int) : impl_Cache_keptAt_1_x [AV.agg [AV.int .i64 z0,AV.int .i64 z1,AV.int .i64 z2,AV.int .i64 z3,AV.int .i64 z4,AV.fsl (List.map (AV.int .i64) z5)],AV.fptr [AV.int .i64 z6] 0] [] = mapR (impl_Cache_keptAt_1 ⟨z0,⟨⟨z1,z2,z3,z4⟩,z5⟩⟩ z6) (fun r => (AV.bool r,[])) :=
  xOf_eq impl_Cache_keptAt_1_i (⟨z0,⟨⟨z1,z2,z3,z4⟩,z5⟩⟩,z6)
noncomputable def slices_IndexFunc_Kept_Cache_keptAt_1_l0 (a0 : List TKept) (a1 : Int) : ((Int)) → Option (((Int)) ⊕ ((Unit) ⊕ ((Int)))) := fun x3 =>
  cnd (ile (List.length a0 : Int) x3) (
   some (.inr (.inl ()))) (
   bnd (idx a0 x3) fun v4 =>
   bnd (impl_Cache_keptAt_1 v4 a1) fun v5 =>
   cnd v5 (
    some (.inr (.inr x3))) (
    some (.inl (IntKind.i64.wrap (x3 + 1)))))
noncomputable def slices_IndexFunc_Kept_Cache_keptAt_1_l0_S (a0 : List TKept) (a1 : Int) : ((Int)) → St := fun x3 => ⟨[(0,AV.fsl (List.map eKept a0)),(1,AV.func (.func 126) [] [AV.fptr [AV.int .i64 a1] 0]),(7,AV.int .i64 (List.length a0 : Int)),(8,AV.int .i64 x3)],[],0⟩
noncomputable def slices_IndexFunc_Kept_Cache_keptAt_1_l0_X (a0 : List TKept) (a1 : Int) : ((Unit) ⊕ ((Int))) → Ex × St := fun q => match q with
  | .inl _ => ((.exit 0),⟨[],[],0⟩)
  | .inr y6 => (.ret,⟨[(4,AV.int .i64 y6)],[],0⟩)
noncomputable def slices_IndexFunc_Kept_Cache_keptAt_1 (a0 : List TKept) (a1 : Int) : Option ((Int)) :=
  bnd (loopI (slices_IndexFunc_Kept_Cache_keptAt_1_l0 a0 a1) 0) fun q => match q with
  | .inl () =>
   some (-1)
  | .inr y6 =>
   some y6
noncomputable def slices_IndexFunc_Kept_Cache_keptAt_1_e (q : (List TKept) × (Int)) : List AV × List Ob := ([AV.fsl (List.map eKept q.1),AV.func (.func 126) [] [AV.fptr [AV.int .i64 q.2] 0]],[])
noncomputable def slices_IndexFunc_Kept_Cache_keptAt_1_v (q : (List TKept) × (Int)) (r : (Int)) : AV × List Ob := (AV.int .i64 r,[])
noncomputable def slices_IndexFunc_Kept_Cache_keptAt_1_x : List AV → List Ob → Option (AV × List Ob) := xOf slices_IndexFunc_Kept_Cache_keptAt_1_e (fun q => slices_IndexFunc_Kept_Cache_keptAt_1 q.1 q.2) slices_IndexFunc_Kept_Cache_keptAt_1_v
theorem slices_IndexFunc_Kept_Cache_keptAt_1_i : ∀ a b,slices_IndexFunc_Kept_Cache_keptAt_1_e a = slices_IndexFunc_Kept_Cache_keptAt_1_e b → a = b := by rintro ⟨x0,x1⟩ ⟨y0,y1⟩ h; simp [slices_IndexFunc_Kept_Cache_keptAt_1_e] at h; simp [h]
@[simp] theorem slices_IndexFunc_Kept_Cache_keptAt_1_k (z0 : List TKept) (z1 : Int) : slices_IndexFunc_Kept_Cache_keptAt_1_x [AV.fsl (List.map eKept z0),AV.func (.func 126) [] [AV.fptr [AV.int .i64 z1] 0]] [] = mapR (slices_IndexFunc_Kept_Cache_keptAt_1 z0 z1) (fun r => (AV.int .i64 r,[])) :=
  xOf_eq slices_IndexFunc_Kept_Cache_keptAt_1_i (z0,z1)
noncomputable def impl_Cache_keptAt (a0 : TCache) (a1 : Int) : Option ((Int)) :=
  bnd (slices_IndexFunc_Kept_Cache_keptAt_1 a0.list a1) fun v1 =>
  some v1
noncomputable def impl_Cache_keptAt_e (q : (TCache) × (Int)) : List AV × List Ob := ([AV.fptr [AV.int .i64 q.1.most,AV.fsl (List.map eKept q.1.list)] 0,AV.int .i64 q.2],[])
noncomputable def impl_Cache_keptAt_v (q : (TCache) × (Int)) (r : (Int)) : AV × List Ob := (AV.int .i64 r,[])
noncomputable def impl_Cache_keptAt_x : List AV → List Ob → Option (AV × List Ob) := xOf impl_Cache_keptAt_e (fun q => impl_Cache_keptAt q.1 q.2) impl_Cache_keptAt_v
theorem impl_Cache_keptAt_i : ∀ a b,impl_Cache_keptAt_e a = impl_Cache_keptAt_e b → a = b := by rintro ⟨⟨x0,x1⟩,x2⟩ ⟨⟨y0,y1⟩,y2⟩ h; simp [impl_Cache_keptAt_e] at h; simp [h]
@[simp] theorem impl_Cache_keptAt_k (z0 : Int) (z1 : List TKept) (z2 : Int) : impl_Cache_keptAt_x [AV.fptr [AV.int .i64 z0,AV.fsl (List.map eKept z1)] 0,AV.int .i64 z2] [] = mapR (impl_Cache_keptAt ⟨z0,z1⟩ z2) (fun r => (AV.int .i64 r,[])) :=
  xOf_eq impl_Cache_keptAt_i (⟨z0,z1⟩,z2)
noncomputable def impl_inRange (a0 : Int) (a1 : Int) (a2 : Int) : Option ((Bool)) :=
  cnd (ile a1 a0) (
   some (ile a0 a2)) (
   some false)
noncomputable def impl_inRange_e (q : (Int) × (Int) × (Int)) : List AV × List Ob := ([AV.int .i64 q.1,AV.int .i64 q.2.1,AV.int .i64 q.2.2],[])
noncomputable def impl_inRange_v (q : (Int) × (Int) × (Int)) (r : (Bool)) : AV × List Ob := (AV.bool r,[])
noncomputable def impl_inRange_x : List AV → List Ob → Option (AV × List Ob) := xOf impl_inRange_e (fun q => impl_inRange q.1 q.2.1 q.2.2) impl_inRange_v
theorem impl_inRange_i : ∀ a b,impl_inRange_e a = impl_inRange_e b → a = b := by rintro ⟨x0,x1,x2⟩ ⟨y0,y1,y2⟩ h; simp [impl_inRange_e] at h; simp [h]
@[simp] theorem impl_inRange_k (z0 : Int) (z1 : Int) (z2 : Int) : impl_inRange_x [AV.int .i64 z0,AV.int .i64 z1,AV.int .i64 z2] [] = mapR (impl_inRange z0 z1 z2) (fun r => (AV.bool r,[])) :=
  xOf_eq impl_inRange_i (z0,z1,z2)
noncomputable def impl_Empty (a0 : TBox) : Option ((Bool)) :=
  cnd (ile a0.x1 a0.x0) (
   some true) (
   some (ile a0.y1 a0.y0))
noncomputable def impl_Empty_e (q : (TBox)) : List AV × List Ob := ([AV.agg [AV.int .i64 q.x0,AV.int .i64 q.y0,AV.int .i64 q.x1,AV.int .i64 q.y1]],[])
noncomputable def impl_Empty_v (q : (TBox)) (r : (Bool)) : AV × List Ob := (AV.bool r,[])
noncomputable def impl_Empty_x : List AV → List Ob → Option (AV × List Ob) := xOf impl_Empty_e (fun q => impl_Empty q) impl_Empty_v
theorem impl_Empty_i : ∀ a b,impl_Empty_e a = impl_Empty_e b → a = b := by rintro ⟨x0,x1,x2,x3⟩ ⟨y0,y1,y2,y3⟩ h; simp [impl_Empty_e] at h; simp [h]
@[simp] theorem impl_Empty_k (z0 : Int) (z1 : Int) (z2 : Int) (z3 : Int) : impl_Empty_x [AV.agg [AV.int .i64 z0,AV.int .i64 z1,AV.int .i64 z2,AV.int .i64 z3]] [] = mapR (impl_Empty ⟨z0,z1,z2,z3⟩) (fun r => (AV.bool r,[])) :=
  xOf_eq impl_Empty_i ⟨z0,z1,z2,z3⟩
noncomputable def impl_isMaskBox (a0 : TBox) : Option ((Bool)) :=
  bnd (impl_Empty a0) fun v1 =>
  cnd v1 (
   some false) (
   cnd (ile (-2000) a0.x0) (
    cnd (ile (-2000) a0.y0) (
     cnd (ile a0.x1 2000) (
      cnd (ile a0.y1 2000) (
       cnd (ile (IntKind.i64.wrap (a0.x1 - a0.x0)) 60) (
        some (ile (IntKind.i64.wrap (a0.y1 - a0.y0)) 60)) (
        some false)) (
       some false)) (
      some false)) (
     some false)) (
    some false))
noncomputable def impl_isMaskBox_e (q : (TBox)) : List AV × List Ob := ([AV.agg [AV.int .i64 q.x0,AV.int .i64 q.y0,AV.int .i64 q.x1,AV.int .i64 q.y1]],[])
noncomputable def impl_isMaskBox_v (q : (TBox)) (r : (Bool)) : AV × List Ob := (AV.bool r,[])
noncomputable def impl_isMaskBox_x : List AV → List Ob → Option (AV × List Ob) := xOf impl_isMaskBox_e (fun q => impl_isMaskBox q) impl_isMaskBox_v
theorem impl_isMaskBox_i : ∀ a b,impl_isMaskBox_e a = impl_isMaskBox_e b → a = b := by rintro ⟨x0,x1,x2,x3⟩ ⟨y0,y1,y2,y3⟩ h; simp [impl_isMaskBox_e] at h; simp [h]
@[simp] theorem impl_isMaskBox_k (z0 : Int) (z1 : Int) (z2 : Int) (z3 : Int) : impl_isMaskBox_x [AV.agg [AV.int .i64 z0,AV.int .i64 z1,AV.int .i64 z2,AV.int .i64 z3]] [] = mapR (impl_isMaskBox ⟨z0,z1,z2,z3⟩) (fun r => (AV.bool r,[])) :=
  xOf_eq impl_isMaskBox_i ⟨z0,z1,z2,z3⟩
noncomputable def impl_MaskOk_l0 (a0 : TMask) : ((Int)) → Option (((Int)) ⊕ ((Unit) ⊕ (Unit))) := fun x4 =>
  cnd (ile (List.length a0.bits : Int) x4) (
   some (.inr (.inl ()))) (
   bnd (idx a0.bits x4) fun v5 =>
   bnd (impl_inRange v5 0 15) fun v6 =>
   cnd v6 (
    some (.inl (IntKind.i64.wrap (x4 + 1)))) (
    some (.inr (.inr ()))))
noncomputable def impl_MaskOk_l0_S (a0 : TMask) : ((Int)) → St := fun x4 => ⟨[(39,AV.fsl (List.map (AV.int .i64) a0.bits)),(40,AV.int .i64 (List.length a0.bits : Int)),(41,AV.int .i64 x4)],[],0⟩
noncomputable def impl_MaskOk_l0_X (a0 : TMask) : ((Unit) ⊕ (Unit)) → Ex × St := fun q => match q with
  | .inl _ => ((.exit 0),⟨[],[],0⟩)
  | .inr _ => (.ret,⟨[(2,AV.bool false)],[],0⟩)
noncomputable def impl_MaskOk (a0 : TMask) : Option ((Bool)) :=
  cnd (andB (decide (a0.box.x0 = 0)) (andB (decide (a0.box.y0 = 0)) (andB (decide (a0.box.x1 = 0)) (andB (decide (a0.box.y1 = 0)) true)))) (
   some (ieq (List.length a0.bits : Int) 0)) (
   bnd (impl_isMaskBox a0.box) fun v1 =>
   cnd v1 (
    cnd (ieq (List.length a0.bits : Int) (IntKind.i64.wrap ((IntKind.i64.wrap (a0.box.x1 - a0.box.x0)) * (IntKind.i64.wrap (a0.box.y1 - a0.box.y0))))) (
     bnd (loopI (impl_MaskOk_l0 a0) 0) fun q => match q with
     | .inl () =>
      some true
     | .inr () =>
      some false) (
     some false)) (
    some false))
noncomputable def impl_MaskOk_e (q : (TMask)) : List AV × List Ob := ([AV.agg [AV.int .i64 q.box.x0,AV.int .i64 q.box.y0,AV.int .i64 q.box.x1,AV.int .i64 q.box.y1,AV.fsl (List.map (AV.int .i64) q.bits)]],[])
noncomputable def impl_MaskOk_v (q : (TMask)) (r : (Bool)) : AV × List Ob := (AV.bool r,[])
noncomputable def impl_MaskOk_x : List AV → List Ob → Option (AV × List Ob) := xOf impl_MaskOk_e (fun q => impl_MaskOk q) impl_MaskOk_v
theorem impl_MaskOk_i : ∀ a b,impl_MaskOk_e a = impl_MaskOk_e b → a = b := by rintro ⟨⟨x0,x1,x2,x3⟩,x4⟩ ⟨⟨y0,y1,y2,y3⟩,y4⟩ h; simp [impl_MaskOk_e] at h; simp [h]
@[simp] theorem impl_MaskOk_k (z0 : Int) (z1 : Int) (z2 : Int) (z3 : Int) (z4 : List Int) : impl_MaskOk_x [AV.agg [AV.int .i64 z0,AV.int .i64 z1,AV.int .i64 z2,AV.int .i64 z3,AV.fsl (List.map (AV.int .i64) z4)]] [] = mapR (impl_MaskOk ⟨⟨z0,z1,z2,z3⟩,z4⟩) (fun r => (AV.bool r,[])) :=
  xOf_eq impl_MaskOk_i ⟨⟨z0,z1,z2,z3⟩,z4⟩
noncomputable def impl_CacheOk_l0 (a0 : TCache) : ((Int)) → Option (((Int)) ⊕ ((Unit) ⊕ (Unit))) := fun x5 =>
  cnd (ile (List.length a0.list : Int) x5) (
   some (.inr (.inl ()))) (
   bnd (idx a0.list x5) fun v6 =>
   bnd (impl_inRange v6.id 1 99) fun v7 =>
   cnd v7 (
    bnd (impl_Cache_keptAt a0 v6.id) fun v8 =>
    cnd (ieq v8 x5) (
     bnd (impl_MaskOk v6.mask) fun v9 =>
     cnd v9 (
      some (.inl (IntKind.i64.wrap (x5 + 1)))) (
      some (.inr (.inr ())))) (
     some (.inr (.inr ())))) (
    some (.inr (.inr ()))))
noncomputable def impl_CacheOk_l0_S (a0 : TCache) : ((Int)) → St := fun x5 => ⟨[(1,AV.optr 0 0 2),(6,AV.fsl (List.map eKept a0.list)),(7,AV.int .i64 (List.length a0.list : Int)),(8,AV.int .i64 x5)],[(0,Ob.box [AV.int .i64 a0.most,AV.fsl (List.map eKept a0.list)])],1⟩
noncomputable def impl_CacheOk_l0_X (a0 : TCache) : ((Unit) ⊕ (Unit)) → Ex × St := fun q => match q with
  | .inl _ => ((.exit 0),⟨[(1,AV.optr 0 0 2)],[(0,Ob.box [AV.int .i64 a0.most,AV.fsl (List.map eKept a0.list)])],1⟩)
  | .inr _ => (.ret,⟨[(2,AV.bool false)],[],0⟩)
noncomputable def impl_CacheOk (a0 : TCache) : Option ((Bool)) :=
  bnd (loopI (impl_CacheOk_l0 a0) 0) fun q => match q with
  | .inl () =>
   bnd (impl_inRange a0.most 1 8) fun v10 =>
   cnd v10 (
    some (ile (List.length a0.list : Int) a0.most)) (
    some false)
  | .inr () =>
   some false
noncomputable def impl_CacheOk_e (q : (TCache)) : List AV × List Ob := ([AV.agg [AV.int .i64 q.most,AV.fsl (List.map eKept q.list)]],[])
noncomputable def impl_CacheOk_v (q : (TCache)) (r : (Bool)) : AV × List Ob := (AV.bool r,[])
noncomputable def impl_CacheOk_x : List AV → List Ob → Option (AV × List Ob) := xOf impl_CacheOk_e (fun q => impl_CacheOk q) impl_CacheOk_v
theorem impl_CacheOk_i : ∀ a b,impl_CacheOk_e a = impl_CacheOk_e b → a = b := by rintro ⟨x0,x1⟩ ⟨y0,y1⟩ h; simp [impl_CacheOk_e] at h; simp [h]
@[simp] theorem impl_CacheOk_k (z0 : Int) (z1 : List TKept) : impl_CacheOk_x [AV.agg [AV.int .i64 z0,AV.fsl (List.map eKept z1)]] [] = mapR (impl_CacheOk ⟨z0,z1⟩) (fun r => (AV.bool r,[])) :=
  xOf_eq impl_CacheOk_i ⟨z0,z1⟩
noncomputable def impl_Cache_keptAt_1R (a0 : TKeptR) (a1 : Int) : Option ((Bool)) :=
  some (ieq a0.id a1)
noncomputable def impl_Cache_keptAt_1R_e (q : (TKeptR) × (Int)) : List AV × List Ob := ([AV.agg [AV.int .i64 q.1.id,AV.int .i64 q.1.mask.box.x0,AV.int .i64 q.1.mask.box.y0,AV.int .i64 q.1.mask.box.x1,AV.int .i64 q.1.mask.box.y1,eO q.1.mask.bits],AV.fptr [AV.int .i64 q.2] 0],[])
noncomputable def impl_Cache_keptAt_1R_v (q : (TKeptR) × (Int)) (r : (Bool)) : AV × List Ob := (AV.bool r,[])
noncomputable def impl_Cache_keptAt_1R_x : List AV → List Ob → Option (AV × List Ob) := xOf impl_Cache_keptAt_1R_e (fun q => impl_Cache_keptAt_1R q.1 q.2) impl_Cache_keptAt_1R_v
theorem impl_Cache_keptAt_1R_i : ∀ a b,impl_Cache_keptAt_1R_e a = impl_Cache_keptAt_1R_e b → a = b := by rintro ⟨⟨x0,⟨⟨x1,x2,x3,x4⟩,x5⟩⟩,x6⟩ ⟨⟨y0,⟨⟨y1,y2,y3,y4⟩,y5⟩⟩,y6⟩ h; simp [impl_Cache_keptAt_1R_e] at h; simp [h]
@[simp] theorem impl_Cache_keptAt_1R_k (z0 : Int) (z1 : Int) (z2 : Int) (z3 : Int) (z4 : Int) (z5 : Option Value) (z6 : Int) : impl_Cache_keptAt_1R_x [AV.agg [AV.int .i64 z0,AV.int .i64 z1,AV.int .i64 z2,AV.int .i64 z3,AV.int .i64 z4,eO z5],AV.fptr [AV.int .i64 z6] 0] [] = mapR (impl_Cache_keptAt_1R ⟨z0,⟨⟨z1,z2,z3,z4⟩,z5⟩⟩ z6) (fun r => (AV.bool r,[])) :=
  xOf_eq impl_Cache_keptAt_1R_i (⟨z0,⟨⟨z1,z2,z3,z4⟩,z5⟩⟩,z6)
noncomputable def slices_IndexFunc_Kept_Cache_keptAt_1R_l0 (a0 : List TKeptR) (a1 : Int) : ((Int)) → Option (((Int)) ⊕ ((Unit) ⊕ ((Int)))) := fun x3 =>
  cnd (ile (List.length a0 : Int) x3) (
   some (.inr (.inl ()))) (
   bnd (idx a0 x3) fun v4 =>
   bnd (impl_Cache_keptAt_1R v4 a1) fun v5 =>
   cnd v5 (
    some (.inr (.inr x3))) (
    some (.inl (IntKind.i64.wrap (x3 + 1)))))
noncomputable def slices_IndexFunc_Kept_Cache_keptAt_1R_l0_S (a0 : List TKeptR) (a1 : Int) : ((Int)) → St := fun x3 => ⟨[(0,AV.fsl (List.map eKeptR a0)),(1,AV.func (.func 126) [] [AV.fptr [AV.int .i64 a1] 0]),(7,AV.int .i64 (List.length a0 : Int)),(8,AV.int .i64 x3)],[],0⟩
noncomputable def slices_IndexFunc_Kept_Cache_keptAt_1R_l0_X (a0 : List TKeptR) (a1 : Int) : ((Unit) ⊕ ((Int))) → Ex × St := fun q => match q with
  | .inl _ => ((.exit 0),⟨[],[],0⟩)
  | .inr y6 => (.ret,⟨[(4,AV.int .i64 y6)],[],0⟩)
noncomputable def slices_IndexFunc_Kept_Cache_keptAt_1R (a0 : List TKeptR) (a1 : Int) : Option ((Int)) :=
  bnd (loopI (slices_IndexFunc_Kept_Cache_keptAt_1R_l0 a0 a1) 0) fun q => match q with
  | .inl () =>
   some (-1)
  | .inr y6 =>
   some y6
noncomputable def slices_IndexFunc_Kept_Cache_keptAt_1R_e (q : (List TKeptR) × (Int)) : List AV × List Ob := ([AV.fsl (List.map eKeptR q.1),AV.func (.func 126) [] [AV.fptr [AV.int .i64 q.2] 0]],[])
noncomputable def slices_IndexFunc_Kept_Cache_keptAt_1R_v (q : (List TKeptR) × (Int)) (r : (Int)) : AV × List Ob := (AV.int .i64 r,[])
noncomputable def slices_IndexFunc_Kept_Cache_keptAt_1R_x : List AV → List Ob → Option (AV × List Ob) := xOf slices_IndexFunc_Kept_Cache_keptAt_1R_e (fun q => slices_IndexFunc_Kept_Cache_keptAt_1R q.1 q.2) slices_IndexFunc_Kept_Cache_keptAt_1R_v
theorem slices_IndexFunc_Kept_Cache_keptAt_1R_i : ∀ a b,slices_IndexFunc_Kept_Cache_keptAt_1R_e a = slices_IndexFunc_Kept_Cache_keptAt_1R_e b → a = b := by rintro ⟨x0,x1⟩ ⟨y0,y1⟩ h; simp [slices_IndexFunc_Kept_Cache_keptAt_1R_e] at h; simp [h]
@[simp] theorem slices_IndexFunc_Kept_Cache_keptAt_1R_k (z0 : List TKeptR) (z1 : Int) : slices_IndexFunc_Kept_Cache_keptAt_1R_x [AV.fsl (List.map eKeptR z0),AV.func (.func 126) [] [AV.fptr [AV.int .i64 z1] 0]] [] = mapR (slices_IndexFunc_Kept_Cache_keptAt_1R z0 z1) (fun r => (AV.int .i64 r,[])) :=
  xOf_eq slices_IndexFunc_Kept_Cache_keptAt_1R_i (z0,z1)
noncomputable def impl_Cache_keptAtR (a0 : TCacheR) (a1 : Int) : Option ((Int)) :=
  bnd (slices_IndexFunc_Kept_Cache_keptAt_1R a0.list a1) fun v1 =>
  some v1
noncomputable def impl_Cache_keptAtR_e (q : (TCacheR) × (Int)) : List AV × List Ob := ([AV.fptr [AV.int .i64 q.1.most,AV.fsl (List.map eKeptR q.1.list)] 0,AV.int .i64 q.2],[])
noncomputable def impl_Cache_keptAtR_v (q : (TCacheR) × (Int)) (r : (Int)) : AV × List Ob := (AV.int .i64 r,[])
noncomputable def impl_Cache_keptAtR_x : List AV → List Ob → Option (AV × List Ob) := xOf impl_Cache_keptAtR_e (fun q => impl_Cache_keptAtR q.1 q.2) impl_Cache_keptAtR_v
theorem impl_Cache_keptAtR_i : ∀ a b,impl_Cache_keptAtR_e a = impl_Cache_keptAtR_e b → a = b := by rintro ⟨⟨x0,x1⟩,x2⟩ ⟨⟨y0,y1⟩,y2⟩ h; simp [impl_Cache_keptAtR_e] at h; simp [h]
@[simp] theorem impl_Cache_keptAtR_k (z0 : Int) (z1 : List TKeptR) (z2 : Int) : impl_Cache_keptAtR_x [AV.fptr [AV.int .i64 z0,AV.fsl (List.map eKeptR z1)] 0,AV.int .i64 z2] [] = mapR (impl_Cache_keptAtR ⟨z0,z1⟩ z2) (fun r => (AV.int .i64 r,[])) :=
  xOf_eq impl_Cache_keptAtR_i (⟨z0,z1⟩,z2)
noncomputable def slices_Delete_KeptR (a0 : Nat) (a1 : Int) (a2 : Int) (a3 : List TKeptR) : Option ((List TKeptR) × (List TKeptR)) :=
  chkP (a0 ≤ List.length a3) (
  chkP (0 ≤ a1 ∧ a1 ≤ a2 ∧ a2 ≤ (a0 : Int) ∧ (a0 : Int) ≤ (a0 : Int)) (
  cnd (ieq a1 a2) (
   some ((tk a0 a3),a3)) (
   bnd (slc a3 0 a1) fun v1 =>
   bnd (slc a3 a2 (a0 : Int)) fun v2 =>
   chkP ((List.length v1) + List.length v2 ≤ List.length a3) (
   chkP (((List.length v1) + List.length v2) * 64 ≤ 17592186044416) (
   nam ((ovr a3 (List.length v1) v2) : List TKeptR) fun l3 =>
   bnd (slc l3 0 ((List.length v1 : Int) + (List.length v2 : Int))) fun v4 =>
   bnd (slc l3 (List.length v4 : Int) (a0 : Int)) fun v5 =>
   nam ((clrL l3 (Int.toNat (List.length v4 : Int)) (List.length v5) (TKeptR.mk 0 (TMaskR.mk (TBox.mk 0 0 0 0) none))) : List TKeptR) fun l6 =>
   some (v4,l6))))))
noncomputable def slices_Delete_KeptR_e (q : (Nat) × (Int) × (Int) × (List TKeptR)) : List AV × List Ob := ([AV.osl 0 0 q.1 (List.length q.2.2.2),AV.int .i64 q.2.1,AV.int .i64 q.2.2.1],[Ob.arr 6 (List.map eKeptR q.2.2.2) false])
noncomputable def slices_Delete_KeptR_v (q : (Nat) × (Int) × (Int) × (List TKeptR)) (r : (List TKeptR) × (List TKeptR)) : AV × List Ob := (AV.osl 0 0 (List.length r.1) (List.length r.2),[Ob.arr 6 (List.map eKeptR r.2) false])
noncomputable def slices_Delete_KeptR_x : List AV → List Ob → Option (AV × List Ob) := xOf slices_Delete_KeptR_e (fun q => slices_Delete_KeptR q.1 q.2.1 q.2.2.1 q.2.2.2) slices_Delete_KeptR_v
theorem slices_Delete_KeptR_i : ∀ a b,slices_Delete_KeptR_e a = slices_Delete_KeptR_e b → a = b := by rintro ⟨x0,x1,x2,x3⟩ ⟨y0,y1,y2,y3⟩ h; simp [slices_Delete_KeptR_e] at h; simp [h]
@[simp] theorem slices_Delete_KeptR_k (z0 : Nat) (z1 : Int) (z2 : Int) (z3 : List TKeptR) : slices_Delete_KeptR_x [AV.osl 0 0 z0 (List.length z3),AV.int .i64 z1,AV.int .i64 z2] [Ob.arr 6 (List.map eKeptR z3) false] = mapR (slices_Delete_KeptR z0 z1 z2 z3) (fun r => (AV.osl 0 0 (List.length r.1) (List.length r.2),[Ob.arr 6 (List.map eKeptR r.2) false])) :=
  xOf_eq slices_Delete_KeptR_i (z0,z1,z2,z3)
noncomputable def slices_Insert_KeptR (a0 : Nat) (a1 : Int) (a2 : List TKeptR) (a3 : List TKeptR) : Option ((List TKeptR) × (List TKeptR)) :=
  cnd (ieq a1 (a0 : Int)) (
   chkP (a0 ≤ List.length a2) (
   bnd (slc a2 a1 (a0 : Int)) fun v1 =>
   cnd (ieq (List.length a3 : Int) 0) (
    some ((tk a0 a2),a2)) (
    cnd (ieq (a0 : Int) (List.length a2 : Int)) (
     chkP ((List.length a2 + List.length a3) * 64 ≤ 17592186044416) (
     nam ((a2 ++ a3) : List TKeptR) fun l2 =>
     some (l2,l2))) (
     chkP (a0 + List.length a3 ≤ List.length a2) (
     chkP ((a0 + List.length a3) * 64 ≤ 17592186044416) (
     nam ((ovr a2 a0 a3) : List TKeptR) fun l3 =>
     bnd (slc l3 0 ((a0 : Int) + (List.length a3 : Int))) fun v4 =>
     some (v4,l3))))))) (
   chkP (0 ≤ a1 ∧ a1 < a0 ∧ a0 ≤ List.length a2 ∧ 0 < List.length a3 ∧ (a0 + List.length a3) * 64 ≤ 17592186044416) (
   some ((insL a2 a0 a1 a3),(insR a2 a0 a1 a3))))
noncomputable def slices_Insert_KeptR_e (q : (Nat) × (Int) × (List TKeptR) × (List TKeptR)) : List AV × List Ob := ([AV.osl 0 0 q.1 (List.length q.2.2.1),AV.int .i64 q.2.1,AV.osl 1 0 (List.length q.2.2.2) (List.length q.2.2.2)],[Ob.arr 6 (List.map eKeptR q.2.2.1) false,Ob.arr 6 (List.map eKeptR q.2.2.2) false])
noncomputable def slices_Insert_KeptR_v (q : (Nat) × (Int) × (List TKeptR) × (List TKeptR)) (r : (List TKeptR) × (List TKeptR)) : AV × List Ob := (AV.osl 0 0 (List.length r.1) (List.length r.2),[Ob.arr 6 (List.map eKeptR r.2) false,Ob.arr 6 (List.map eKeptR q.2.2.2) false])
noncomputable def slices_Insert_KeptR_x : List AV → List Ob → Option (AV × List Ob) := xOf slices_Insert_KeptR_e (fun q => slices_Insert_KeptR q.1 q.2.1 q.2.2.1 q.2.2.2) slices_Insert_KeptR_v
theorem slices_Insert_KeptR_i : ∀ a b,slices_Insert_KeptR_e a = slices_Insert_KeptR_e b → a = b := by rintro ⟨x0,x1,x2,x3⟩ ⟨y0,y1,y2,y3⟩ h; simp [slices_Insert_KeptR_e] at h; simp [h]
@[simp] theorem slices_Insert_KeptR_k (z0 : Nat) (z1 : Int) (z2 : List TKeptR) (z3 : List TKeptR) : slices_Insert_KeptR_x [AV.osl 0 0 z0 (List.length z2),AV.int .i64 z1,AV.osl 1 0 (List.length z3) (List.length z3)] [Ob.arr 6 (List.map eKeptR z2) false,Ob.arr 6 (List.map eKeptR z3) false] = mapR (slices_Insert_KeptR z0 z1 z2 z3) (fun r => (AV.osl 0 0 (List.length r.1) (List.length r.2),[Ob.arr 6 (List.map eKeptR r.2) false,Ob.arr 6 (List.map eKeptR z3) false])) :=
  xOf_eq slices_Insert_KeptR_i (z0,z1,z2,z3)
noncomputable def impl_Cache_toFrontR (a0 : TKeptR) (a1 : Int) (a2 : Nat) (a3 : List TKeptR) : Option ((Int) × (List TKeptR) × (List TKeptR)) :=
  bnd (impl_Cache_keptAtR (TCacheR.mk a1 a3) a0.id) fun v1 =>
  cnd (ile 0 v1) (
   bnd (slices_Delete_KeptR (List.length a3) v1 (IntKind.i64.wrap (v1 + 1)) a3) fun (w3,w4) =>
   bnd (slc w4 0 (List.length w3 : Int)) fun v5 =>
   bnd (slices_Insert_KeptR (List.length v5) 0 w4 [a0]) fun (w7,w8) =>
   bnd (slc w8 0 (List.length w7 : Int)) fun v9 =>
   cnd (ile (List.length v9 : Int) a1) (
    some (a1,v9,w8)) (
    bnd (slices_Delete_KeptR (List.length v9) a1 (List.length v9 : Int) w8) fun (w11,w12) =>
    bnd (slc w12 0 (List.length w11 : Int)) fun v13 =>
    some (a1,v13,w12))) (
   bnd (slices_Insert_KeptR (List.length a3) 0 a3 [a0]) fun (w15,w16) =>
   bnd (slc w16 0 (List.length w15 : Int)) fun v17 =>
   cnd (ile (List.length v17 : Int) a1) (
    some (a1,v17,w16)) (
    bnd (slices_Delete_KeptR (List.length v17) a1 (List.length v17 : Int) w16) fun (w19,w20) =>
    bnd (slc w20 0 (List.length w19 : Int)) fun v21 =>
    some (a1,v21,w20)))
noncomputable def impl_Cache_toFrontR_e (q : (TKeptR) × (Int) × (Nat) × (List TKeptR)) : List AV × List Ob := ([AV.optr 0 0 2,AV.agg [AV.int .i64 q.1.id,AV.int .i64 q.1.mask.box.x0,AV.int .i64 q.1.mask.box.y0,AV.int .i64 q.1.mask.box.x1,AV.int .i64 q.1.mask.box.y1,eO q.1.mask.bits]],[Ob.box [AV.int .i64 q.2.1,AV.osl 2 0 (List.length q.2.2.2) (List.length q.2.2.2)],Ob.gone q.2.2.1,Ob.arr 6 (List.map eKeptR q.2.2.2) false])
noncomputable def impl_Cache_toFrontR_v (q : (TKeptR) × (Int) × (Nat) × (List TKeptR)) (r : (Int) × (List TKeptR) × (List TKeptR)) : AV × List Ob := (AV.tup [],[Ob.box [AV.int .i64 r.1,AV.osl 2 0 (List.length r.2.1) (List.length r.2.2)],Ob.gone q.2.2.1,Ob.arr 6 (List.map eKeptR r.2.2) false])
noncomputable def impl_Cache_toFrontR_x : List AV → List Ob → Option (AV × List Ob) := xOf impl_Cache_toFrontR_e (fun q => impl_Cache_toFrontR q.1 q.2.1 q.2.2.1 q.2.2.2) impl_Cache_toFrontR_v
theorem impl_Cache_toFrontR_i : ∀ a b,impl_Cache_toFrontR_e a = impl_Cache_toFrontR_e b → a = b := by rintro ⟨⟨x0,⟨⟨x1,x2,x3,x4⟩,x5⟩⟩,x6,x7,x8⟩ ⟨⟨y0,⟨⟨y1,y2,y3,y4⟩,y5⟩⟩,y6,y7,y8⟩ h; simp [impl_Cache_toFrontR_e] at h; simp [h]
@[simp] theorem impl_Cache_toFrontR_k (z0 : Int) (z1 : Int) (z2 : Int) (z3 : Int) (z4 : Int) (z5 : Option Value) (z6 : Int) (z7 : Nat) (z8 : List TKeptR) : impl_Cache_toFrontR_x [AV.optr 0 0 2,AV.agg [AV.int .i64 z0,AV.int .i64 z1,AV.int .i64 z2,AV.int .i64 z3,AV.int .i64 z4,eO z5]] [Ob.box [AV.int .i64 z6,AV.osl 2 0 (List.length z8) (List.length z8)],Ob.gone z7,Ob.arr 6 (List.map eKeptR z8) false] = mapR (impl_Cache_toFrontR ⟨z0,⟨⟨z1,z2,z3,z4⟩,z5⟩⟩ z6 z7 z8) (fun r => (AV.tup [],[Ob.box [AV.int .i64 r.1,AV.osl 2 0 (List.length r.2.1) (List.length r.2.2)],Ob.gone z7,Ob.arr 6 (List.map eKeptR r.2.2) false])) :=
  xOf_eq impl_Cache_toFrontR_i (⟨z0,⟨⟨z1,z2,z3,z4⟩,z5⟩⟩,z6,z7,z8)
noncomputable def impl_Cache_toFront_n (a0 : Int) (a1 : TBox) (a2 : Int) (a3 : List Int) (a4 : List TKept) (a5 : List TKept) : Option ((List TKept)) :=
  chkP (List.length a4 + List.length a5 + 1 ≤ 1000 ∧ 0 ≤ a2 ∧ List.any a4 (fun y => ieq y.id (TKept.mk a0 (TMask.mk a1 a3)).id) = false) (
  some (List.take (Int.toNat a2) ((TKept.mk a0 (TMask.mk a1 a3)) :: (a4 ++ a5))))
noncomputable def impl_Cache_toFront_n_e (q : (Int) × (TBox) × (Int) × (List Int) × (List TKept) × (List TKept)) : List AV × List Ob := ([AV.optr 0 0 2,AV.agg [AV.int .i64 q.1,AV.int .i64 q.2.1.x0,AV.int .i64 q.2.1.y0,AV.int .i64 q.2.1.x1,AV.int .i64 q.2.1.y1,AV.osl 1 0 (List.length q.2.2.2.1) (List.length q.2.2.2.1)]],[Ob.box [AV.int .i64 q.2.2.1,AV.osl 2 0 (List.length (q.2.2.2.2.1 ++ (TKept.mk q.1 (TMask.mk (TBox.mk q.2.1.x0 q.2.1.y0 q.2.1.x1 q.2.1.y1) q.2.2.2.1)) :: q.2.2.2.2.2)) (List.length (q.2.2.2.2.1 ++ (TKept.mk q.1 (TMask.mk (TBox.mk q.2.1.x0 q.2.1.y0 q.2.1.x1 q.2.1.y1) q.2.2.2.1)) :: q.2.2.2.2.2))],Ob.arr 1 (List.map (AV.int .i64) q.2.2.2.1) false,Ob.nar 6 (List.map eKept q.2.2.2.2.1 ++ AV.agg [AV.int .i64 q.1,AV.int .i64 q.2.1.x0,AV.int .i64 q.2.1.y0,AV.int .i64 q.2.1.x1,AV.int .i64 q.2.1.y1,AV.osl 1 0 (List.length q.2.2.2.1) (List.length q.2.2.2.1)] :: List.map eKept q.2.2.2.2.2) [0,0,0,0,0,1]])
noncomputable def impl_Cache_toFront_n_v (q : (Int) × (TBox) × (Int) × (List Int) × (List TKept) × (List TKept)) (r : (List TKept)) : AV × List Ob := (AV.tup [],[Ob.box [AV.int .i64 q.2.2.1,AV.osl 3 0 (List.length r) (List.length r)],Ob.gone (List.length q.2.2.2.1),Ob.gone (List.length q.2.2.2.2.1 + List.length q.2.2.2.2.2 + 1),Ob.nar 6 (List.map eKept r) [0,0,0,0,0,1]])
noncomputable def impl_Cache_toFront_n_x : List AV → List Ob → Option (AV × List Ob) := xOf impl_Cache_toFront_n_e (fun q => impl_Cache_toFront_n q.1 q.2.1 q.2.2.1 q.2.2.2.1 q.2.2.2.2.1 q.2.2.2.2.2) impl_Cache_toFront_n_v
theorem impl_Cache_toFront_n_i : ∀ a b,impl_Cache_toFront_n_e a = impl_Cache_toFront_n_e b → a = b := by rintro ⟨x0,⟨x1,x2,x3,x4⟩,x5,x6,x7,x8⟩ ⟨y0,⟨y1,y2,y3,y4⟩,y5,y6,y7,y8⟩ h; simp [impl_Cache_toFront_n_e] at h; obtain ⟨h1,h2,h3,h4⟩ := h; obtain ⟨h5,h6⟩ := split_inj inj_eKept (by intros; simp) (by intros; simp) h4; simp [h1,h2,h3,h5,h6]
@[simp] theorem impl_Cache_toFront_n_k (z0 : Int) (z1 : Int) (z2 : Int) (z3 : Int) (z4 : Int) (z5 : Int) (z6 : List Int) (z7 : List TKept) (z8 : List TKept) : impl_Cache_toFront_n_x [AV.optr 0 0 2,AV.agg [AV.int .i64 z0,AV.int .i64 z1,AV.int .i64 z2,AV.int .i64 z3,AV.int .i64 z4,AV.osl 1 0 (List.length z6) (List.length z6)]] [Ob.box [AV.int .i64 z5,AV.osl 2 0 (List.length (z7 ++ (TKept.mk z0 (TMask.mk (TBox.mk z1 z2 z3 z4) z6)) :: z8)) (List.length (z7 ++ (TKept.mk z0 (TMask.mk (TBox.mk z1 z2 z3 z4) z6)) :: z8))],Ob.arr 1 (List.map (AV.int .i64) z6) false,Ob.nar 6 (List.map eKept z7 ++ AV.agg [AV.int .i64 z0,AV.int .i64 z1,AV.int .i64 z2,AV.int .i64 z3,AV.int .i64 z4,AV.osl 1 0 (List.length z6) (List.length z6)] :: List.map eKept z8) [0,0,0,0,0,1]] = mapR (impl_Cache_toFront_n z0 ⟨z1,z2,z3,z4⟩ z5 z6 z7 z8) (fun r => (AV.tup [],[Ob.box [AV.int .i64 z5,AV.osl 3 0 (List.length r) (List.length r)],Ob.gone (List.length z6),Ob.gone (List.length z7 + List.length z8 + 1),Ob.nar 6 (List.map eKept r) [0,0,0,0,0,1]])) :=
  xOf_eq impl_Cache_toFront_n_i (z0,⟨z1,z2,z3,z4⟩,z5,z6,z7,z8)
theorem impl_Cache_toFront_n_ks (z0 : Int) (z1 : Int) (z2 : Int) (z3 : Int) (z4 : Int) (z5 : Int) (z6 : List Int) (zl : List TKept) (zi : Int) (hz : Int.toNat zi < List.length zl) : impl_Cache_toFront_n_x [AV.optr 0 0 2,AV.agg [AV.int .i64 z0,AV.int .i64 z1,AV.int .i64 z2,AV.int .i64 z3,AV.int .i64 z4,AV.osl 1 0 (List.length z6) (List.length z6)]] [Ob.box [AV.int .i64 z5,AV.osl 2 0 (List.length zl) (List.length zl)],Ob.arr 1 (List.map (AV.int .i64) z6) false,Ob.nar 6 (List.set (List.map eKept zl) (Int.toNat zi) (AV.agg [AV.int .i64 z0,AV.int .i64 z1,AV.int .i64 z2,AV.int .i64 z3,AV.int .i64 z4,AV.osl 1 0 (List.length z6) (List.length z6)])) [0,0,0,0,0,1]] = mapR (impl_Cache_toFront_n z0 ⟨z1,z2,z3,z4⟩ z5 z6 (List.take (Int.toNat zi) zl) (List.drop (Int.toNat zi + 1) zl)) (fun r => (AV.tup [],[Ob.box [AV.int .i64 z5,AV.osl 3 0 (List.length r) (List.length r)],Ob.gone (List.length z6),Ob.gone (List.length (List.take (Int.toNat zi) zl) + List.length (List.drop (Int.toNat zi + 1) zl) + 1),Ob.nar 6 (List.map eKept r) [0,0,0,0,0,1]])) := by
  have e1 : List.set (List.map eKept zl) (Int.toNat zi) (AV.agg [AV.int .i64 z0,AV.int .i64 z1,AV.int .i64 z2,AV.int .i64 z3,AV.int .i64 z4,AV.osl 1 0 (List.length z6) (List.length z6)]) = List.map eKept (List.take (Int.toNat zi) zl) ++ AV.agg [AV.int .i64 z0,AV.int .i64 z1,AV.int .i64 z2,AV.int .i64 z3,AV.int .i64 z4,AV.osl 1 0 (List.length z6) (List.length z6)] :: List.map eKept (List.drop (Int.toNat zi + 1) zl) := by rw [List.set_eq_take_append_cons_drop,if_pos (by simpa using hz),List.map_take,List.map_drop]
  have e2 : List.length ((List.take (Int.toNat zi) zl) ++ (TKept.mk z0 (TMask.mk (TBox.mk z1 z2 z3 z4) z6)) :: (List.drop (Int.toNat zi + 1) zl)) = List.length zl := by simp; omega
  have k := impl_Cache_toFront_n_k z0 z1 z2 z3 z4 z5 z6 (List.take (Int.toNat zi) zl) (List.drop (Int.toNat zi + 1) zl)
  rw [e2] at k; rw [e1]; exact k
noncomputable def impl_Recall (a0 : TCache) (a1 : Int) : Option ((Int) × (TBox) × (Bool) × (List TKept) × (List Int)) :=
  bnd (impl_copyCache a0) fun (w2,w3) =>
  bnd (impl_Cache_keptAt a0 a1) fun v4 =>
  cnd (ile 0 v4) (
   bnd (impl_CacheOk a0) fun v5 =>
   cnd v5 (
    bnd (idx w3 v4) fun v6 =>
    bnd (impl_Cache_toFront_n v6.id v6.mask.box w2 v6.mask.bits (List.take (Int.toNat v4) w3) (List.drop (Int.toNat v4 + 1) w3)) fun v7 =>
    bnd (idx a0.list v4) fun v8 =>
    bnd (impl_copyMask v8.mask) fun (w10,w11) =>
    some (w2,w10,true,v7,w11)) (
    some (w2,(TBox.mk 0 0 0 0),false,w3,[]))) (
   some (w2,(TBox.mk 0 0 0 0),false,w3,[]))
noncomputable def impl_Recall_e (q : (TCache) × (Int)) : List AV × List Ob := ([AV.agg [AV.int .i64 q.1.most,AV.fsl (List.map eKept q.1.list)],AV.int .i64 q.2],[])
noncomputable def impl_Recall_v (q : (TCache) × (Int)) (r : (Int) × (TBox) × (Bool) × (List TKept) × (List Int)) : AV × List Ob := (AV.tup [AV.agg [AV.int .i64 r.1,AV.osl 0 0 (List.length r.2.2.2.1) (List.length r.2.2.2.1)],AV.agg [AV.int .i64 r.2.1.x0,AV.int .i64 r.2.1.y0,AV.int .i64 r.2.1.x1,AV.int .i64 r.2.1.y1,AV.osl 1 0 (List.length r.2.2.2.2) (List.length r.2.2.2.2)],AV.bool r.2.2.1],[Ob.nar 6 (List.map eKept r.2.2.2.1) [0,0,0,0,0,1],Ob.arr 1 (List.map (AV.int .i64) r.2.2.2.2) false])
noncomputable def impl_Recall_x : List AV → List Ob → Option (AV × List Ob) := xOf impl_Recall_e (fun q => impl_Recall q.1 q.2) impl_Recall_v
theorem impl_Recall_i : ∀ a b,impl_Recall_e a = impl_Recall_e b → a = b := by rintro ⟨⟨x0,x1⟩,x2⟩ ⟨⟨y0,y1⟩,y2⟩ h; simp [impl_Recall_e] at h; simp [h]
@[simp] theorem impl_Recall_k (z0 : Int) (z1 : List TKept) (z2 : Int) : impl_Recall_x [AV.agg [AV.int .i64 z0,AV.fsl (List.map eKept z1)],AV.int .i64 z2] [] = mapR (impl_Recall ⟨z0,z1⟩ z2) (fun r => (AV.tup [AV.agg [AV.int .i64 r.1,AV.osl 0 0 (List.length r.2.2.2.1) (List.length r.2.2.2.1)],AV.agg [AV.int .i64 r.2.1.x0,AV.int .i64 r.2.1.y0,AV.int .i64 r.2.1.x1,AV.int .i64 r.2.1.y1,AV.osl 1 0 (List.length r.2.2.2.2) (List.length r.2.2.2.2)],AV.bool r.2.2.1],[Ob.nar 6 (List.map eKept r.2.2.2.1) [0,0,0,0,0,1],Ob.arr 1 (List.map (AV.int .i64) r.2.2.2.2) false])) :=
  xOf_eq impl_Recall_i (⟨z0,z1⟩,z2)
noncomputable def laws_eqBox (a0 : TBox) (a1 : TBox) : Option ((Bool)) :=
  cnd (ieq a0.x0 a1.x0) (
   cnd (ieq a0.y0 a1.y0) (
    cnd (ieq a0.x1 a1.x1) (
     cnd (ieq a0.y1 a1.y1) (
      some true) (
      some false)) (
     some false)) (
    some false)) (
   some false)
noncomputable def laws_eqBox_e (q : (TBox) × (TBox)) : List AV × List Ob := ([AV.agg [AV.int .i64 q.1.x0,AV.int .i64 q.1.y0,AV.int .i64 q.1.x1,AV.int .i64 q.1.y1],AV.agg [AV.int .i64 q.2.x0,AV.int .i64 q.2.y0,AV.int .i64 q.2.x1,AV.int .i64 q.2.y1]],[])
noncomputable def laws_eqBox_v (q : (TBox) × (TBox)) (r : (Bool)) : AV × List Ob := (AV.bool r,[])
noncomputable def laws_eqBox_x : List AV → List Ob → Option (AV × List Ob) := xOf laws_eqBox_e (fun q => laws_eqBox q.1 q.2) laws_eqBox_v
theorem laws_eqBox_i : ∀ a b,laws_eqBox_e a = laws_eqBox_e b → a = b := by rintro ⟨⟨x0,x1,x2,x3⟩,⟨x4,x5,x6,x7⟩⟩ ⟨⟨y0,y1,y2,y3⟩,⟨y4,y5,y6,y7⟩⟩ h; simp [laws_eqBox_e] at h; simp [h]
@[simp] theorem laws_eqBox_k (z0 : Int) (z1 : Int) (z2 : Int) (z3 : Int) (z4 : Int) (z5 : Int) (z6 : Int) (z7 : Int) : laws_eqBox_x [AV.agg [AV.int .i64 z0,AV.int .i64 z1,AV.int .i64 z2,AV.int .i64 z3],AV.agg [AV.int .i64 z4,AV.int .i64 z5,AV.int .i64 z6,AV.int .i64 z7]] [] = mapR (laws_eqBox ⟨z0,z1,z2,z3⟩ ⟨z4,z5,z6,z7⟩) (fun r => (AV.bool r,[])) :=
  xOf_eq laws_eqBox_i (⟨z0,z1,z2,z3⟩,⟨z4,z5,z6,z7⟩)
noncomputable def laws_eqIntS_l0 (a0 : List Int) (a1 : List Int) : ((Int)) → Option (((Int)) ⊕ ((Unit) ⊕ (Unit))) := fun x3 =>
  cnd (ile (List.length a0 : Int) x3) (
   some (.inr (.inl ()))) (
   bnd (idx a0 x3) fun v4 =>
   bnd (idx a1 x3) fun v5 =>
   cnd (ieq v4 v5) (
    some (.inl (IntKind.i64.wrap (x3 + 1)))) (
    some (.inr (.inr ()))))
noncomputable def laws_eqIntS_l0_S (a0 : List Int) (a1 : List Int) : ((Int)) → St := fun x3 => ⟨[(0,AV.fsl (List.map (AV.int .i64) a0)),(1,AV.fsl (List.map (AV.int .i64) a1)),(5,AV.int .i64 x3)],[],0⟩
noncomputable def laws_eqIntS_l0_X (a0 : List Int) (a1 : List Int) : ((Unit) ⊕ (Unit)) → Ex × St := fun q => match q with
  | .inl _ => ((.exit 0),⟨[],[],0⟩)
  | .inr _ => (.ret,⟨[(4,AV.bool false)],[],0⟩)
noncomputable def laws_eqIntS (a0 : List Int) (a1 : List Int) : Option ((Bool)) :=
  cnd (ieq (List.length a0 : Int) (List.length a1 : Int)) (
   bnd (loopI (laws_eqIntS_l0 a0 a1) 0) fun q => match q with
   | .inl () =>
    some true
   | .inr () =>
    some false) (
   some false)
noncomputable def laws_eqIntS_e (q : (List Int) × (List Int)) : List AV × List Ob := ([AV.fsl (List.map (AV.int .i64) q.1),AV.fsl (List.map (AV.int .i64) q.2)],[])
noncomputable def laws_eqIntS_v (q : (List Int) × (List Int)) (r : (Bool)) : AV × List Ob := (AV.bool r,[])
noncomputable def laws_eqIntS_x : List AV → List Ob → Option (AV × List Ob) := xOf laws_eqIntS_e (fun q => laws_eqIntS q.1 q.2) laws_eqIntS_v
theorem laws_eqIntS_i : ∀ a b,laws_eqIntS_e a = laws_eqIntS_e b → a = b := by rintro ⟨x0,x1⟩ ⟨y0,y1⟩ h; simp [laws_eqIntS_e] at h; simp [h]
@[simp] theorem laws_eqIntS_k (z0 : List Int) (z1 : List Int) : laws_eqIntS_x [AV.fsl (List.map (AV.int .i64) z0),AV.fsl (List.map (AV.int .i64) z1)] [] = mapR (laws_eqIntS z0 z1) (fun r => (AV.bool r,[])) :=
  xOf_eq laws_eqIntS_i (z0,z1)
noncomputable def laws_eqMask (a0 : TMask) (a1 : TMask) : Option ((Bool)) :=
  bnd (laws_eqBox a0.box a1.box) fun v1 =>
  cnd v1 (
   bnd (laws_eqIntS a0.bits a1.bits) fun v2 =>
   cnd v2 (
    some true) (
    some false)) (
   some false)
noncomputable def laws_eqMask_e (q : (TMask) × (TMask)) : List AV × List Ob := ([AV.agg [AV.int .i64 q.1.box.x0,AV.int .i64 q.1.box.y0,AV.int .i64 q.1.box.x1,AV.int .i64 q.1.box.y1,AV.fsl (List.map (AV.int .i64) q.1.bits)],AV.agg [AV.int .i64 q.2.box.x0,AV.int .i64 q.2.box.y0,AV.int .i64 q.2.box.x1,AV.int .i64 q.2.box.y1,AV.fsl (List.map (AV.int .i64) q.2.bits)]],[])
noncomputable def laws_eqMask_v (q : (TMask) × (TMask)) (r : (Bool)) : AV × List Ob := (AV.bool r,[])
noncomputable def laws_eqMask_x : List AV → List Ob → Option (AV × List Ob) := xOf laws_eqMask_e (fun q => laws_eqMask q.1 q.2) laws_eqMask_v
theorem laws_eqMask_i : ∀ a b,laws_eqMask_e a = laws_eqMask_e b → a = b := by rintro ⟨⟨⟨x0,x1,x2,x3⟩,x4⟩,⟨⟨x5,x6,x7,x8⟩,x9⟩⟩ ⟨⟨⟨y0,y1,y2,y3⟩,y4⟩,⟨⟨y5,y6,y7,y8⟩,y9⟩⟩ h; simp [laws_eqMask_e] at h; simp [h]
@[simp] theorem laws_eqMask_k (z0 : Int) (z1 : Int) (z2 : Int) (z3 : Int) (z4 : List Int) (z5 : Int) (z6 : Int) (z7 : Int) (z8 : Int) (z9 : List Int) : laws_eqMask_x [AV.agg [AV.int .i64 z0,AV.int .i64 z1,AV.int .i64 z2,AV.int .i64 z3,AV.fsl (List.map (AV.int .i64) z4)],AV.agg [AV.int .i64 z5,AV.int .i64 z6,AV.int .i64 z7,AV.int .i64 z8,AV.fsl (List.map (AV.int .i64) z9)]] [] = mapR (laws_eqMask ⟨⟨z0,z1,z2,z3⟩,z4⟩ ⟨⟨z5,z6,z7,z8⟩,z9⟩) (fun r => (AV.bool r,[])) :=
  xOf_eq laws_eqMask_i (⟨⟨z0,z1,z2,z3⟩,z4⟩,⟨⟨z5,z6,z7,z8⟩,z9⟩)
noncomputable def laws_eqKept (a0 : TKept) (a1 : TKept) : Option ((Bool)) :=
  cnd (ieq a0.id a1.id) (
   bnd (laws_eqMask a0.mask a1.mask) fun v1 =>
   cnd v1 (
    some true) (
    some false)) (
   some false)
noncomputable def laws_eqKept_e (q : (TKept) × (TKept)) : List AV × List Ob := ([AV.agg [AV.int .i64 q.1.id,AV.int .i64 q.1.mask.box.x0,AV.int .i64 q.1.mask.box.y0,AV.int .i64 q.1.mask.box.x1,AV.int .i64 q.1.mask.box.y1,AV.fsl (List.map (AV.int .i64) q.1.mask.bits)],AV.agg [AV.int .i64 q.2.id,AV.int .i64 q.2.mask.box.x0,AV.int .i64 q.2.mask.box.y0,AV.int .i64 q.2.mask.box.x1,AV.int .i64 q.2.mask.box.y1,AV.fsl (List.map (AV.int .i64) q.2.mask.bits)]],[])
noncomputable def laws_eqKept_v (q : (TKept) × (TKept)) (r : (Bool)) : AV × List Ob := (AV.bool r,[])
noncomputable def laws_eqKept_x : List AV → List Ob → Option (AV × List Ob) := xOf laws_eqKept_e (fun q => laws_eqKept q.1 q.2) laws_eqKept_v
theorem laws_eqKept_i : ∀ a b,laws_eqKept_e a = laws_eqKept_e b → a = b := by rintro ⟨⟨x0,⟨⟨x1,x2,x3,x4⟩,x5⟩⟩,⟨x6,⟨⟨x7,x8,x9,x10⟩,x11⟩⟩⟩ ⟨⟨y0,⟨⟨y1,y2,y3,y4⟩,y5⟩⟩,⟨y6,⟨⟨y7,y8,y9,y10⟩,y11⟩⟩⟩ h; simp [laws_eqKept_e] at h; simp [h]
@[simp] theorem laws_eqKept_k (z0 : Int) (z1 : Int) (z2 : Int) (z3 : Int) (z4 : Int) (z5 : List Int) (z6 : Int) (z7 : Int) (z8 : Int) (z9 : Int) (z10 : Int) (z11 : List Int) : laws_eqKept_x [AV.agg [AV.int .i64 z0,AV.int .i64 z1,AV.int .i64 z2,AV.int .i64 z3,AV.int .i64 z4,AV.fsl (List.map (AV.int .i64) z5)],AV.agg [AV.int .i64 z6,AV.int .i64 z7,AV.int .i64 z8,AV.int .i64 z9,AV.int .i64 z10,AV.fsl (List.map (AV.int .i64) z11)]] [] = mapR (laws_eqKept ⟨z0,⟨⟨z1,z2,z3,z4⟩,z5⟩⟩ ⟨z6,⟨⟨z7,z8,z9,z10⟩,z11⟩⟩) (fun r => (AV.bool r,[])) :=
  xOf_eq laws_eqKept_i (⟨z0,⟨⟨z1,z2,z3,z4⟩,z5⟩⟩,⟨z6,⟨⟨z7,z8,z9,z10⟩,z11⟩⟩)
noncomputable def laws_eqKeptS_l0 (a0 : List TKept) (a1 : List TKept) : ((Int)) → Option (((Int)) ⊕ ((Unit) ⊕ (Unit))) := fun x4 =>
  cnd (ile (List.length a0 : Int) x4) (
   some (.inr (.inl ()))) (
   bnd (idx a0 x4) fun v5 =>
   bnd (idx a1 x4) fun v6 =>
   bnd (laws_eqKept v5 v6) fun v7 =>
   cnd v7 (
    some (.inl (IntKind.i64.wrap (x4 + 1)))) (
    some (.inr (.inr ()))))
noncomputable def laws_eqKeptS_l0_S (a0 : List TKept) (a1 : List TKept) : ((Int)) → St := fun x4 => ⟨[(0,AV.fsl (List.map eKept a0)),(1,AV.fsl (List.map eKept a1)),(5,AV.int .i64 x4)],[],0⟩
noncomputable def laws_eqKeptS_l0_X (a0 : List TKept) (a1 : List TKept) : ((Unit) ⊕ (Unit)) → Ex × St := fun q => match q with
  | .inl _ => ((.exit 0),⟨[],[],0⟩)
  | .inr _ => (.ret,⟨[(4,AV.bool false)],[],0⟩)
noncomputable def laws_eqKeptS (a0 : List TKept) (a1 : List TKept) : Option ((Bool)) :=
  cnd (ieq (List.length a0 : Int) (List.length a1 : Int)) (
   bnd (loopI (laws_eqKeptS_l0 a0 a1) 0) fun q => match q with
   | .inl () =>
    some true
   | .inr () =>
    some false) (
   some false)
noncomputable def laws_eqKeptS_e (q : (List TKept) × (List TKept)) : List AV × List Ob := ([AV.fsl (List.map eKept q.1),AV.fsl (List.map eKept q.2)],[])
noncomputable def laws_eqKeptS_v (q : (List TKept) × (List TKept)) (r : (Bool)) : AV × List Ob := (AV.bool r,[])
noncomputable def laws_eqKeptS_x : List AV → List Ob → Option (AV × List Ob) := xOf laws_eqKeptS_e (fun q => laws_eqKeptS q.1 q.2) laws_eqKeptS_v
theorem laws_eqKeptS_i : ∀ a b,laws_eqKeptS_e a = laws_eqKeptS_e b → a = b := by rintro ⟨x0,x1⟩ ⟨y0,y1⟩ h; simp [laws_eqKeptS_e] at h; simp [h]
@[simp] theorem laws_eqKeptS_k (z0 : List TKept) (z1 : List TKept) : laws_eqKeptS_x [AV.fsl (List.map eKept z0),AV.fsl (List.map eKept z1)] [] = mapR (laws_eqKeptS z0 z1) (fun r => (AV.bool r,[])) :=
  xOf_eq laws_eqKeptS_i (z0,z1)
noncomputable def laws_eqCache (a0 : TCache) (a1 : TCache) : Option ((Bool)) :=
  cnd (ieq a0.most a1.most) (
   bnd (laws_eqKeptS a0.list a1.list) fun v1 =>
   cnd v1 (
    some true) (
    some false)) (
   some false)
noncomputable def laws_eqCache_e (q : (TCache) × (TCache)) : List AV × List Ob := ([AV.agg [AV.int .i64 q.1.most,AV.fsl (List.map eKept q.1.list)],AV.agg [AV.int .i64 q.2.most,AV.fsl (List.map eKept q.2.list)]],[])
noncomputable def laws_eqCache_v (q : (TCache) × (TCache)) (r : (Bool)) : AV × List Ob := (AV.bool r,[])
noncomputable def laws_eqCache_x : List AV → List Ob → Option (AV × List Ob) := xOf laws_eqCache_e (fun q => laws_eqCache q.1 q.2) laws_eqCache_v
theorem laws_eqCache_i : ∀ a b,laws_eqCache_e a = laws_eqCache_e b → a = b := by rintro ⟨⟨x0,x1⟩,⟨x2,x3⟩⟩ ⟨⟨y0,y1⟩,⟨y2,y3⟩⟩ h; simp [laws_eqCache_e] at h; simp [h]
@[simp] theorem laws_eqCache_k (z0 : Int) (z1 : List TKept) (z2 : Int) (z3 : List TKept) : laws_eqCache_x [AV.agg [AV.int .i64 z0,AV.fsl (List.map eKept z1)],AV.agg [AV.int .i64 z2,AV.fsl (List.map eKept z3)]] [] = mapR (laws_eqCache ⟨z0,z1⟩ ⟨z2,z3⟩) (fun r => (AV.bool r,[])) :=
  xOf_eq laws_eqCache_i (⟨z0,z1⟩,⟨z2,z3⟩)
noncomputable def laws_markIntS_l0  : ((Int) × (Int) × (List Int)) → Option (((Int) × (Int) × (List Int)) ⊕ ((List Int) × (Int))) := fun (x3,x4,x5) =>
  cnd (ile (List.length x5 : Int) x4) (
   some (.inr (x5,x3))) (
   bnd (idx x5 x4) fun v6 =>
   nam ((List.set x5 (Int.toNat x4) x3) : List Int) fun l7 =>
   some (.inl ((IntKind.i64.wrap (x3 + 1)),(IntKind.i64.wrap (x4 + 1)),l7)))
noncomputable def laws_markIntS_l0_S  : ((Int) × (Int) × (List Int)) → St := fun (x3,x4,x5) => ⟨[(0,AV.osl 0 0 (List.length x5) (List.length x5)),(1,AV.int .i64 x3),(5,AV.int .i64 x4)],[(0,Ob.arr 1 (List.map (AV.int .i64) x5) false)],1⟩
noncomputable def laws_markIntS_l0_X  : ((List Int) × (Int)) → Ex × St := fun (y8,y9) => ((.exit 0),⟨[(1,AV.int .i64 y9)],[(0,Ob.arr 1 (List.map (AV.int .i64) y8) false)],1⟩)
noncomputable def laws_markIntS (a0 : Int) (a1 : List Int) : Option ((Int) × (List Int)) :=
  bnd (loopI laws_markIntS_l0 (a0,0,a1)) fun (y8,y9) =>
  some (y9,y8)
noncomputable def laws_markIntS_e (q : (Int) × (List Int)) : List AV × List Ob := ([AV.osl 0 0 (List.length q.2) (List.length q.2),AV.int .i64 q.1],[Ob.arr 1 (List.map (AV.int .i64) q.2) false])
noncomputable def laws_markIntS_v (q : (Int) × (List Int)) (r : (Int) × (List Int)) : AV × List Ob := (AV.int .i64 r.1,[Ob.arr 1 (List.map (AV.int .i64) r.2) false])
noncomputable def laws_markIntS_x : List AV → List Ob → Option (AV × List Ob) := xOf laws_markIntS_e (fun q => laws_markIntS q.1 q.2) laws_markIntS_v
theorem laws_markIntS_i : ∀ a b,laws_markIntS_e a = laws_markIntS_e b → a = b := by rintro ⟨x0,x1⟩ ⟨y0,y1⟩ h; simp [laws_markIntS_e] at h; simp [h]
@[simp] theorem laws_markIntS_k (z0 : Int) (z1 : List Int) : laws_markIntS_x [AV.osl 0 0 (List.length z1) (List.length z1),AV.int .i64 z0] [Ob.arr 1 (List.map (AV.int .i64) z1) false] = mapR (laws_markIntS z0 z1) (fun r => (AV.int .i64 r.1,[Ob.arr 1 (List.map (AV.int .i64) r.2) false])) :=
  xOf_eq laws_markIntS_i (z0,z1)
theorem laws_markIntS_n {a0 : Int} {a1 : List Int} {r0 : Int} {r1 : List Int} (h : laws_markIntS a0 a1 = some (r0,r1)) : List.length a1 = List.length r1 := by
  unfold laws_markIntS at h; replace h : HS _ _ := h
  obtain ⟨q,e1,h⟩ := HS.bnd h
  replace e1 := loopI_pres (P := fun s => List.length a1 = List.length s.2.2) (Q := fun s => List.length a1 = List.length s.1) e1 (by
    rintro ⟨x3,x4,x5⟩ o hp h; dsimp only at hp; unfold laws_markIntS_l0 at h; replace h : HS _ _ := h
    rcases HS.cnd h with h | h
    · skip
      have h := HS.some h
      first | (cases h; simp_all; done) | (subst h; simp_all; done) | (simp only [Prod.mk.injEq] at h; simp_all; done)
    · skip
      obtain ⟨v6,e2,h⟩ := HS.bnd h
      clear e2
      obtain ⟨l7,e3,h⟩ := HS.nam h; replace e3 := congrArg List.length e3; simp only [List.length_set] at e3
      have h := HS.some h
      first | (cases h; simp_all; done) | (subst h; simp_all; done) | (simp only [Prod.mk.injEq] at h; simp_all; done)) (by simp)
  obtain ⟨y8,y9⟩ := q
  dsimp only at h e1
  have h := HS.some h
  first | (cases h; simp_all; done) | (subst h; simp_all; done) | (simp only [Prod.mk.injEq] at h; simp_all; done)
noncomputable def laws_markKeptS_l0  : ((Int) × (Int) × (List TKept)) → Option (((Int) × (Int) × (List TKept)) ⊕ ((List TKept) × (Int))) := fun (x5,x6,x7) =>
  cnd (ile (List.length x7 : Int) x6) (
   some (.inr (x7,x5))) (
   bnd (idx x7 x6) fun v8 =>
   bnd (laws_markIntS (IntKind.i64.wrap ((IntKind.i64.wrap ((IntKind.i64.wrap ((IntKind.i64.wrap ((IntKind.i64.wrap (x5 + 1)) + 1)) + 1)) + 1)) + 1)) v8.mask.bits) fun (w10,w11) =>
   some (.inl (w10,(IntKind.i64.wrap (x6 + 1)),(List.set x7 (Int.toNat x6) (TKept.mk x5 (TMask.mk (TBox.mk (IntKind.i64.wrap (x5 + 1)) (IntKind.i64.wrap ((IntKind.i64.wrap (x5 + 1)) + 1)) (IntKind.i64.wrap ((IntKind.i64.wrap ((IntKind.i64.wrap (x5 + 1)) + 1)) + 1)) (IntKind.i64.wrap ((IntKind.i64.wrap ((IntKind.i64.wrap ((IntKind.i64.wrap (x5 + 1)) + 1)) + 1)) + 1))) w11))))))
noncomputable def laws_markKeptS_l0_S  : ((Int) × (Int) × (List TKept)) → St := fun (x5,x6,x7) => ⟨[(0,AV.osl 0 0 (List.length x7) (List.length x7)),(1,AV.int .i64 x5),(5,AV.int .i64 x6)],[(0,Ob.nar 6 (List.map eKept x7) [0,0,0,0,0,1])],1⟩
noncomputable def laws_markKeptS_l0_X  : ((List TKept) × (Int)) → Ex × St := fun (y12,y13) => ((.exit 0),⟨[(1,AV.int .i64 y13)],[(0,Ob.nar 6 (List.map eKept y12) [0,0,0,0,0,1])],1⟩)
noncomputable def laws_markKeptS (a0 : Int) (a1 : List TKept) : Option ((Int) × (List TKept)) :=
  bnd (loopI laws_markKeptS_l0 (a0,0,a1)) fun (y12,y13) =>
  some (y13,y12)
noncomputable def laws_markKeptS_e (q : (Int) × (List TKept)) : List AV × List Ob := ([AV.osl 0 0 (List.length q.2) (List.length q.2),AV.int .i64 q.1],[Ob.nar 6 (List.map eKept q.2) [0,0,0,0,0,1]])
noncomputable def laws_markKeptS_v (q : (Int) × (List TKept)) (r : (Int) × (List TKept)) : AV × List Ob := (AV.int .i64 r.1,[Ob.nar 6 (List.map eKept r.2) [0,0,0,0,0,1]])
noncomputable def laws_markKeptS_x : List AV → List Ob → Option (AV × List Ob) := xOf laws_markKeptS_e (fun q => laws_markKeptS q.1 q.2) laws_markKeptS_v
theorem laws_markKeptS_i : ∀ a b,laws_markKeptS_e a = laws_markKeptS_e b → a = b := by rintro ⟨x0,x1⟩ ⟨y0,y1⟩ h; simp [laws_markKeptS_e] at h; simp [h]
@[simp] theorem laws_markKeptS_k (z0 : Int) (z1 : List TKept) : laws_markKeptS_x [AV.osl 0 0 (List.length z1) (List.length z1),AV.int .i64 z0] [Ob.nar 6 (List.map eKept z1) [0,0,0,0,0,1]] = mapR (laws_markKeptS z0 z1) (fun r => (AV.int .i64 r.1,[Ob.nar 6 (List.map eKept r.2) [0,0,0,0,0,1]])) :=
  xOf_eq laws_markKeptS_i (z0,z1)
theorem laws_markKeptS_n {a0 : Int} {a1 : List TKept} {r0 : Int} {r1 : List TKept} (h : laws_markKeptS a0 a1 = some (r0,r1)) : List.length a1 = List.length r1 := by
  unfold laws_markKeptS at h; replace h : HS _ _ := h
  obtain ⟨q,e1,h⟩ := HS.bnd h
  replace e1 := loopI_pres (P := fun s => List.length a1 = List.length s.2.2) (Q := fun s => List.length a1 = List.length s.1) e1 (by
    rintro ⟨x5,x6,x7⟩ o hp h; dsimp only at hp; unfold laws_markKeptS_l0 at h; replace h : HS _ _ := h
    rcases HS.cnd h with h | h
    · skip
      have h := HS.some h
      first | (cases h; simp_all; done) | (subst h; simp_all; done) | (simp only [Prod.mk.injEq] at h; simp_all; done)
    · skip
      obtain ⟨v8,e2,h⟩ := HS.bnd h
      clear e2
      obtain ⟨⟨w10,w11⟩,e3,h⟩ := HS.bnd h
      dsimp only at h
      replace e3 := laws_markIntS_n e3
      have h := HS.some h
      first | (cases h; simp_all; done) | (subst h; simp_all; done) | (simp only [Prod.mk.injEq] at h; simp_all; done)) (by simp)
  obtain ⟨y12,y13⟩ := q
  dsimp only at h e1
  have h := HS.some h
  first | (cases h; simp_all; done) | (subst h; simp_all; done) | (simp only [Prod.mk.injEq] at h; simp_all; done)
noncomputable def laws_markCache (a0 : Int) (a1 : Int) (a2 : List TKept) : Option ((Int) × (List TKept)) :=
  bnd (laws_markKeptS a1 a2) fun (w2,w3) =>
  some (w2,w3)
noncomputable def laws_markCache_e (q : (Int) × (Int) × (List TKept)) : List AV × List Ob := ([AV.agg [AV.int .i64 q.1,AV.osl 0 0 (List.length q.2.2) (List.length q.2.2)],AV.int .i64 q.2.1],[Ob.nar 6 (List.map eKept q.2.2) [0,0,0,0,0,1]])
noncomputable def laws_markCache_v (q : (Int) × (Int) × (List TKept)) (r : (Int) × (List TKept)) : AV × List Ob := (AV.int .i64 r.1,[Ob.nar 6 (List.map eKept r.2) [0,0,0,0,0,1]])
noncomputable def laws_markCache_x : List AV → List Ob → Option (AV × List Ob) := xOf laws_markCache_e (fun q => laws_markCache q.1 q.2.1 q.2.2) laws_markCache_v
theorem laws_markCache_i : ∀ a b,laws_markCache_e a = laws_markCache_e b → a = b := by rintro ⟨x0,x1,x2⟩ ⟨y0,y1,y2⟩ h; simp [laws_markCache_e] at h; simp [h]
@[simp] theorem laws_markCache_k (z0 : Int) (z1 : Int) (z2 : List TKept) : laws_markCache_x [AV.agg [AV.int .i64 z0,AV.osl 0 0 (List.length z2) (List.length z2)],AV.int .i64 z1] [Ob.nar 6 (List.map eKept z2) [0,0,0,0,0,1]] = mapR (laws_markCache z0 z1 z2) (fun r => (AV.int .i64 r.1,[Ob.nar 6 (List.map eKept r.2) [0,0,0,0,0,1]])) :=
  xOf_eq laws_markCache_i (z0,z1,z2)
theorem laws_markCache_n {a0 : Int} {a1 : Int} {a2 : List TKept} {r0 : Int} {r1 : List TKept} (h : laws_markCache a0 a1 a2 = some (r0,r1)) : List.length a2 = List.length r1 := by
  unfold laws_markCache at h; replace h : HS _ _ := h
  obtain ⟨⟨w2,w3⟩,e1,h⟩ := HS.bnd h
  dsimp only at h
  replace e1 := laws_markKeptS_n e1
  have h := HS.some h
  first | (cases h; simp_all; done) | (subst h; simp_all; done) | (simp only [Prod.mk.injEq] at h; simp_all; done)
noncomputable def laws_markMask (a0 : TBox) (a1 : Int) (a2 : List Int) : Option ((Int) × (List Int)) :=
  bnd (laws_markIntS a1 a2) fun (w2,w3) =>
  some (w2,w3)
noncomputable def laws_markMask_e (q : (TBox) × (Int) × (List Int)) : List AV × List Ob := ([AV.agg [AV.int .i64 q.1.x0,AV.int .i64 q.1.y0,AV.int .i64 q.1.x1,AV.int .i64 q.1.y1,AV.osl 0 0 (List.length q.2.2) (List.length q.2.2)],AV.int .i64 q.2.1],[Ob.arr 1 (List.map (AV.int .i64) q.2.2) false])
noncomputable def laws_markMask_v (q : (TBox) × (Int) × (List Int)) (r : (Int) × (List Int)) : AV × List Ob := (AV.int .i64 r.1,[Ob.arr 1 (List.map (AV.int .i64) r.2) false])
noncomputable def laws_markMask_x : List AV → List Ob → Option (AV × List Ob) := xOf laws_markMask_e (fun q => laws_markMask q.1 q.2.1 q.2.2) laws_markMask_v
theorem laws_markMask_i : ∀ a b,laws_markMask_e a = laws_markMask_e b → a = b := by rintro ⟨⟨x0,x1,x2,x3⟩,x4,x5⟩ ⟨⟨y0,y1,y2,y3⟩,y4,y5⟩ h; simp [laws_markMask_e] at h; simp [h]
@[simp] theorem laws_markMask_k (z0 : Int) (z1 : Int) (z2 : Int) (z3 : Int) (z4 : Int) (z5 : List Int) : laws_markMask_x [AV.agg [AV.int .i64 z0,AV.int .i64 z1,AV.int .i64 z2,AV.int .i64 z3,AV.osl 0 0 (List.length z5) (List.length z5)],AV.int .i64 z4] [Ob.arr 1 (List.map (AV.int .i64) z5) false] = mapR (laws_markMask ⟨z0,z1,z2,z3⟩ z4 z5) (fun r => (AV.int .i64 r.1,[Ob.arr 1 (List.map (AV.int .i64) r.2) false])) :=
  xOf_eq laws_markMask_i (⟨z0,z1,z2,z3⟩,z4,z5)
theorem laws_markMask_n {a0 : TBox} {a1 : Int} {a2 : List Int} {r0 : Int} {r1 : List Int} (h : laws_markMask a0 a1 a2 = some (r0,r1)) : List.length a2 = List.length r1 := by
  unfold laws_markMask at h; replace h : HS _ _ := h
  obtain ⟨⟨w2,w3⟩,e1,h⟩ := HS.bnd h
  dsimp only at h
  replace e1 := laws_markIntS_n e1
  have h := HS.some h
  first | (cases h; simp_all; done) | (subst h; simp_all; done) | (simp only [Prod.mk.injEq] at h; simp_all; done)
noncomputable def laws_heldIntS_l0 (a0 : List Int) : ((Int) × (Int)) → Option (((Int) × (Int)) ⊕ (((Int)) ⊕ (Unit))) := fun (x2,x3) =>
  cnd (ile (List.length a0 : Int) x3) (
   some (.inr (.inl x2))) (
   bnd (idx a0 x3) fun v4 =>
   cnd (ieq v4 x2) (
    some (.inl ((IntKind.i64.wrap (x2 + 1)),(IntKind.i64.wrap (x3 + 1))))) (
    some (.inr (.inr ()))))
noncomputable def laws_heldIntS_l0_S (a0 : List Int) : ((Int) × (Int)) → St := fun (x2,x3) => ⟨[(0,AV.fsl (List.map (AV.int .i64) a0)),(1,AV.int .i64 x2),(5,AV.int .i64 x3)],[],0⟩
noncomputable def laws_heldIntS_l0_X (a0 : List Int) : (((Int)) ⊕ (Unit)) → Ex × St := fun q => match q with
  | .inl y5 => ((.exit 0),⟨[(1,AV.int .i64 y5)],[],0⟩)
  | .inr _ => (.ret,⟨[(4,AV.int .i64 (-1))],[],0⟩)
noncomputable def laws_heldIntS (a0 : List Int) (a1 : Int) : Option ((Int)) :=
  bnd (loopI (laws_heldIntS_l0 a0) (a1,0)) fun q => match q with
  | .inl y5 =>
   some y5
  | .inr () =>
   some (-1)
noncomputable def laws_heldIntS_e (q : (List Int) × (Int)) : List AV × List Ob := ([AV.fsl (List.map (AV.int .i64) q.1),AV.int .i64 q.2],[])
noncomputable def laws_heldIntS_v (q : (List Int) × (Int)) (r : (Int)) : AV × List Ob := (AV.int .i64 r,[])
noncomputable def laws_heldIntS_x : List AV → List Ob → Option (AV × List Ob) := xOf laws_heldIntS_e (fun q => laws_heldIntS q.1 q.2) laws_heldIntS_v
theorem laws_heldIntS_i : ∀ a b,laws_heldIntS_e a = laws_heldIntS_e b → a = b := by rintro ⟨x0,x1⟩ ⟨y0,y1⟩ h; simp [laws_heldIntS_e] at h; simp [h]
@[simp] theorem laws_heldIntS_k (z0 : List Int) (z1 : Int) : laws_heldIntS_x [AV.fsl (List.map (AV.int .i64) z0),AV.int .i64 z1] [] = mapR (laws_heldIntS z0 z1) (fun r => (AV.int .i64 r,[])) :=
  xOf_eq laws_heldIntS_i (z0,z1)
noncomputable def laws_heldKeptS_l0 (a0 : List TKept) : ((Int) × (Int)) → Option (((Int) × (Int)) ⊕ (((Int)) ⊕ (Unit))) := fun (x3,x4) =>
  cnd (ile (List.length a0 : Int) x4) (
   some (.inr (.inl x3))) (
   bnd (idx a0 x4) fun v5 =>
   cnd (ieq v5.id x3) (
    cnd (ieq v5.mask.box.x0 (IntKind.i64.wrap (x3 + 1))) (
     cnd (ieq v5.mask.box.y0 (IntKind.i64.wrap ((IntKind.i64.wrap (x3 + 1)) + 1))) (
      cnd (ieq v5.mask.box.x1 (IntKind.i64.wrap ((IntKind.i64.wrap ((IntKind.i64.wrap (x3 + 1)) + 1)) + 1))) (
       cnd (ieq v5.mask.box.y1 (IntKind.i64.wrap ((IntKind.i64.wrap ((IntKind.i64.wrap ((IntKind.i64.wrap (x3 + 1)) + 1)) + 1)) + 1))) (
        bnd (laws_heldIntS v5.mask.bits (IntKind.i64.wrap ((IntKind.i64.wrap ((IntKind.i64.wrap ((IntKind.i64.wrap ((IntKind.i64.wrap (x3 + 1)) + 1)) + 1)) + 1)) + 1))) fun v6 =>
        cnd (ile 0 v6) (
         some (.inl (v6,(IntKind.i64.wrap (x4 + 1))))) (
         some (.inr (.inr ())))) (
        some (.inr (.inr ())))) (
       some (.inr (.inr ())))) (
      some (.inr (.inr ())))) (
     some (.inr (.inr ())))) (
    some (.inr (.inr ()))))
noncomputable def laws_heldKeptS_l0_S (a0 : List TKept) : ((Int) × (Int)) → St := fun (x3,x4) => ⟨[(0,AV.fsl (List.map eKept a0)),(1,AV.int .i64 x3),(5,AV.int .i64 x4)],[],0⟩
noncomputable def laws_heldKeptS_l0_X (a0 : List TKept) : (((Int)) ⊕ (Unit)) → Ex × St := fun q => match q with
  | .inl y7 => ((.exit 0),⟨[(1,AV.int .i64 y7)],[],0⟩)
  | .inr _ => (.ret,⟨[(4,AV.int .i64 (-1))],[],0⟩)
noncomputable def laws_heldKeptS (a0 : List TKept) (a1 : Int) : Option ((Int)) :=
  bnd (loopI (laws_heldKeptS_l0 a0) (a1,0)) fun q => match q with
  | .inl y7 =>
   some y7
  | .inr () =>
   some (-1)
noncomputable def laws_heldKeptS_e (q : (List TKept) × (Int)) : List AV × List Ob := ([AV.fsl (List.map eKept q.1),AV.int .i64 q.2],[])
noncomputable def laws_heldKeptS_v (q : (List TKept) × (Int)) (r : (Int)) : AV × List Ob := (AV.int .i64 r,[])
noncomputable def laws_heldKeptS_x : List AV → List Ob → Option (AV × List Ob) := xOf laws_heldKeptS_e (fun q => laws_heldKeptS q.1 q.2) laws_heldKeptS_v
theorem laws_heldKeptS_i : ∀ a b,laws_heldKeptS_e a = laws_heldKeptS_e b → a = b := by rintro ⟨x0,x1⟩ ⟨y0,y1⟩ h; simp [laws_heldKeptS_e] at h; simp [h]
@[simp] theorem laws_heldKeptS_k (z0 : List TKept) (z1 : Int) : laws_heldKeptS_x [AV.fsl (List.map eKept z0),AV.int .i64 z1] [] = mapR (laws_heldKeptS z0 z1) (fun r => (AV.int .i64 r,[])) :=
  xOf_eq laws_heldKeptS_i (z0,z1)
noncomputable def laws_heldCache (a0 : TCache) (a1 : Int) : Option ((Int)) :=
  bnd (laws_heldKeptS a0.list a1) fun v1 =>
  cnd (ile 0 v1) (
   some v1) (
   some (-1))
noncomputable def laws_heldCache_e (q : (TCache) × (Int)) : List AV × List Ob := ([AV.agg [AV.int .i64 q.1.most,AV.fsl (List.map eKept q.1.list)],AV.int .i64 q.2],[])
noncomputable def laws_heldCache_v (q : (TCache) × (Int)) (r : (Int)) : AV × List Ob := (AV.int .i64 r,[])
noncomputable def laws_heldCache_x : List AV → List Ob → Option (AV × List Ob) := xOf laws_heldCache_e (fun q => laws_heldCache q.1 q.2) laws_heldCache_v
theorem laws_heldCache_i : ∀ a b,laws_heldCache_e a = laws_heldCache_e b → a = b := by rintro ⟨⟨x0,x1⟩,x2⟩ ⟨⟨y0,y1⟩,y2⟩ h; simp [laws_heldCache_e] at h; simp [h]
@[simp] theorem laws_heldCache_k (z0 : Int) (z1 : List TKept) (z2 : Int) : laws_heldCache_x [AV.agg [AV.int .i64 z0,AV.fsl (List.map eKept z1)],AV.int .i64 z2] [] = mapR (laws_heldCache ⟨z0,z1⟩ z2) (fun r => (AV.int .i64 r,[])) :=
  xOf_eq laws_heldCache_i (⟨z0,z1⟩,z2)
noncomputable def laws_heldMask (a0 : TMask) (a1 : Int) : Option ((Int)) :=
  bnd (laws_heldIntS a0.bits a1) fun v1 =>
  cnd (ile 0 v1) (
   some v1) (
   some (-1))
noncomputable def laws_heldMask_e (q : (TMask) × (Int)) : List AV × List Ob := ([AV.agg [AV.int .i64 q.1.box.x0,AV.int .i64 q.1.box.y0,AV.int .i64 q.1.box.x1,AV.int .i64 q.1.box.y1,AV.fsl (List.map (AV.int .i64) q.1.bits)],AV.int .i64 q.2],[])
noncomputable def laws_heldMask_v (q : (TMask) × (Int)) (r : (Int)) : AV × List Ob := (AV.int .i64 r,[])
noncomputable def laws_heldMask_x : List AV → List Ob → Option (AV × List Ob) := xOf laws_heldMask_e (fun q => laws_heldMask q.1 q.2) laws_heldMask_v
theorem laws_heldMask_i : ∀ a b,laws_heldMask_e a = laws_heldMask_e b → a = b := by rintro ⟨⟨⟨x0,x1,x2,x3⟩,x4⟩,x5⟩ ⟨⟨⟨y0,y1,y2,y3⟩,y4⟩,y5⟩ h; simp [laws_heldMask_e] at h; simp [h]
@[simp] theorem laws_heldMask_k (z0 : Int) (z1 : Int) (z2 : Int) (z3 : Int) (z4 : List Int) (z5 : Int) : laws_heldMask_x [AV.agg [AV.int .i64 z0,AV.int .i64 z1,AV.int .i64 z2,AV.int .i64 z3,AV.fsl (List.map (AV.int .i64) z4)],AV.int .i64 z5] [] = mapR (laws_heldMask ⟨⟨z0,z1,z2,z3⟩,z4⟩ z5) (fun r => (AV.int .i64 r,[])) :=
  xOf_eq laws_heldMask_i (⟨⟨z0,z1,z2,z3⟩,z4⟩,z5)
noncomputable def laws_FnExactRecall (a0 : TCache) (a1 : Int) : Option ((Bool)) :=
  bnd (laws_szCache a0 1048576) fun v1 =>
  cnd (ile 0 v1) (
   bnd (laws_toCache a0) fun (w3,w4) =>
   bnd (spec_Recall (TCache.mk w3 w4) a1) fun (w6,w7,w8,w9,w10) =>
   bnd (impl_Recall (TCache.mk w3 w4) a1) fun (w12,w13,w14,w15,w16) =>
   bnd (laws_eqCache (TCache.mk w12 w15) (TCache.mk w6 w9)) fun v17 =>
   cnd v17 (
    bnd (laws_eqMask (TMask.mk w13 w16) (TMask.mk w7 w10)) fun v18 =>
    cnd v18 (
     cnd (andB (decide (w14 = w8)) true) (
      bnd (laws_eqCache (TCache.mk w3 w4) (TCache.mk w3 w4)) fun v19 =>
      cnd v19 (
       bnd (laws_markCache w3 1 w4) fun (w21,w22) =>
       cnd (ile 0 w21) (
        bnd (laws_markCache w12 1 w15) fun (w24,w25) =>
        bnd (laws_markMask w13 w24 w16) fun (w27,w28) =>
        bnd (laws_heldCache (TCache.mk w12 w25) 1) fun v29 =>
        cnd (ile 0 v29) (
         bnd (laws_heldMask (TMask.mk w13 w28) v29) fun v30 =>
         cnd (ile 0 v30) (
          cnd (ieq v30 w27) (
           some true) (
           some false)) (
          some false)) (
         some false)) (
        some false)) (
       some false)) (
      some false)) (
     some false)) (
    some false)) (
   some true)
noncomputable def laws_FnExactRecall_e (q : (TCache) × (Int)) : List AV × List Ob := ([AV.agg [AV.int .i64 q.1.most,AV.fsl (List.map eKept q.1.list)],AV.int .i64 q.2],[])
noncomputable def laws_FnExactRecall_v (q : (TCache) × (Int)) (r : (Bool)) : AV × List Ob := (AV.bool r,[])
noncomputable def laws_FnExactRecall_x : List AV → List Ob → Option (AV × List Ob) := xOf laws_FnExactRecall_e (fun q => laws_FnExactRecall q.1 q.2) laws_FnExactRecall_v
theorem laws_FnExactRecall_i : ∀ a b,laws_FnExactRecall_e a = laws_FnExactRecall_e b → a = b := by rintro ⟨⟨x0,x1⟩,x2⟩ ⟨⟨y0,y1⟩,y2⟩ h; simp [laws_FnExactRecall_e] at h; simp [h]
@[simp] theorem laws_FnExactRecall_k (z0 : Int) (z1 : List TKept) (z2 : Int) : laws_FnExactRecall_x [AV.agg [AV.int .i64 z0,AV.fsl (List.map eKept z1)],AV.int .i64 z2] [] = mapR (laws_FnExactRecall ⟨z0,z1⟩ z2) (fun r => (AV.bool r,[])) :=
  xOf_eq laws_FnExactRecall_i (⟨z0,z1⟩,z2)
end Go.Proofs.Ytapchldnmkfkoaa.Am
