import Derived.Test.YtapchldnmkfkoabAmPnTy
set_option linter.unusedVariables false
set_option linter.unusedSimpArgs false
set_option linter.unusedSectionVars false
namespace Go.Proofs.Ytapchldnmkfkoab.Am
open Go Go.Proofs
set_option maxRecDepth 100000
set_option linter.unusedSimpArgs false
set_option linter.unusedVariables false
set_option maxHeartbeats 4000000
noncomputable def laws_szIntS (a0:List Int) (a1:Int):Option ((Int)) :=
  cnd (ile 0 (IntKind.i64.wrap (a1 - (List.length a0:Int)))) (
   some (IntKind.i64.wrap (a1 - (List.length a0:Int)))) (
   some (-1))
noncomputable def laws_szIntS_e (q:(List Int)×(Int)):List AV×List Ob:=([AV.fsl (List.map (AV.int .i64) q.1),AV.int .i64 q.2],[])
noncomputable def laws_szIntS_v (q:(List Int)×(Int)) (r:(Int)):AV×List Ob:=(AV.int .i64 r,[])
noncomputable def laws_szIntS_x:List AV→List Ob→Option (AV×List Ob):=xOf laws_szIntS_e (fun q=>laws_szIntS q.1 q.2) laws_szIntS_v
theorem laws_szIntS_i:∀ a b,laws_szIntS_e a = laws_szIntS_e b→a = b:=by rintro ⟨x0,x1⟩ ⟨y0,y1⟩ h;simp [laws_szIntS_e] at h;simp [h]
@[simp] theorem laws_szIntS_k (z0:List Int) (z1:Int):laws_szIntS_x [AV.fsl (List.map (AV.int .i64) z0),AV.int .i64 z1] [] = mapR (laws_szIntS z0 z1) (fun r=>(AV.int .i64 r,[])) :=
 xOf_eq laws_szIntS_i (z0,z1)
noncomputable def laws_szPointS (a0:List TPoint) (a1:Int):Option ((Int)) :=
  cnd (ile 0 (IntKind.i64.wrap (a1 - (List.length a0:Int)))) (
   some (IntKind.i64.wrap (a1 - (List.length a0:Int)))) (
   some (-1))
noncomputable def laws_szPointS_e (q:(List TPoint)×(Int)):List AV×List Ob:=([AV.fsl (List.map ePoint q.1),AV.int .i64 q.2],[])
noncomputable def laws_szPointS_v (q:(List TPoint)×(Int)) (r:(Int)):AV×List Ob:=(AV.int .i64 r,[])
noncomputable def laws_szPointS_x:List AV→List Ob→Option (AV×List Ob):=xOf laws_szPointS_e (fun q=>laws_szPointS q.1 q.2) laws_szPointS_v
theorem laws_szPointS_i:∀ a b,laws_szPointS_e a = laws_szPointS_e b→a = b:=by rintro ⟨x0,x1⟩ ⟨y0,y1⟩ h;simp [laws_szPointS_e] at h;simp [h]
@[simp] theorem laws_szPointS_k (z0:List TPoint) (z1:Int):laws_szPointS_x [AV.fsl (List.map ePoint z0),AV.int .i64 z1] [] = mapR (laws_szPointS z0 z1) (fun r=>(AV.int .i64 r,[])) :=
 xOf_eq laws_szPointS_i (z0,z1)
noncomputable def laws_szPath (a0:TPath) (a1:Int):Option ((Int)) :=
  bnd (laws_szIntS a0.verbs a1) fun v1 =>
  cnd (ile 0 v1) (
   bnd (laws_szPointS a0.points v1) fun v2 =>
   cnd (ile 0 v2) (
    some v2) (
    some (-1))) (
   some (-1))
noncomputable def laws_szPath_e (q:(TPath)×(Int)):List AV×List Ob:=([AV.agg [AV.fsl (List.map (AV.int .i64) q.1.verbs),AV.fsl (List.map ePoint q.1.points)],AV.int .i64 q.2],[])
noncomputable def laws_szPath_v (q:(TPath)×(Int)) (r:(Int)):AV×List Ob:=(AV.int .i64 r,[])
noncomputable def laws_szPath_x:List AV→List Ob→Option (AV×List Ob):=xOf laws_szPath_e (fun q=>laws_szPath q.1 q.2) laws_szPath_v
theorem laws_szPath_i:∀ a b,laws_szPath_e a = laws_szPath_e b→a = b:=by rintro ⟨⟨x0,x1⟩,x2⟩ ⟨⟨y0,y1⟩,y2⟩ h;simp [laws_szPath_e] at h;simp [h]
@[simp] theorem laws_szPath_k (z0:List Int) (z1:List TPoint) (z2:Int):laws_szPath_x [AV.agg [AV.fsl (List.map (AV.int .i64) z0),AV.fsl (List.map ePoint z1)],AV.int .i64 z2] [] = mapR (laws_szPath ⟨z0,z1⟩ z2) (fun r=>(AV.int .i64 r,[])) :=
 xOf_eq laws_szPath_i (⟨z0,z1⟩,z2)
noncomputable def laws_szNode (a0:TNode) (a1:Int):Option ((Int)) :=
  bnd (laws_szPath a0.path a1) fun v1 =>
  cnd (ile 0 v1) (
   bnd (laws_szIntS a0.dashes v1) fun v2 =>
   cnd (ile 0 v2) (
    bnd (laws_szPath a0.clip v2) fun v3 =>
    cnd (ile 0 v3) (
     some v3) (
     some (-1))) (
    some (-1))) (
   some (-1))
noncomputable def laws_szNode_e (q:(TNode)×(Int)):List AV×List Ob:=([AV.agg [AV.int .i64 q.1.id,AV.int .i64 q.1.parent,AV.bool q.1.group,AV.int .i64 q.1.mat.a,AV.int .i64 q.1.mat.b,AV.int .i64 q.1.mat.c,AV.int .i64 q.1.mat.d,AV.int .i64 q.1.mat.e,AV.int .i64 q.1.mat.f,AV.fsl (List.map (AV.int .i64) q.1.path.verbs),AV.fsl (List.map ePoint q.1.path.points),AV.bool q.1.even,AV.int .i64 q.1.width,AV.fsl (List.map (AV.int .i64) q.1.dashes),AV.int .i64 q.1.paint.kind,AV.int .i64 q.1.paint.first.r,AV.int .i64 q.1.paint.first.g,AV.int .i64 q.1.paint.first.b,AV.int .i64 q.1.paint.first.a,AV.int .i64 q.1.paint.last.r,AV.int .i64 q.1.paint.last.g,AV.int .i64 q.1.paint.last.b,AV.int .i64 q.1.paint.last.a,AV.int .i64 q.1.paint.from_.x,AV.int .i64 q.1.paint.from_.y,AV.int .i64 q.1.paint.to.x,AV.int .i64 q.1.paint.to.y,AV.int .i64 q.1.mode,AV.int .i64 q.1.fade,AV.fsl (List.map (AV.int .i64) q.1.clip.verbs),AV.fsl (List.map ePoint q.1.clip.points)],AV.int .i64 q.2],[])
noncomputable def laws_szNode_v (q:(TNode)×(Int)) (r:(Int)):AV×List Ob:=(AV.int .i64 r,[])
noncomputable def laws_szNode_x:List AV→List Ob→Option (AV×List Ob):=xOf laws_szNode_e (fun q=>laws_szNode q.1 q.2) laws_szNode_v
theorem laws_szNode_i:∀ a b,laws_szNode_e a = laws_szNode_e b→a = b:=by rintro ⟨⟨x0,x1,x2,⟨x3,x4,x5,x6,x7,x8⟩,⟨x9,x10⟩,x11,x12,x13,⟨x14,⟨x15,x16,x17,x18⟩,⟨x19,x20,x21,x22⟩,⟨x23,x24⟩,⟨x25,x26⟩⟩,x27,x28,⟨x29,x30⟩⟩,x31⟩ ⟨⟨y0,y1,y2,⟨y3,y4,y5,y6,y7,y8⟩,⟨y9,y10⟩,y11,y12,y13,⟨y14,⟨y15,y16,y17,y18⟩,⟨y19,y20,y21,y22⟩,⟨y23,y24⟩,⟨y25,y26⟩⟩,y27,y28,⟨y29,y30⟩⟩,y31⟩ h;simp [laws_szNode_e] at h;simp [h]
@[simp] theorem laws_szNode_k (z0:Int) (z1:Int) (z2:Bool) (z3:Int) (z4:Int) (z5:Int) (z6:Int) (z7:Int) (z8:Int) (z9:List Int) (z10:List TPoint) (z11:Bool) (z12:Int) (z13:List Int) (z14:Int) (z15:Int) (z16:Int) (z17:Int) (z18:Int) (z19:Int) (z20:Int) (z21:Int) (z22:Int) (z23:Int) (z24:Int) (z25:Int) (z26:Int) (z27:Int) (z28:Int) (z29:List Int) (z30:List TPoint) (z31:Int):laws_szNode_x [AV.agg [AV.int .i64 z0,AV.int .i64 z1,AV.bool z2,AV.int .i64 z3,AV.int .i64 z4,AV.int .i64 z5,AV.int .i64 z6,AV.int .i64 z7,AV.int .i64 z8,AV.fsl (List.map (AV.int .i64) z9),AV.fsl (List.map ePoint z10),AV.bool z11,AV.int .i64 z12,AV.fsl (List.map (AV.int .i64) z13),AV.int .i64 z14,AV.int .i64 z15,AV.int .i64 z16,AV.int .i64 z17,AV.int .i64 z18,AV.int .i64 z19,AV.int .i64 z20,AV.int .i64 z21,AV.int .i64 z22,AV.int .i64 z23,AV.int .i64 z24,AV.int .i64 z25,AV.int .i64 z26,AV.int .i64 z27,AV.int .i64 z28,AV.fsl (List.map (AV.int .i64) z29),AV.fsl (List.map ePoint z30)],AV.int .i64 z31] [] = mapR (laws_szNode ⟨z0,z1,z2,⟨z3,z4,z5,z6,z7,z8⟩,⟨z9,z10⟩,z11,z12,z13,⟨z14,⟨z15,z16,z17,z18⟩,⟨z19,z20,z21,z22⟩,⟨z23,z24⟩,⟨z25,z26⟩⟩,z27,z28,⟨z29,z30⟩⟩ z31) (fun r=>(AV.int .i64 r,[])) :=
 xOf_eq laws_szNode_i (⟨z0,z1,z2,⟨z3,z4,z5,z6,z7,z8⟩,⟨z9,z10⟩,z11,z12,z13,⟨z14,⟨z15,z16,z17,z18⟩,⟨z19,z20,z21,z22⟩,⟨z23,z24⟩,⟨z25,z26⟩⟩,z27,z28,⟨z29,z30⟩⟩,z31)
noncomputable def laws_szNodeS_l0 (a0:List TNode):((Int)×(Int))→Option (((Int)×(Int)) ⊕ (((Int)) ⊕ (Unit))):=fun (x3,x4) =>
  cnd (ile (List.length a0:Int) x4) (
   some (.inr (.inl x3))) (
   bnd (idx a0 x4) fun v5 =>
   bnd (laws_szNode v5 x3) fun v6 =>
   cnd (ile 0 v6) (
    some (.inl (v6,(IntKind.i64.wrap (x4 + 1))))) (
    some (.inr (.inr ()))))
noncomputable def laws_szNodeS_l0_S (a0:List TNode):((Int)×(Int))→St:=fun (x3,x4)=>⟨[(0,AV.fsl (List.map eNode a0)),(1,AV.int .i64 x3),(5,AV.int .i64 x4)],[],0⟩
noncomputable def laws_szNodeS_l0_X (a0:List TNode):(((Int)) ⊕ (Unit))→Ex×St:=fun q=>match q with
 | .inl y7=>((.exit 0),⟨[(1,AV.int .i64 y7)],[],0⟩)
 | .inr _=>(.ret,⟨[(4,AV.int .i64 (-1))],[],0⟩)
noncomputable def laws_szNodeS (a0:List TNode) (a1:Int):Option ((Int)) :=
  cnd (ile 0 (IntKind.i64.wrap (a1 - (List.length a0:Int)))) (
   bnd (loopI (laws_szNodeS_l0 a0) ((IntKind.i64.wrap (a1 - (List.length a0:Int))),0)) fun q=>match q with
   | .inl y7 =>
    some y7
   | .inr () =>
    some (-1)) (
   some (-1))
noncomputable def laws_szNodeS_e (q:(List TNode)×(Int)):List AV×List Ob:=([AV.fsl (List.map eNode q.1),AV.int .i64 q.2],[])
noncomputable def laws_szNodeS_v (q:(List TNode)×(Int)) (r:(Int)):AV×List Ob:=(AV.int .i64 r,[])
noncomputable def laws_szNodeS_x:List AV→List Ob→Option (AV×List Ob):=xOf laws_szNodeS_e (fun q=>laws_szNodeS q.1 q.2) laws_szNodeS_v
theorem laws_szNodeS_i:∀ a b,laws_szNodeS_e a = laws_szNodeS_e b→a = b:=by rintro ⟨x0,x1⟩ ⟨y0,y1⟩ h;simp [laws_szNodeS_e] at h;simp [h]
@[simp] theorem laws_szNodeS_k (z0:List TNode) (z1:Int):laws_szNodeS_x [AV.fsl (List.map eNode z0),AV.int .i64 z1] [] = mapR (laws_szNodeS z0 z1) (fun r=>(AV.int .i64 r,[])) :=
 xOf_eq laws_szNodeS_i (z0,z1)
noncomputable def laws_szScene (a0:TScene) (a1:Int):Option ((Int)) :=
  bnd (laws_szNodeS a0.nodes a1) fun v1 =>
  cnd (ile 0 v1) (
   some v1) (
   some (-1))
noncomputable def laws_szScene_e (q:(TScene)×(Int)):List AV×List Ob:=([AV.agg [AV.fsl (List.map eNode q.1.nodes)],AV.int .i64 q.2],[])
noncomputable def laws_szScene_v (q:(TScene)×(Int)) (r:(Int)):AV×List Ob:=(AV.int .i64 r,[])
noncomputable def laws_szScene_x:List AV→List Ob→Option (AV×List Ob):=xOf laws_szScene_e (fun q=>laws_szScene q.1 q.2) laws_szScene_v
theorem laws_szScene_i:∀ a b,laws_szScene_e a = laws_szScene_e b→a = b:=by rintro ⟨⟨x0⟩,x1⟩ ⟨⟨y0⟩,y1⟩ h;simp [laws_szScene_e] at h;simp [h]
@[simp] theorem laws_szScene_k (z0:List TNode) (z1:Int):laws_szScene_x [AV.agg [AV.fsl (List.map eNode z0)],AV.int .i64 z1] [] = mapR (laws_szScene ⟨z0⟩ z1) (fun r=>(AV.int .i64 r,[])) :=
 xOf_eq laws_szScene_i (⟨z0⟩,z1)
noncomputable def laws_toMat (a0:TMat):Option ((TMat)) :=
 some a0
noncomputable def laws_toMat_e (q:(TMat)):List AV×List Ob:=([AV.agg [AV.int .i64 q.a,AV.int .i64 q.b,AV.int .i64 q.c,AV.int .i64 q.d,AV.int .i64 q.e,AV.int .i64 q.f]],[])
noncomputable def laws_toMat_v (q:(TMat)) (r:(TMat)):AV×List Ob:=(AV.agg [AV.int .i64 r.a,AV.int .i64 r.b,AV.int .i64 r.c,AV.int .i64 r.d,AV.int .i64 r.e,AV.int .i64 r.f],[])
noncomputable def laws_toMat_x:List AV→List Ob→Option (AV×List Ob):=xOf laws_toMat_e (fun q=>laws_toMat q) laws_toMat_v
theorem laws_toMat_i:∀ a b,laws_toMat_e a = laws_toMat_e b→a = b:=by rintro ⟨x0,x1,x2,x3,x4,x5⟩ ⟨y0,y1,y2,y3,y4,y5⟩ h;simp [laws_toMat_e] at h;simp [h]
@[simp] theorem laws_toMat_k (z0:Int) (z1:Int) (z2:Int) (z3:Int) (z4:Int) (z5:Int):laws_toMat_x [AV.agg [AV.int .i64 z0,AV.int .i64 z1,AV.int .i64 z2,AV.int .i64 z3,AV.int .i64 z4,AV.int .i64 z5]] [] = mapR (laws_toMat ⟨z0,z1,z2,z3,z4,z5⟩) (fun r=>(AV.agg [AV.int .i64 r.a,AV.int .i64 r.b,AV.int .i64 r.c,AV.int .i64 r.d,AV.int .i64 r.e,AV.int .i64 r.f],[])) :=
 xOf_eq laws_toMat_i ⟨z0,z1,z2,z3,z4,z5⟩
noncomputable def laws_toIntS_l0 (a0:List Int):((Int)×(List Int))→Option (((Int)×(List Int)) ⊕ ((List Int))):=fun (x5,x6) =>
  cnd (ile (List.length a0:Int) x5) (
   some (.inr x6)) (
   bnd (idx a0 x5) fun v7 =>
   bnd (idx x6 x5) fun v8 =>
   nam ((List.set x6 (Int.toNat x5) v7):List Int) fun l9 =>
   some (.inl ((IntKind.i64.wrap (x5 + 1)),l9)))
noncomputable def laws_toIntS_l0_S (a0:List Int):((Int)×(List Int))→St:=fun (x5,x6)=>⟨[(0,AV.fsl (List.map (AV.int .i64) a0)),(3,AV.osl 0 0 (List.length x6) (List.length x6)),(4,AV.int .i64 x5)],[(0,Ob.arr 1 (List.map (AV.int .i64) x6) false)],1⟩
noncomputable def laws_toIntS_l0_X (a0:List Int):((List Int))→Ex×St:=fun y10=>((.exit 0),⟨[(3,AV.osl 0 0 (List.length y10) (List.length y10))],[(0,Ob.arr 1 (List.map (AV.int .i64) y10) false)],1⟩)
noncomputable def laws_toIntS (a0:List Int):Option ((List Int)) :=
 chkP (0 ≤ (List.length a0:Int)∧(List.length a0:Int) ≤ (List.length a0:Int)∧(List.length a0:Int) ≤ 17592186044416∧(List.length a0:Int) * 8 ≤ 17592186044416) (
 nam ((List.replicate (Int.toNat (List.length a0:Int)) 0):List Int) fun l1 =>
 bnd (loopI (laws_toIntS_l0 a0) (0,l1)) fun y10 =>
 some y10)
noncomputable def laws_toIntS_e (q:(List Int)):List AV×List Ob:=([AV.fsl (List.map (AV.int .i64) q)],[])
noncomputable def laws_toIntS_v (q:(List Int)) (r:(List Int)):AV×List Ob:=(AV.osl 0 0 (List.length r) (List.length r),[Ob.arr 1 (List.map (AV.int .i64) r) false])
noncomputable def laws_toIntS_x:List AV→List Ob→Option (AV×List Ob):=xOf laws_toIntS_e (fun q=>laws_toIntS q) laws_toIntS_v
theorem laws_toIntS_i:∀ a b,laws_toIntS_e a = laws_toIntS_e b→a = b:=by rintro x0 y0 h;simp [laws_toIntS_e] at h;simp [h]
@[simp] theorem laws_toIntS_k (z0:List Int):laws_toIntS_x [AV.fsl (List.map (AV.int .i64) z0)] [] = mapR (laws_toIntS z0) (fun r=>(AV.osl 0 0 (List.length r) (List.length r),[Ob.arr 1 (List.map (AV.int .i64) r) false])) :=
 xOf_eq laws_toIntS_i z0
noncomputable def laws_toPoint (a0:TPoint):Option ((TPoint)) :=
 some a0
noncomputable def laws_toPoint_e (q:(TPoint)):List AV×List Ob:=([AV.agg [AV.int .i64 q.x,AV.int .i64 q.y]],[])
noncomputable def laws_toPoint_v (q:(TPoint)) (r:(TPoint)):AV×List Ob:=(AV.agg [AV.int .i64 r.x,AV.int .i64 r.y],[])
noncomputable def laws_toPoint_x:List AV→List Ob→Option (AV×List Ob):=xOf laws_toPoint_e (fun q=>laws_toPoint q) laws_toPoint_v
theorem laws_toPoint_i:∀ a b,laws_toPoint_e a = laws_toPoint_e b→a = b:=by rintro ⟨x0,x1⟩ ⟨y0,y1⟩ h;simp [laws_toPoint_e] at h;simp [h]
@[simp] theorem laws_toPoint_k (z0:Int) (z1:Int):laws_toPoint_x [AV.agg [AV.int .i64 z0,AV.int .i64 z1]] [] = mapR (laws_toPoint ⟨z0,z1⟩) (fun r=>(AV.agg [AV.int .i64 r.x,AV.int .i64 r.y],[])) :=
 xOf_eq laws_toPoint_i ⟨z0,z1⟩
noncomputable def laws_toPointS_l0 (a0:List TPoint):((Int)×(List TPoint))→Option (((Int)×(List TPoint)) ⊕ ((List TPoint))):=fun (x6,x7) =>
  cnd (ile (List.length a0:Int) x6) (
   some (.inr x7)) (
   bnd (idx a0 x6) fun v8 =>
   bnd (laws_toPoint v8) fun v9 =>
   bnd (idx x7 x6) fun v10 =>
   nam ((List.set x7 (Int.toNat x6) v9):List TPoint) fun l11 =>
   some (.inl ((IntKind.i64.wrap (x6 + 1)),l11)))
noncomputable def laws_toPointS_l0_S (a0:List TPoint):((Int)×(List TPoint))→St:=fun (x6,x7)=>⟨[(0,AV.fsl (List.map ePoint a0)),(3,AV.osl 0 0 (List.length x7) (List.length x7)),(4,AV.int .i64 x6)],[(0,Ob.arr 2 (List.map ePoint x7) false)],1⟩
noncomputable def laws_toPointS_l0_X (a0:List TPoint):((List TPoint))→Ex×St:=fun y12=>((.exit 0),⟨[(3,AV.osl 0 0 (List.length y12) (List.length y12))],[(0,Ob.arr 2 (List.map ePoint y12) false)],1⟩)
noncomputable def laws_toPointS (a0:List TPoint):Option ((List TPoint)) :=
 chkP (0 ≤ (List.length a0:Int)∧(List.length a0:Int) ≤ (List.length a0:Int)∧(List.length a0:Int) ≤ 17592186044416∧(List.length a0:Int) * 16 ≤ 17592186044416) (
 nam ((List.replicate (Int.toNat (List.length a0:Int)) (TPoint.mk 0 0)):List TPoint) fun l1 =>
 bnd (loopI (laws_toPointS_l0 a0) (0,l1)) fun y12 =>
 some y12)
noncomputable def laws_toPointS_e (q:(List TPoint)):List AV×List Ob:=([AV.fsl (List.map ePoint q)],[])
noncomputable def laws_toPointS_v (q:(List TPoint)) (r:(List TPoint)):AV×List Ob:=(AV.osl 0 0 (List.length r) (List.length r),[Ob.arr 2 (List.map ePoint r) false])
noncomputable def laws_toPointS_x:List AV→List Ob→Option (AV×List Ob):=xOf laws_toPointS_e (fun q=>laws_toPointS q) laws_toPointS_v
theorem laws_toPointS_i:∀ a b,laws_toPointS_e a = laws_toPointS_e b→a = b:=by rintro x0 y0 h;simp [laws_toPointS_e] at h;simp [h]
@[simp] theorem laws_toPointS_k (z0:List TPoint):laws_toPointS_x [AV.fsl (List.map ePoint z0)] [] = mapR (laws_toPointS z0) (fun r=>(AV.osl 0 0 (List.length r) (List.length r),[Ob.arr 2 (List.map ePoint r) false])) :=
 xOf_eq laws_toPointS_i z0
noncomputable def laws_toPath (a0:TPath):Option ((List Int)×(List TPoint)) :=
 bnd (laws_toIntS a0.verbs) fun v1 =>
 bnd (laws_toPointS a0.points) fun v2 =>
 some (v1,v2)
noncomputable def laws_toPath_e (q:(TPath)):List AV×List Ob:=([AV.agg [AV.fsl (List.map (AV.int .i64) q.verbs),AV.fsl (List.map ePoint q.points)]],[])
noncomputable def laws_toPath_v (q:(TPath)) (r:(List Int)×(List TPoint)):AV×List Ob:=(AV.agg [AV.osl 0 0 (List.length r.1) (List.length r.1),AV.osl 1 0 (List.length r.2) (List.length r.2)],[Ob.arr 1 (List.map (AV.int .i64) r.1) false,Ob.arr 2 (List.map ePoint r.2) false])
noncomputable def laws_toPath_x:List AV→List Ob→Option (AV×List Ob):=xOf laws_toPath_e (fun q=>laws_toPath q) laws_toPath_v
theorem laws_toPath_i:∀ a b,laws_toPath_e a = laws_toPath_e b→a = b:=by rintro ⟨x0,x1⟩ ⟨y0,y1⟩ h;simp [laws_toPath_e] at h;simp [h]
@[simp] theorem laws_toPath_k (z0:List Int) (z1:List TPoint):laws_toPath_x [AV.agg [AV.fsl (List.map (AV.int .i64) z0),AV.fsl (List.map ePoint z1)]] [] = mapR (laws_toPath ⟨z0,z1⟩) (fun r=>(AV.agg [AV.osl 0 0 (List.length r.1) (List.length r.1),AV.osl 1 0 (List.length r.2) (List.length r.2)],[Ob.arr 1 (List.map (AV.int .i64) r.1) false,Ob.arr 2 (List.map ePoint r.2) false])) :=
 xOf_eq laws_toPath_i ⟨z0,z1⟩
noncomputable def laws_toColor (a0:TColor):Option ((TColor)) :=
 some a0
noncomputable def laws_toColor_e (q:(TColor)):List AV×List Ob:=([AV.agg [AV.int .i64 q.r,AV.int .i64 q.g,AV.int .i64 q.b,AV.int .i64 q.a]],[])
noncomputable def laws_toColor_v (q:(TColor)) (r:(TColor)):AV×List Ob:=(AV.agg [AV.int .i64 r.r,AV.int .i64 r.g,AV.int .i64 r.b,AV.int .i64 r.a],[])
noncomputable def laws_toColor_x:List AV→List Ob→Option (AV×List Ob):=xOf laws_toColor_e (fun q=>laws_toColor q) laws_toColor_v
theorem laws_toColor_i:∀ a b,laws_toColor_e a = laws_toColor_e b→a = b:=by rintro ⟨x0,x1,x2,x3⟩ ⟨y0,y1,y2,y3⟩ h;simp [laws_toColor_e] at h;simp [h]
@[simp] theorem laws_toColor_k (z0:Int) (z1:Int) (z2:Int) (z3:Int):laws_toColor_x [AV.agg [AV.int .i64 z0,AV.int .i64 z1,AV.int .i64 z2,AV.int .i64 z3]] [] = mapR (laws_toColor ⟨z0,z1,z2,z3⟩) (fun r=>(AV.agg [AV.int .i64 r.r,AV.int .i64 r.g,AV.int .i64 r.b,AV.int .i64 r.a],[])) :=
 xOf_eq laws_toColor_i ⟨z0,z1,z2,z3⟩
noncomputable def laws_toPaint (a0:TPaint):Option ((TPaint)) :=
 bnd (laws_toColor a0.first) fun v1 =>
 bnd (laws_toColor a0.last) fun v2 =>
 bnd (laws_toPoint a0.from_) fun v3 =>
 bnd (laws_toPoint a0.to) fun v4 =>
 some (TPaint.mk a0.kind v1 v2 v3 v4)
noncomputable def laws_toPaint_e (q:(TPaint)):List AV×List Ob:=([AV.agg [AV.int .i64 q.kind,AV.int .i64 q.first.r,AV.int .i64 q.first.g,AV.int .i64 q.first.b,AV.int .i64 q.first.a,AV.int .i64 q.last.r,AV.int .i64 q.last.g,AV.int .i64 q.last.b,AV.int .i64 q.last.a,AV.int .i64 q.from_.x,AV.int .i64 q.from_.y,AV.int .i64 q.to.x,AV.int .i64 q.to.y]],[])
noncomputable def laws_toPaint_v (q:(TPaint)) (r:(TPaint)):AV×List Ob:=(AV.agg [AV.int .i64 r.kind,AV.int .i64 r.first.r,AV.int .i64 r.first.g,AV.int .i64 r.first.b,AV.int .i64 r.first.a,AV.int .i64 r.last.r,AV.int .i64 r.last.g,AV.int .i64 r.last.b,AV.int .i64 r.last.a,AV.int .i64 r.from_.x,AV.int .i64 r.from_.y,AV.int .i64 r.to.x,AV.int .i64 r.to.y],[])
noncomputable def laws_toPaint_x:List AV→List Ob→Option (AV×List Ob):=xOf laws_toPaint_e (fun q=>laws_toPaint q) laws_toPaint_v
theorem laws_toPaint_i:∀ a b,laws_toPaint_e a = laws_toPaint_e b→a = b:=by rintro ⟨x0,⟨x1,x2,x3,x4⟩,⟨x5,x6,x7,x8⟩,⟨x9,x10⟩,⟨x11,x12⟩⟩ ⟨y0,⟨y1,y2,y3,y4⟩,⟨y5,y6,y7,y8⟩,⟨y9,y10⟩,⟨y11,y12⟩⟩ h;simp [laws_toPaint_e] at h;simp [h]
@[simp] theorem laws_toPaint_k (z0:Int) (z1:Int) (z2:Int) (z3:Int) (z4:Int) (z5:Int) (z6:Int) (z7:Int) (z8:Int) (z9:Int) (z10:Int) (z11:Int) (z12:Int):laws_toPaint_x [AV.agg [AV.int .i64 z0,AV.int .i64 z1,AV.int .i64 z2,AV.int .i64 z3,AV.int .i64 z4,AV.int .i64 z5,AV.int .i64 z6,AV.int .i64 z7,AV.int .i64 z8,AV.int .i64 z9,AV.int .i64 z10,AV.int .i64 z11,AV.int .i64 z12]] [] = mapR (laws_toPaint ⟨z0,⟨z1,z2,z3,z4⟩,⟨z5,z6,z7,z8⟩,⟨z9,z10⟩,⟨z11,z12⟩⟩) (fun r=>(AV.agg [AV.int .i64 r.kind,AV.int .i64 r.first.r,AV.int .i64 r.first.g,AV.int .i64 r.first.b,AV.int .i64 r.first.a,AV.int .i64 r.last.r,AV.int .i64 r.last.g,AV.int .i64 r.last.b,AV.int .i64 r.last.a,AV.int .i64 r.from_.x,AV.int .i64 r.from_.y,AV.int .i64 r.to.x,AV.int .i64 r.to.y],[])) :=
 xOf_eq laws_toPaint_i ⟨z0,⟨z1,z2,z3,z4⟩,⟨z5,z6,z7,z8⟩,⟨z9,z10⟩,⟨z11,z12⟩⟩
noncomputable def laws_toNode (a0:TNode):Option ((Int)×(Int)×(Bool)×(TMat)×(Bool)×(Int)×(TPaint)×(Int)×(Int)×(List Int)×(List TPoint)×(List Int)×(List Int)×(List TPoint)) :=
 bnd (laws_toMat a0.mat) fun v1 =>
 bnd (laws_toPath a0.path) fun (w3,w4) =>
 bnd (laws_toIntS a0.dashes) fun v5 =>
 bnd (laws_toPaint a0.paint) fun v6 =>
 bnd (laws_toPath a0.clip) fun (w8,w9) =>
 some (a0.id,a0.parent,a0.group,v1,a0.even,a0.width,v6,a0.mode,a0.fade,w3,w4,v5,w8,w9)
noncomputable def laws_toNode_e (q:(TNode)):List AV×List Ob:=([AV.agg [AV.int .i64 q.id,AV.int .i64 q.parent,AV.bool q.group,AV.int .i64 q.mat.a,AV.int .i64 q.mat.b,AV.int .i64 q.mat.c,AV.int .i64 q.mat.d,AV.int .i64 q.mat.e,AV.int .i64 q.mat.f,AV.fsl (List.map (AV.int .i64) q.path.verbs),AV.fsl (List.map ePoint q.path.points),AV.bool q.even,AV.int .i64 q.width,AV.fsl (List.map (AV.int .i64) q.dashes),AV.int .i64 q.paint.kind,AV.int .i64 q.paint.first.r,AV.int .i64 q.paint.first.g,AV.int .i64 q.paint.first.b,AV.int .i64 q.paint.first.a,AV.int .i64 q.paint.last.r,AV.int .i64 q.paint.last.g,AV.int .i64 q.paint.last.b,AV.int .i64 q.paint.last.a,AV.int .i64 q.paint.from_.x,AV.int .i64 q.paint.from_.y,AV.int .i64 q.paint.to.x,AV.int .i64 q.paint.to.y,AV.int .i64 q.mode,AV.int .i64 q.fade,AV.fsl (List.map (AV.int .i64) q.clip.verbs),AV.fsl (List.map ePoint q.clip.points)]],[])
noncomputable def laws_toNode_v (q:(TNode)) (r:(Int)×(Int)×(Bool)×(TMat)×(Bool)×(Int)×(TPaint)×(Int)×(Int)×(List Int)×(List TPoint)×(List Int)×(List Int)×(List TPoint)):AV×List Ob:=(AV.agg [AV.int .i64 r.1,AV.int .i64 r.2.1,AV.bool r.2.2.1,AV.int .i64 r.2.2.2.1.a,AV.int .i64 r.2.2.2.1.b,AV.int .i64 r.2.2.2.1.c,AV.int .i64 r.2.2.2.1.d,AV.int .i64 r.2.2.2.1.e,AV.int .i64 r.2.2.2.1.f,AV.osl 0 0 (List.length r.2.2.2.2.2.2.2.2.2.1) (List.length r.2.2.2.2.2.2.2.2.2.1),AV.osl 1 0 (List.length r.2.2.2.2.2.2.2.2.2.2.1) (List.length r.2.2.2.2.2.2.2.2.2.2.1),AV.bool r.2.2.2.2.1,AV.int .i64 r.2.2.2.2.2.1,AV.osl 2 0 (List.length r.2.2.2.2.2.2.2.2.2.2.2.1) (List.length r.2.2.2.2.2.2.2.2.2.2.2.1),AV.int .i64 r.2.2.2.2.2.2.1.kind,AV.int .i64 r.2.2.2.2.2.2.1.first.r,AV.int .i64 r.2.2.2.2.2.2.1.first.g,AV.int .i64 r.2.2.2.2.2.2.1.first.b,AV.int .i64 r.2.2.2.2.2.2.1.first.a,AV.int .i64 r.2.2.2.2.2.2.1.last.r,AV.int .i64 r.2.2.2.2.2.2.1.last.g,AV.int .i64 r.2.2.2.2.2.2.1.last.b,AV.int .i64 r.2.2.2.2.2.2.1.last.a,AV.int .i64 r.2.2.2.2.2.2.1.from_.x,AV.int .i64 r.2.2.2.2.2.2.1.from_.y,AV.int .i64 r.2.2.2.2.2.2.1.to.x,AV.int .i64 r.2.2.2.2.2.2.1.to.y,AV.int .i64 r.2.2.2.2.2.2.2.1,AV.int .i64 r.2.2.2.2.2.2.2.2.1,AV.osl 3 0 (List.length r.2.2.2.2.2.2.2.2.2.2.2.2.1) (List.length r.2.2.2.2.2.2.2.2.2.2.2.2.1),AV.osl 4 0 (List.length r.2.2.2.2.2.2.2.2.2.2.2.2.2) (List.length r.2.2.2.2.2.2.2.2.2.2.2.2.2)],[Ob.arr 1 (List.map (AV.int .i64) r.2.2.2.2.2.2.2.2.2.1) false,Ob.arr 2 (List.map ePoint r.2.2.2.2.2.2.2.2.2.2.1) false,Ob.arr 1 (List.map (AV.int .i64) r.2.2.2.2.2.2.2.2.2.2.2.1) false,Ob.arr 1 (List.map (AV.int .i64) r.2.2.2.2.2.2.2.2.2.2.2.2.1) false,Ob.arr 2 (List.map ePoint r.2.2.2.2.2.2.2.2.2.2.2.2.2) false])
noncomputable def laws_toNode_x:List AV→List Ob→Option (AV×List Ob):=xOf laws_toNode_e (fun q=>laws_toNode q) laws_toNode_v
theorem laws_toNode_i:∀ a b,laws_toNode_e a = laws_toNode_e b→a = b:=by rintro ⟨x0,x1,x2,⟨x3,x4,x5,x6,x7,x8⟩,⟨x9,x10⟩,x11,x12,x13,⟨x14,⟨x15,x16,x17,x18⟩,⟨x19,x20,x21,x22⟩,⟨x23,x24⟩,⟨x25,x26⟩⟩,x27,x28,⟨x29,x30⟩⟩ ⟨y0,y1,y2,⟨y3,y4,y5,y6,y7,y8⟩,⟨y9,y10⟩,y11,y12,y13,⟨y14,⟨y15,y16,y17,y18⟩,⟨y19,y20,y21,y22⟩,⟨y23,y24⟩,⟨y25,y26⟩⟩,y27,y28,⟨y29,y30⟩⟩ h;simp [laws_toNode_e] at h;simp [h]
@[simp] theorem laws_toNode_k (z0:Int) (z1:Int) (z2:Bool) (z3:Int) (z4:Int) (z5:Int) (z6:Int) (z7:Int) (z8:Int) (z9:List Int) (z10:List TPoint) (z11:Bool) (z12:Int) (z13:List Int) (z14:Int) (z15:Int) (z16:Int) (z17:Int) (z18:Int) (z19:Int) (z20:Int) (z21:Int) (z22:Int) (z23:Int) (z24:Int) (z25:Int) (z26:Int) (z27:Int) (z28:Int) (z29:List Int) (z30:List TPoint):laws_toNode_x [AV.agg [AV.int .i64 z0,AV.int .i64 z1,AV.bool z2,AV.int .i64 z3,AV.int .i64 z4,AV.int .i64 z5,AV.int .i64 z6,AV.int .i64 z7,AV.int .i64 z8,AV.fsl (List.map (AV.int .i64) z9),AV.fsl (List.map ePoint z10),AV.bool z11,AV.int .i64 z12,AV.fsl (List.map (AV.int .i64) z13),AV.int .i64 z14,AV.int .i64 z15,AV.int .i64 z16,AV.int .i64 z17,AV.int .i64 z18,AV.int .i64 z19,AV.int .i64 z20,AV.int .i64 z21,AV.int .i64 z22,AV.int .i64 z23,AV.int .i64 z24,AV.int .i64 z25,AV.int .i64 z26,AV.int .i64 z27,AV.int .i64 z28,AV.fsl (List.map (AV.int .i64) z29),AV.fsl (List.map ePoint z30)]] [] = mapR (laws_toNode ⟨z0,z1,z2,⟨z3,z4,z5,z6,z7,z8⟩,⟨z9,z10⟩,z11,z12,z13,⟨z14,⟨z15,z16,z17,z18⟩,⟨z19,z20,z21,z22⟩,⟨z23,z24⟩,⟨z25,z26⟩⟩,z27,z28,⟨z29,z30⟩⟩) (fun r=>(AV.agg [AV.int .i64 r.1,AV.int .i64 r.2.1,AV.bool r.2.2.1,AV.int .i64 r.2.2.2.1.a,AV.int .i64 r.2.2.2.1.b,AV.int .i64 r.2.2.2.1.c,AV.int .i64 r.2.2.2.1.d,AV.int .i64 r.2.2.2.1.e,AV.int .i64 r.2.2.2.1.f,AV.osl 0 0 (List.length r.2.2.2.2.2.2.2.2.2.1) (List.length r.2.2.2.2.2.2.2.2.2.1),AV.osl 1 0 (List.length r.2.2.2.2.2.2.2.2.2.2.1) (List.length r.2.2.2.2.2.2.2.2.2.2.1),AV.bool r.2.2.2.2.1,AV.int .i64 r.2.2.2.2.2.1,AV.osl 2 0 (List.length r.2.2.2.2.2.2.2.2.2.2.2.1) (List.length r.2.2.2.2.2.2.2.2.2.2.2.1),AV.int .i64 r.2.2.2.2.2.2.1.kind,AV.int .i64 r.2.2.2.2.2.2.1.first.r,AV.int .i64 r.2.2.2.2.2.2.1.first.g,AV.int .i64 r.2.2.2.2.2.2.1.first.b,AV.int .i64 r.2.2.2.2.2.2.1.first.a,AV.int .i64 r.2.2.2.2.2.2.1.last.r,AV.int .i64 r.2.2.2.2.2.2.1.last.g,AV.int .i64 r.2.2.2.2.2.2.1.last.b,AV.int .i64 r.2.2.2.2.2.2.1.last.a,AV.int .i64 r.2.2.2.2.2.2.1.from_.x,AV.int .i64 r.2.2.2.2.2.2.1.from_.y,AV.int .i64 r.2.2.2.2.2.2.1.to.x,AV.int .i64 r.2.2.2.2.2.2.1.to.y,AV.int .i64 r.2.2.2.2.2.2.2.1,AV.int .i64 r.2.2.2.2.2.2.2.2.1,AV.osl 3 0 (List.length r.2.2.2.2.2.2.2.2.2.2.2.2.1) (List.length r.2.2.2.2.2.2.2.2.2.2.2.2.1),AV.osl 4 0 (List.length r.2.2.2.2.2.2.2.2.2.2.2.2.2) (List.length r.2.2.2.2.2.2.2.2.2.2.2.2.2)],[Ob.arr 1 (List.map (AV.int .i64) r.2.2.2.2.2.2.2.2.2.1) false,Ob.arr 2 (List.map ePoint r.2.2.2.2.2.2.2.2.2.2.1) false,Ob.arr 1 (List.map (AV.int .i64) r.2.2.2.2.2.2.2.2.2.2.2.1) false,Ob.arr 1 (List.map (AV.int .i64) r.2.2.2.2.2.2.2.2.2.2.2.2.1) false,Ob.arr 2 (List.map ePoint r.2.2.2.2.2.2.2.2.2.2.2.2.2) false])) :=
 xOf_eq laws_toNode_i ⟨z0,z1,z2,⟨z3,z4,z5,z6,z7,z8⟩,⟨z9,z10⟩,z11,z12,z13,⟨z14,⟨z15,z16,z17,z18⟩,⟨z19,z20,z21,z22⟩,⟨z23,z24⟩,⟨z25,z26⟩⟩,z27,z28,⟨z29,z30⟩⟩
noncomputable def laws_toNodeS_l0 (a0:List TNode):((Int)×(List TNode))→Option (((Int)×(List TNode)) ⊕ ((List TNode))):=fun (x19,x20) =>
  cnd (ile (List.length a0:Int) x19) (
   some (.inr x20)) (
   bnd (idx a0 x19) fun v21 =>
   bnd (laws_toNode v21) fun (w23,w24,w25,w26,w27,w28,w29,w30,w31,w32,w33,w34,w35,w36) =>
   bnd (idx x20 x19) fun v37 =>
   some (.inl ((IntKind.i64.wrap (x19 + 1)),(List.set x20 (Int.toNat x19) (TNode.mk w23 w24 w25 w26 (TPath.mk w32 w33) w27 w28 w34 w29 w30 w31 (TPath.mk w35 w36))))))
noncomputable def laws_toNodeS_l0_S (a0:List TNode):((Int)×(List TNode))→St:=fun (x19,x20)=>⟨[(0,AV.fsl (List.map eNode a0)),(3,AV.osl 0 0 (List.length x20) (List.length x20)),(4,AV.int .i64 x19)],[(0,Ob.nar 31 (List.map eNode x20) [0,0,0,0,0,0,0,0,0,1,2,0,0,1,0,0,0,0,0,0,0,0,0,0,0,0,0,0,0,1,2])],1⟩
noncomputable def laws_toNodeS_l0_X (a0:List TNode):((List TNode))→Ex×St:=fun y38=>((.exit 0),⟨[(3,AV.osl 0 0 (List.length y38) (List.length y38))],[(0,Ob.nar 31 (List.map eNode y38) [0,0,0,0,0,0,0,0,0,1,2,0,0,1,0,0,0,0,0,0,0,0,0,0,0,0,0,0,0,1,2])],1⟩)
noncomputable def laws_toNodeS (a0:List TNode):Option ((List TNode)) :=
 chkP (0 ≤ (List.length a0:Int)∧(List.length a0:Int) ≤ (List.length a0:Int)∧(List.length a0:Int) ≤ 17592186044416∧(List.length a0:Int) * 328 ≤ 17592186044416) (
 nam ((List.replicate (Int.toNat (List.length a0:Int)) (TNode.mk 0 0 false (TMat.mk 0 0 0 0 0 0) (TPath.mk [] []) false 0 [] (TPaint.mk 0 (TColor.mk 0 0 0 0) (TColor.mk 0 0 0 0) (TPoint.mk 0 0) (TPoint.mk 0 0)) 0 0 (TPath.mk [] []))):List TNode) fun l1 =>
 bnd (loopI (laws_toNodeS_l0 a0) (0,l1)) fun y38 =>
 some y38)
noncomputable def laws_toNodeS_e (q:(List TNode)):List AV×List Ob:=([AV.fsl (List.map eNode q)],[])
noncomputable def laws_toNodeS_v (q:(List TNode)) (r:(List TNode)):AV×List Ob:=(AV.osl 0 0 (List.length r) (List.length r),[Ob.nar 31 (List.map eNode r) [0,0,0,0,0,0,0,0,0,1,2,0,0,1,0,0,0,0,0,0,0,0,0,0,0,0,0,0,0,1,2]])
noncomputable def laws_toNodeS_x:List AV→List Ob→Option (AV×List Ob):=xOf laws_toNodeS_e (fun q=>laws_toNodeS q) laws_toNodeS_v
theorem laws_toNodeS_i:∀ a b,laws_toNodeS_e a = laws_toNodeS_e b→a = b:=by rintro x0 y0 h;simp [laws_toNodeS_e] at h;simp [h]
@[simp] theorem laws_toNodeS_k (z0:List TNode):laws_toNodeS_x [AV.fsl (List.map eNode z0)] [] = mapR (laws_toNodeS z0) (fun r=>(AV.osl 0 0 (List.length r) (List.length r),[Ob.nar 31 (List.map eNode r) [0,0,0,0,0,0,0,0,0,1,2,0,0,1,0,0,0,0,0,0,0,0,0,0,0,0,0,0,0,1,2]])) :=
 xOf_eq laws_toNodeS_i z0
noncomputable def laws_toScene (a0:TScene):Option ((List TNode)) :=
 bnd (laws_toNodeS a0.nodes) fun v1 =>
 some v1
noncomputable def laws_toScene_e (q:(TScene)):List AV×List Ob:=([AV.agg [AV.fsl (List.map eNode q.nodes)]],[])
noncomputable def laws_toScene_v (q:(TScene)) (r:(List TNode)):AV×List Ob:=(AV.agg [AV.osl 0 0 (List.length r) (List.length r)],[Ob.nar 31 (List.map eNode r) [0,0,0,0,0,0,0,0,0,1,2,0,0,1,0,0,0,0,0,0,0,0,0,0,0,0,0,0,0,1,2]])
noncomputable def laws_toScene_x:List AV→List Ob→Option (AV×List Ob):=xOf laws_toScene_e (fun q=>laws_toScene q) laws_toScene_v
theorem laws_toScene_i:∀ a b,laws_toScene_e a = laws_toScene_e b→a = b:=by rintro ⟨x0⟩ ⟨y0⟩ h;simp [laws_toScene_e] at h;simp [h]
@[simp] theorem laws_toScene_k (z0:List TNode):laws_toScene_x [AV.agg [AV.fsl (List.map eNode z0)]] [] = mapR (laws_toScene ⟨z0⟩) (fun r=>(AV.agg [AV.osl 0 0 (List.length r) (List.length r)],[Ob.nar 31 (List.map eNode r) [0,0,0,0,0,0,0,0,0,1,2,0,0,1,0,0,0,0,0,0,0,0,0,0,0,0,0,0,0,1,2]])) :=
 xOf_eq laws_toScene_i ⟨z0⟩
noncomputable def spec_l15CopyPath (a0:TPath):Option ((TPath)) :=
 chkP ((0 + List.length a0.verbs) * 8 ≤ 17592186044416) (
 nam (([] ++ a0.verbs):List Int) fun l1 =>
 chkP ((0 + List.length a0.points) * 16 ≤ 17592186044416) (
 nam (([] ++ a0.points):List TPoint) fun l2 =>
 some (TPath.mk l1 l2)))
noncomputable def spec_l15CopyPath_e (q:(TPath)):List AV×List Ob:=([AV.agg [AV.fsl (List.map (AV.int .i64) q.verbs),AV.fsl (List.map ePoint q.points)]],[])
noncomputable def spec_l15CopyPath_v (q:(TPath)) (r:(TPath)):AV×List Ob:=(AV.agg [AV.fsl (List.map (AV.int .i64) r.verbs),AV.fsl (List.map ePoint r.points)],[])
noncomputable def spec_l15CopyPath_x:List AV→List Ob→Option (AV×List Ob):=xOf spec_l15CopyPath_e (fun q=>spec_l15CopyPath q) spec_l15CopyPath_v
theorem spec_l15CopyPath_i:∀ a b,spec_l15CopyPath_e a = spec_l15CopyPath_e b→a = b:=by rintro ⟨x0,x1⟩ ⟨y0,y1⟩ h;simp [spec_l15CopyPath_e] at h;simp [h]
@[simp] theorem spec_l15CopyPath_k (z0:List Int) (z1:List TPoint):spec_l15CopyPath_x [AV.agg [AV.fsl (List.map (AV.int .i64) z0),AV.fsl (List.map ePoint z1)]] [] = mapR (spec_l15CopyPath ⟨z0,z1⟩) (fun r=>(AV.agg [AV.fsl (List.map (AV.int .i64) r.verbs),AV.fsl (List.map ePoint r.points)],[])) :=
 xOf_eq spec_l15CopyPath_i ⟨z0,z1⟩
noncomputable def spec_l15CopyNode (a0:TNode):Option ((TNode)) :=
 bnd (spec_l15CopyPath a0.path) fun v1 =>
 bnd (spec_l15CopyPath a0.clip) fun v2 =>
 chkP ((0 + List.length a0.dashes) * 8 ≤ 17592186044416) (
 nam (([] ++ a0.dashes):List Int) fun l3 =>
 some (TNode.mk a0.id a0.parent a0.group a0.mat v1 a0.even a0.width l3 a0.paint a0.mode a0.fade v2))
noncomputable def spec_l15CopyNode_e (q:(TNode)):List AV×List Ob:=([AV.agg [AV.int .i64 q.id,AV.int .i64 q.parent,AV.bool q.group,AV.int .i64 q.mat.a,AV.int .i64 q.mat.b,AV.int .i64 q.mat.c,AV.int .i64 q.mat.d,AV.int .i64 q.mat.e,AV.int .i64 q.mat.f,AV.fsl (List.map (AV.int .i64) q.path.verbs),AV.fsl (List.map ePoint q.path.points),AV.bool q.even,AV.int .i64 q.width,AV.fsl (List.map (AV.int .i64) q.dashes),AV.int .i64 q.paint.kind,AV.int .i64 q.paint.first.r,AV.int .i64 q.paint.first.g,AV.int .i64 q.paint.first.b,AV.int .i64 q.paint.first.a,AV.int .i64 q.paint.last.r,AV.int .i64 q.paint.last.g,AV.int .i64 q.paint.last.b,AV.int .i64 q.paint.last.a,AV.int .i64 q.paint.from_.x,AV.int .i64 q.paint.from_.y,AV.int .i64 q.paint.to.x,AV.int .i64 q.paint.to.y,AV.int .i64 q.mode,AV.int .i64 q.fade,AV.fsl (List.map (AV.int .i64) q.clip.verbs),AV.fsl (List.map ePoint q.clip.points)]],[])
noncomputable def spec_l15CopyNode_v (q:(TNode)) (r:(TNode)):AV×List Ob:=(AV.agg [AV.int .i64 r.id,AV.int .i64 r.parent,AV.bool r.group,AV.int .i64 r.mat.a,AV.int .i64 r.mat.b,AV.int .i64 r.mat.c,AV.int .i64 r.mat.d,AV.int .i64 r.mat.e,AV.int .i64 r.mat.f,AV.fsl (List.map (AV.int .i64) r.path.verbs),AV.fsl (List.map ePoint r.path.points),AV.bool r.even,AV.int .i64 r.width,AV.fsl (List.map (AV.int .i64) r.dashes),AV.int .i64 r.paint.kind,AV.int .i64 r.paint.first.r,AV.int .i64 r.paint.first.g,AV.int .i64 r.paint.first.b,AV.int .i64 r.paint.first.a,AV.int .i64 r.paint.last.r,AV.int .i64 r.paint.last.g,AV.int .i64 r.paint.last.b,AV.int .i64 r.paint.last.a,AV.int .i64 r.paint.from_.x,AV.int .i64 r.paint.from_.y,AV.int .i64 r.paint.to.x,AV.int .i64 r.paint.to.y,AV.int .i64 r.mode,AV.int .i64 r.fade,AV.fsl (List.map (AV.int .i64) r.clip.verbs),AV.fsl (List.map ePoint r.clip.points)],[])
noncomputable def spec_l15CopyNode_x:List AV→List Ob→Option (AV×List Ob):=xOf spec_l15CopyNode_e (fun q=>spec_l15CopyNode q) spec_l15CopyNode_v
theorem spec_l15CopyNode_i:∀ a b,spec_l15CopyNode_e a = spec_l15CopyNode_e b→a = b:=by rintro ⟨x0,x1,x2,⟨x3,x4,x5,x6,x7,x8⟩,⟨x9,x10⟩,x11,x12,x13,⟨x14,⟨x15,x16,x17,x18⟩,⟨x19,x20,x21,x22⟩,⟨x23,x24⟩,⟨x25,x26⟩⟩,x27,x28,⟨x29,x30⟩⟩ ⟨y0,y1,y2,⟨y3,y4,y5,y6,y7,y8⟩,⟨y9,y10⟩,y11,y12,y13,⟨y14,⟨y15,y16,y17,y18⟩,⟨y19,y20,y21,y22⟩,⟨y23,y24⟩,⟨y25,y26⟩⟩,y27,y28,⟨y29,y30⟩⟩ h;simp [spec_l15CopyNode_e] at h;simp [h]
@[simp] theorem spec_l15CopyNode_k (z0:Int) (z1:Int) (z2:Bool) (z3:Int) (z4:Int) (z5:Int) (z6:Int) (z7:Int) (z8:Int) (z9:List Int) (z10:List TPoint) (z11:Bool) (z12:Int) (z13:List Int) (z14:Int) (z15:Int) (z16:Int) (z17:Int) (z18:Int) (z19:Int) (z20:Int) (z21:Int) (z22:Int) (z23:Int) (z24:Int) (z25:Int) (z26:Int) (z27:Int) (z28:Int) (z29:List Int) (z30:List TPoint):spec_l15CopyNode_x [AV.agg [AV.int .i64 z0,AV.int .i64 z1,AV.bool z2,AV.int .i64 z3,AV.int .i64 z4,AV.int .i64 z5,AV.int .i64 z6,AV.int .i64 z7,AV.int .i64 z8,AV.fsl (List.map (AV.int .i64) z9),AV.fsl (List.map ePoint z10),AV.bool z11,AV.int .i64 z12,AV.fsl (List.map (AV.int .i64) z13),AV.int .i64 z14,AV.int .i64 z15,AV.int .i64 z16,AV.int .i64 z17,AV.int .i64 z18,AV.int .i64 z19,AV.int .i64 z20,AV.int .i64 z21,AV.int .i64 z22,AV.int .i64 z23,AV.int .i64 z24,AV.int .i64 z25,AV.int .i64 z26,AV.int .i64 z27,AV.int .i64 z28,AV.fsl (List.map (AV.int .i64) z29),AV.fsl (List.map ePoint z30)]] [] = mapR (spec_l15CopyNode ⟨z0,z1,z2,⟨z3,z4,z5,z6,z7,z8⟩,⟨z9,z10⟩,z11,z12,z13,⟨z14,⟨z15,z16,z17,z18⟩,⟨z19,z20,z21,z22⟩,⟨z23,z24⟩,⟨z25,z26⟩⟩,z27,z28,⟨z29,z30⟩⟩) (fun r=>(AV.agg [AV.int .i64 r.id,AV.int .i64 r.parent,AV.bool r.group,AV.int .i64 r.mat.a,AV.int .i64 r.mat.b,AV.int .i64 r.mat.c,AV.int .i64 r.mat.d,AV.int .i64 r.mat.e,AV.int .i64 r.mat.f,AV.fsl (List.map (AV.int .i64) r.path.verbs),AV.fsl (List.map ePoint r.path.points),AV.bool r.even,AV.int .i64 r.width,AV.fsl (List.map (AV.int .i64) r.dashes),AV.int .i64 r.paint.kind,AV.int .i64 r.paint.first.r,AV.int .i64 r.paint.first.g,AV.int .i64 r.paint.first.b,AV.int .i64 r.paint.first.a,AV.int .i64 r.paint.last.r,AV.int .i64 r.paint.last.g,AV.int .i64 r.paint.last.b,AV.int .i64 r.paint.last.a,AV.int .i64 r.paint.from_.x,AV.int .i64 r.paint.from_.y,AV.int .i64 r.paint.to.x,AV.int .i64 r.paint.to.y,AV.int .i64 r.mode,AV.int .i64 r.fade,AV.fsl (List.map (AV.int .i64) r.clip.verbs),AV.fsl (List.map ePoint r.clip.points)],[])) :=
 xOf_eq spec_l15CopyNode_i ⟨z0,z1,z2,⟨z3,z4,z5,z6,z7,z8⟩,⟨z9,z10⟩,z11,z12,z13,⟨z14,⟨z15,z16,z17,z18⟩,⟨z19,z20,z21,z22⟩,⟨z23,z24⟩,⟨z25,z26⟩⟩,z27,z28,⟨z29,z30⟩⟩
noncomputable def spec_l15Copy_l0 (a0:TScene):((Int)×(List TNode))→Option (((Int)×(List TNode)) ⊕ ((List TNode))):=fun (x3,x4) =>
  cnd (ile (List.length a0.nodes:Int) x3) (
   some (.inr x4)) (
   bnd (idx a0.nodes x3) fun v5 =>
   bnd (spec_l15CopyNode v5) fun v6 =>
   chkP ((List.length x4 + 1) * 328 ≤ 17592186044416) (
   nam ((x4 ++ [v6]):List TNode) fun l7 =>
   some (.inl ((IntKind.i64.wrap (x3 + 1)),l7))))
noncomputable def spec_l15Copy_l0_S (a0:TScene):((Int)×(List TNode))→St:=fun (x3,x4)=>⟨[(1,AV.optr 0 0 1),(2,AV.optr 1 0 1),(3,AV.optr 2 0 1),(4,AV.int .i64 x3)],[(0,Ob.box [AV.fsl (List.map eNode a0.nodes)]),(1,Ob.box [AV.nilsl]),(2,Ob.box [AV.osl 3 0 (List.length x4) (List.length x4)]),(3,Ob.arr 31 (List.map eNode x4) false)],4⟩
noncomputable def spec_l15Copy_l0_X (a0:TScene):((List TNode))→Ex×St:=fun y8=>((.exit 0),⟨[(2,AV.optr 0 0 1),(3,AV.optr 1 0 1)],[(0,Ob.box [AV.nilsl]),(1,Ob.box [AV.osl 2 0 (List.length y8) (List.length y8)]),(2,Ob.arr 31 (List.map eNode y8) false)],3⟩)
noncomputable def spec_l15Copy (a0:TScene):Option ((TScene)) :=
 bnd (loopI (spec_l15Copy_l0 a0) (0,[])) fun y8 =>
 some (TScene.mk y8)
noncomputable def spec_l15Copy_e (q:(TScene)):List AV×List Ob:=([AV.agg [AV.fsl (List.map eNode q.nodes)]],[])
noncomputable def spec_l15Copy_v (q:(TScene)) (r:(TScene)):AV×List Ob:=(AV.agg [AV.fsl (List.map eNode r.nodes)],[])
noncomputable def spec_l15Copy_x:List AV→List Ob→Option (AV×List Ob):=xOf spec_l15Copy_e (fun q=>spec_l15Copy q) spec_l15Copy_v
theorem spec_l15Copy_i:∀ a b,spec_l15Copy_e a = spec_l15Copy_e b→a = b:=by rintro ⟨x0⟩ ⟨y0⟩ h;simp [spec_l15Copy_e] at h;simp [h]
@[simp] theorem spec_l15Copy_k (z0:List TNode):spec_l15Copy_x [AV.agg [AV.fsl (List.map eNode z0)]] [] = mapR (spec_l15Copy ⟨z0⟩) (fun r=>(AV.agg [AV.fsl (List.map eNode r.nodes)],[])) :=
 xOf_eq spec_l15Copy_i ⟨z0⟩
noncomputable def spec_l01In (a0:Int) (a1:Int) (a2:Int):Option ((Bool)) :=
  cnd (ile a1 a0) (
   some (ile a0 a2)) (
   some false)
noncomputable def spec_l01In_e (q:(Int)×(Int)×(Int)):List AV×List Ob:=([AV.int .i64 q.1,AV.int .i64 q.2.1,AV.int .i64 q.2.2],[])
noncomputable def spec_l01In_v (q:(Int)×(Int)×(Int)) (r:(Bool)):AV×List Ob:=(AV.bool r,[])
noncomputable def spec_l01In_x:List AV→List Ob→Option (AV×List Ob):=xOf spec_l01In_e (fun q=>spec_l01In q.1 q.2.1 q.2.2) spec_l01In_v
theorem spec_l01In_i:∀ a b,spec_l01In_e a = spec_l01In_e b→a = b:=by rintro ⟨x0,x1,x2⟩ ⟨y0,y1,y2⟩ h;simp [spec_l01In_e] at h;simp [h]
@[simp] theorem spec_l01In_k (z0:Int) (z1:Int) (z2:Int):spec_l01In_x [AV.int .i64 z0,AV.int .i64 z1,AV.int .i64 z2] [] = mapR (spec_l01In z0 z1 z2) (fun r=>(AV.bool r,[])) :=
 xOf_eq spec_l01In_i (z0,z1,z2)
noncomputable def spec_MatOk (a0:TMat):Option ((Bool)) :=
  bnd (spec_l01In a0.a (IntKind.i64.wrap (0 - 1048576)) 1048576) fun v1 =>
  cnd v1 (
   bnd (spec_l01In a0.b (IntKind.i64.wrap (0 - 1048576)) 1048576) fun v2 =>
   cnd v2 (
    bnd (spec_l01In a0.c (IntKind.i64.wrap (0 - 1048576)) 1048576) fun v3 =>
    cnd v3 (
     bnd (spec_l01In a0.d (IntKind.i64.wrap (0 - 1048576)) 1048576) fun v4 =>
     cnd v4 (
      bnd (spec_l01In a0.e (-8388608) 8388608) fun v5 =>
      cnd v5 (
       bnd (spec_l01In a0.f (-8388608) 8388608) fun v6 =>
       some v6) (
       some false)) (
      some false)) (
     some false)) (
    some false)) (
   some false)
noncomputable def spec_MatOk_e (q:(TMat)):List AV×List Ob:=([AV.agg [AV.int .i64 q.a,AV.int .i64 q.b,AV.int .i64 q.c,AV.int .i64 q.d,AV.int .i64 q.e,AV.int .i64 q.f]],[])
noncomputable def spec_MatOk_v (q:(TMat)) (r:(Bool)):AV×List Ob:=(AV.bool r,[])
noncomputable def spec_MatOk_x:List AV→List Ob→Option (AV×List Ob):=xOf spec_MatOk_e (fun q=>spec_MatOk q) spec_MatOk_v
theorem spec_MatOk_i:∀ a b,spec_MatOk_e a = spec_MatOk_e b→a = b:=by rintro ⟨x0,x1,x2,x3,x4,x5⟩ ⟨y0,y1,y2,y3,y4,y5⟩ h;simp [spec_MatOk_e] at h;simp [h]
@[simp] theorem spec_MatOk_k (z0:Int) (z1:Int) (z2:Int) (z3:Int) (z4:Int) (z5:Int):spec_MatOk_x [AV.agg [AV.int .i64 z0,AV.int .i64 z1,AV.int .i64 z2,AV.int .i64 z3,AV.int .i64 z4,AV.int .i64 z5]] [] = mapR (spec_MatOk ⟨z0,z1,z2,z3,z4,z5⟩) (fun r=>(AV.bool r,[])) :=
 xOf_eq spec_MatOk_i ⟨z0,z1,z2,z3,z4,z5⟩
noncomputable def spec_NeedOf (a0:Int):Option ((Int)) :=
  bnd (spec_l01In a0 1 5) fun v1 =>
  cnd v1 (
   bnd (idx [1,1,2,3,0] (IntKind.i64.wrap (a0 - 1))) fun v2 =>
   some v2) (
   some (-1))
noncomputable def spec_NeedOf_e (q:(Int)):List AV×List Ob:=([AV.int .i64 q],[])
noncomputable def spec_NeedOf_v (q:(Int)) (r:(Int)):AV×List Ob:=(AV.int .i64 r,[])
noncomputable def spec_NeedOf_x:List AV→List Ob→Option (AV×List Ob):=xOf spec_NeedOf_e (fun q=>spec_NeedOf q) spec_NeedOf_v
theorem spec_NeedOf_i:∀ a b,spec_NeedOf_e a = spec_NeedOf_e b→a = b:=by rintro x0 y0 h;simp [spec_NeedOf_e] at h;simp [h]
@[simp] theorem spec_NeedOf_k (z0:Int):spec_NeedOf_x [AV.int .i64 z0] [] = mapR (spec_NeedOf z0) (fun r=>(AV.int .i64 r,[])) :=
 xOf_eq spec_NeedOf_i z0
noncomputable def spec_PointOk (a0:TPoint):Option ((Bool)) :=
  bnd (spec_l01In a0.x (-8388608) 8388608) fun v1 =>
  cnd v1 (
   bnd (spec_l01In a0.y (-8388608) 8388608) fun v2 =>
   some v2) (
   some false)
noncomputable def spec_PointOk_e (q:(TPoint)):List AV×List Ob:=([AV.agg [AV.int .i64 q.x,AV.int .i64 q.y]],[])
noncomputable def spec_PointOk_v (q:(TPoint)) (r:(Bool)):AV×List Ob:=(AV.bool r,[])
noncomputable def spec_PointOk_x:List AV→List Ob→Option (AV×List Ob):=xOf spec_PointOk_e (fun q=>spec_PointOk q) spec_PointOk_v
theorem spec_PointOk_i:∀ a b,spec_PointOk_e a = spec_PointOk_e b→a = b:=by rintro ⟨x0,x1⟩ ⟨y0,y1⟩ h;simp [spec_PointOk_e] at h;simp [h]
@[simp] theorem spec_PointOk_k (z0:Int) (z1:Int):spec_PointOk_x [AV.agg [AV.int .i64 z0,AV.int .i64 z1]] [] = mapR (spec_PointOk ⟨z0,z1⟩) (fun r=>(AV.bool r,[])) :=
 xOf_eq spec_PointOk_i ⟨z0,z1⟩
noncomputable def spec_PathOk_l0 (a0:TPath):((Int)×(Int))→Option (((Int)×(Int)) ⊕ (((Int)) ⊕ (Unit))):=fun (x3,x4) =>
  cnd (ile (List.length a0.verbs:Int) x4) (
   some (.inr (.inl x3))) (
   bnd (idx a0.verbs x4) fun v5 =>
   bnd (spec_NeedOf v5) fun v6 =>
   cnd (ile 0 v6) (
    cnd (ieq x4 0) (
     cnd (ieq v5 1) (
      some (.inl ((IntKind.i64.wrap (x3 + v6)),(IntKind.i64.wrap (x4 + 1))))) (
      some (.inr (.inr ())))) (
     bnd (idx a0.verbs (IntKind.i64.wrap (x4 - 1))) fun v7 =>
     cnd (ieq v7 5) (
      cnd (ieq v5 1) (
       some (.inl ((IntKind.i64.wrap (x3 + v6)),(IntKind.i64.wrap (x4 + 1))))) (
       some (.inr (.inr ())))) (
      some (.inl ((IntKind.i64.wrap (x3 + v6)),(IntKind.i64.wrap (x4 + 1))))))) (
    some (.inr (.inr ()))))
noncomputable def spec_PathOk_l0_S (a0:TPath):((Int)×(Int))→St:=fun (x3,x4)=>⟨[(1,AV.optr 0 0 2),(3,AV.int .i64 x3),(4,AV.int .i64 x4)],[(0,Ob.box [AV.fsl (List.map (AV.int .i64) a0.verbs),AV.fsl (List.map ePoint a0.points)])],1⟩
noncomputable def spec_PathOk_l0_X (a0:TPath):(((Int)) ⊕ (Unit))→Ex×St:=fun q=>match q with
 | .inl y8=>((.exit 0),⟨[(1,AV.optr 0 0 2),(3,AV.int .i64 y8)],[(0,Ob.box [AV.fsl (List.map (AV.int .i64) a0.verbs),AV.fsl (List.map ePoint a0.points)])],1⟩)
 | .inr _=>(.ret,⟨[(2,AV.bool false)],[],0⟩)
noncomputable def spec_PathOk_l1 (a0:TPath) (y8:Int):((Int))→Option (((Int)) ⊕ ((Unit) ⊕ (Unit))):=fun x11 =>
  cnd (ile (List.length a0.points:Int) x11) (
   some (.inr (.inl ()))) (
   bnd (idx a0.points x11) fun v12 =>
   bnd (spec_PointOk v12) fun v13 =>
   cnd v13 (
    some (.inl (IntKind.i64.wrap (x11 + 1)))) (
    some (.inr (.inr ()))))
noncomputable def spec_PathOk_l1_S (a0:TPath) (y8:Int):((Int))→St:=fun x11=>⟨[(1,AV.optr 0 0 2),(3,AV.int .i64 y8),(6,AV.int .i64 x11)],[(0,Ob.box [AV.fsl (List.map (AV.int .i64) a0.verbs),AV.fsl (List.map ePoint a0.points)])],1⟩
noncomputable def spec_PathOk_l1_X (a0:TPath) (y8:Int):((Unit) ⊕ (Unit))→Ex×St:=fun q=>match q with
 | .inl _=>((.exit 2),⟨[(1,AV.optr 0 0 2),(3,AV.int .i64 y8)],[(0,Ob.box [AV.fsl (List.map (AV.int .i64) a0.verbs),AV.fsl (List.map ePoint a0.points)])],1⟩)
 | .inr _=>(.ret,⟨[(2,AV.bool false)],[],0⟩)
noncomputable def spec_PathOk (a0:TPath):Option ((Bool)) :=
  cnd (ile (List.length a0.points:Int) 24) (
   cnd (ile (List.length a0.verbs:Int) 24) (
    bnd (loopI (spec_PathOk_l0 a0) (0,0)) fun q=>match q with
    | .inl y8 =>
     bnd (loopI (spec_PathOk_l1 a0 y8) 0) fun q=>match q with
     | .inl () =>
      some (ieq y8 (List.length a0.points:Int))
     | .inr () =>
      some false
    | .inr () =>
     some false) (
    some false)) (
   some false)
noncomputable def spec_PathOk_e (q:(TPath)):List AV×List Ob:=([AV.agg [AV.fsl (List.map (AV.int .i64) q.verbs),AV.fsl (List.map ePoint q.points)]],[])
noncomputable def spec_PathOk_v (q:(TPath)) (r:(Bool)):AV×List Ob:=(AV.bool r,[])
noncomputable def spec_PathOk_x:List AV→List Ob→Option (AV×List Ob):=xOf spec_PathOk_e (fun q=>spec_PathOk q) spec_PathOk_v
theorem spec_PathOk_i:∀ a b,spec_PathOk_e a = spec_PathOk_e b→a = b:=by rintro ⟨x0,x1⟩ ⟨y0,y1⟩ h;simp [spec_PathOk_e] at h;simp [h]
@[simp] theorem spec_PathOk_k (z0:List Int) (z1:List TPoint):spec_PathOk_x [AV.agg [AV.fsl (List.map (AV.int .i64) z0),AV.fsl (List.map ePoint z1)]] [] = mapR (spec_PathOk ⟨z0,z1⟩) (fun r=>(AV.bool r,[])) :=
 xOf_eq spec_PathOk_i ⟨z0,z1⟩
noncomputable def spec_DashOk_l0 (a0:List Int):((Int))→Option (((Int)) ⊕ ((Unit) ⊕ (Unit))):=fun x3 =>
  cnd (ile (List.length a0:Int) x3) (
   some (.inr (.inl ()))) (
   bnd (idx a0 x3) fun v4 =>
   bnd (spec_l01In v4 1 20000) fun v5 =>
   cnd v5 (
    some (.inl (IntKind.i64.wrap (x3 + 1)))) (
    some (.inr (.inr ()))))
noncomputable def spec_DashOk_l0_S (a0:List Int):((Int))→St:=fun x3=>⟨[(0,AV.fsl (List.map (AV.int .i64) a0)),(3,AV.int .i64 x3)],[],0⟩
noncomputable def spec_DashOk_l0_X (a0:List Int):((Unit) ⊕ (Unit))→Ex×St:=fun q=>match q with
 | .inl _=>((.exit 0),⟨[(0,AV.fsl (List.map (AV.int .i64) a0))],[],0⟩)
 | .inr _=>(.ret,⟨[(2,AV.bool false)],[],0⟩)
noncomputable def spec_DashOk (a0:List Int):Option ((Bool)) :=
  bnd (loopI (spec_DashOk_l0 a0) 0) fun q=>match q with
  | .inl () =>
   cnd (ieq (Int.tmod (List.length a0:Int) 2) 0) (
    some (ile (List.length a0:Int) 4)) (
    some false)
  | .inr () =>
   some false
noncomputable def spec_DashOk_e (q:(List Int)):List AV×List Ob:=([AV.fsl (List.map (AV.int .i64) q)],[])
noncomputable def spec_DashOk_v (q:(List Int)) (r:(Bool)):AV×List Ob:=(AV.bool r,[])
noncomputable def spec_DashOk_x:List AV→List Ob→Option (AV×List Ob):=xOf spec_DashOk_e (fun q=>spec_DashOk q) spec_DashOk_v
theorem spec_DashOk_i:∀ a b,spec_DashOk_e a = spec_DashOk_e b→a = b:=by rintro x0 y0 h;simp [spec_DashOk_e] at h;simp [h]
@[simp] theorem spec_DashOk_k (z0:List Int):spec_DashOk_x [AV.fsl (List.map (AV.int .i64) z0)] [] = mapR (spec_DashOk z0) (fun r=>(AV.bool r,[])) :=
 xOf_eq spec_DashOk_i z0
noncomputable def spec_l15NoPath (a0:TPath):Option ((Bool)) :=
  cnd (ieq (List.length a0.verbs:Int) 0) (
   some (ieq (List.length a0.points:Int) 0)) (
   some false)
noncomputable def spec_l15NoPath_e (q:(TPath)):List AV×List Ob:=([AV.agg [AV.fsl (List.map (AV.int .i64) q.verbs),AV.fsl (List.map ePoint q.points)]],[])
noncomputable def spec_l15NoPath_v (q:(TPath)) (r:(Bool)):AV×List Ob:=(AV.bool r,[])
noncomputable def spec_l15NoPath_x:List AV→List Ob→Option (AV×List Ob):=xOf spec_l15NoPath_e (fun q=>spec_l15NoPath q) spec_l15NoPath_v
theorem spec_l15NoPath_i:∀ a b,spec_l15NoPath_e a = spec_l15NoPath_e b→a = b:=by rintro ⟨x0,x1⟩ ⟨y0,y1⟩ h;simp [spec_l15NoPath_e] at h;simp [h]
@[simp] theorem spec_l15NoPath_k (z0:List Int) (z1:List TPoint):spec_l15NoPath_x [AV.agg [AV.fsl (List.map (AV.int .i64) z0),AV.fsl (List.map ePoint z1)]] [] = mapR (spec_l15NoPath ⟨z0,z1⟩) (fun r=>(AV.bool r,[])) :=
 xOf_eq spec_l15NoPath_i ⟨z0,z1⟩
noncomputable def spec_l15NoPaint (a0:TPaint):Option ((Bool)) :=
 some (andB (decide (a0.kind = 0)) (andB (decide (a0.first.r = 0)) (andB (decide (a0.first.g = 0)) (andB (decide (a0.first.b = 0)) (andB (decide (a0.first.a = 0)) (andB (decide (a0.last.r = 0)) (andB (decide (a0.last.g = 0)) (andB (decide (a0.last.b = 0)) (andB (decide (a0.last.a = 0)) (andB (decide (a0.from_.x = 0)) (andB (decide (a0.from_.y = 0)) (andB (decide (a0.to.x = 0)) (andB (decide (a0.to.y = 0)) true)))))))))))))
noncomputable def spec_l15NoPaint_e (q:(TPaint)):List AV×List Ob:=([AV.agg [AV.int .i64 q.kind,AV.int .i64 q.first.r,AV.int .i64 q.first.g,AV.int .i64 q.first.b,AV.int .i64 q.first.a,AV.int .i64 q.last.r,AV.int .i64 q.last.g,AV.int .i64 q.last.b,AV.int .i64 q.last.a,AV.int .i64 q.from_.x,AV.int .i64 q.from_.y,AV.int .i64 q.to.x,AV.int .i64 q.to.y]],[])
noncomputable def spec_l15NoPaint_v (q:(TPaint)) (r:(Bool)):AV×List Ob:=(AV.bool r,[])
noncomputable def spec_l15NoPaint_x:List AV→List Ob→Option (AV×List Ob):=xOf spec_l15NoPaint_e (fun q=>spec_l15NoPaint q) spec_l15NoPaint_v
theorem spec_l15NoPaint_i:∀ a b,spec_l15NoPaint_e a = spec_l15NoPaint_e b→a = b:=by rintro ⟨x0,⟨x1,x2,x3,x4⟩,⟨x5,x6,x7,x8⟩,⟨x9,x10⟩,⟨x11,x12⟩⟩ ⟨y0,⟨y1,y2,y3,y4⟩,⟨y5,y6,y7,y8⟩,⟨y9,y10⟩,⟨y11,y12⟩⟩ h;simp [spec_l15NoPaint_e] at h;simp [h]
@[simp] theorem spec_l15NoPaint_k (z0:Int) (z1:Int) (z2:Int) (z3:Int) (z4:Int) (z5:Int) (z6:Int) (z7:Int) (z8:Int) (z9:Int) (z10:Int) (z11:Int) (z12:Int):spec_l15NoPaint_x [AV.agg [AV.int .i64 z0,AV.int .i64 z1,AV.int .i64 z2,AV.int .i64 z3,AV.int .i64 z4,AV.int .i64 z5,AV.int .i64 z6,AV.int .i64 z7,AV.int .i64 z8,AV.int .i64 z9,AV.int .i64 z10,AV.int .i64 z11,AV.int .i64 z12]] [] = mapR (spec_l15NoPaint ⟨z0,⟨z1,z2,z3,z4⟩,⟨z5,z6,z7,z8⟩,⟨z9,z10⟩,⟨z11,z12⟩⟩) (fun r=>(AV.bool r,[])) :=
 xOf_eq spec_l15NoPaint_i ⟨z0,⟨z1,z2,z3,z4⟩,⟨z5,z6,z7,z8⟩,⟨z9,z10⟩,⟨z11,z12⟩⟩
noncomputable def spec_ColorOk (a0:TColor):Option ((Bool)) :=
  bnd (spec_l01In a0.r 0 255) fun v1 =>
  cnd v1 (
   bnd (spec_l01In a0.g 0 255) fun v2 =>
   cnd v2 (
    bnd (spec_l01In a0.b 0 255) fun v3 =>
    cnd v3 (
     bnd (spec_l01In a0.a 0 255) fun v4 =>
     some v4) (
     some false)) (
    some false)) (
   some false)
noncomputable def spec_ColorOk_e (q:(TColor)):List AV×List Ob:=([AV.agg [AV.int .i64 q.r,AV.int .i64 q.g,AV.int .i64 q.b,AV.int .i64 q.a]],[])
noncomputable def spec_ColorOk_v (q:(TColor)) (r:(Bool)):AV×List Ob:=(AV.bool r,[])
noncomputable def spec_ColorOk_x:List AV→List Ob→Option (AV×List Ob):=xOf spec_ColorOk_e (fun q=>spec_ColorOk q) spec_ColorOk_v
theorem spec_ColorOk_i:∀ a b,spec_ColorOk_e a = spec_ColorOk_e b→a = b:=by rintro ⟨x0,x1,x2,x3⟩ ⟨y0,y1,y2,y3⟩ h;simp [spec_ColorOk_e] at h;simp [h]
@[simp] theorem spec_ColorOk_k (z0:Int) (z1:Int) (z2:Int) (z3:Int):spec_ColorOk_x [AV.agg [AV.int .i64 z0,AV.int .i64 z1,AV.int .i64 z2,AV.int .i64 z3]] [] = mapR (spec_ColorOk ⟨z0,z1,z2,z3⟩) (fun r=>(AV.bool r,[])) :=
 xOf_eq spec_ColorOk_i ⟨z0,z1,z2,z3⟩
noncomputable def spec_PaintOk (a0:TPaint):Option ((Bool)) :=
  bnd (spec_ColorOk a0.first) fun v1 =>
  cnd v1 (
   cnd (ieq a0.kind 1) (
    cnd (andB (decide (a0.last.r = 0)) (andB (decide (a0.last.g = 0)) (andB (decide (a0.last.b = 0)) (andB (decide (a0.last.a = 0)) true)))) (
     cnd (andB (decide (a0.from_.x = 0)) (andB (decide (a0.from_.y = 0)) true)) (
      some (andB (decide (a0.to.x = 0)) (andB (decide (a0.to.y = 0)) true))) (
      some false)) (
     some false)) (
    cnd (ieq a0.kind 2) (
     bnd (spec_ColorOk a0.last) fun v2 =>
     cnd v2 (
      bnd (spec_PointOk a0.from_) fun v3 =>
      cnd v3 (
       bnd (spec_PointOk a0.to) fun v4 =>
       cnd v4 (
        some (!(andB (decide (a0.from_.x = a0.to.x)) (andB (decide (a0.from_.y = a0.to.y)) true)))) (
        some false)) (
       some false)) (
      some false)) (
     some false))) (
   some false)
noncomputable def spec_PaintOk_e (q:(TPaint)):List AV×List Ob:=([AV.agg [AV.int .i64 q.kind,AV.int .i64 q.first.r,AV.int .i64 q.first.g,AV.int .i64 q.first.b,AV.int .i64 q.first.a,AV.int .i64 q.last.r,AV.int .i64 q.last.g,AV.int .i64 q.last.b,AV.int .i64 q.last.a,AV.int .i64 q.from_.x,AV.int .i64 q.from_.y,AV.int .i64 q.to.x,AV.int .i64 q.to.y]],[])
noncomputable def spec_PaintOk_v (q:(TPaint)) (r:(Bool)):AV×List Ob:=(AV.bool r,[])
noncomputable def spec_PaintOk_x:List AV→List Ob→Option (AV×List Ob):=xOf spec_PaintOk_e (fun q=>spec_PaintOk q) spec_PaintOk_v
theorem spec_PaintOk_i:∀ a b,spec_PaintOk_e a = spec_PaintOk_e b→a = b:=by rintro ⟨x0,⟨x1,x2,x3,x4⟩,⟨x5,x6,x7,x8⟩,⟨x9,x10⟩,⟨x11,x12⟩⟩ ⟨y0,⟨y1,y2,y3,y4⟩,⟨y5,y6,y7,y8⟩,⟨y9,y10⟩,⟨y11,y12⟩⟩ h;simp [spec_PaintOk_e] at h;simp [h]
@[simp] theorem spec_PaintOk_k (z0:Int) (z1:Int) (z2:Int) (z3:Int) (z4:Int) (z5:Int) (z6:Int) (z7:Int) (z8:Int) (z9:Int) (z10:Int) (z11:Int) (z12:Int):spec_PaintOk_x [AV.agg [AV.int .i64 z0,AV.int .i64 z1,AV.int .i64 z2,AV.int .i64 z3,AV.int .i64 z4,AV.int .i64 z5,AV.int .i64 z6,AV.int .i64 z7,AV.int .i64 z8,AV.int .i64 z9,AV.int .i64 z10,AV.int .i64 z11,AV.int .i64 z12]] [] = mapR (spec_PaintOk ⟨z0,⟨z1,z2,z3,z4⟩,⟨z5,z6,z7,z8⟩,⟨z9,z10⟩,⟨z11,z12⟩⟩) (fun r=>(AV.bool r,[])) :=
 xOf_eq spec_PaintOk_i ⟨z0,⟨z1,z2,z3,z4⟩,⟨z5,z6,z7,z8⟩,⟨z9,z10⟩,⟨z11,z12⟩⟩
noncomputable def spec_NodeOk (a0:TNode):Option ((Bool)) :=
  bnd (spec_l01In a0.id 1 99) fun v1 =>
  cnd v1 (
   bnd (spec_l01In a0.parent 0 99) fun v2 =>
   cnd v2 (
    cnd (ieq a0.id a0.parent) (
     some false) (
     bnd (spec_MatOk a0.mat) fun v3 =>
     cnd v3 (
      bnd (spec_PathOk a0.path) fun v4 =>
      cnd v4 (
       bnd (spec_PathOk a0.clip) fun v5 =>
       cnd v5 (
        bnd (spec_l01In a0.width 0 2048) fun v6 =>
        cnd v6 (
         bnd (spec_DashOk a0.dashes) fun v7 =>
         cnd v7 (
          bnd (spec_l01In a0.mode 1 5) fun v8 =>
          cnd v8 (
           bnd (spec_l01In a0.fade 0 255) fun v9 =>
           cnd v9 (
            cnd a0.group (
             bnd (spec_l15NoPath a0.path) fun v10 =>
             cnd v10 (
              bnd (spec_l15NoPaint a0.paint) fun v11 =>
              cnd v11 (
               cnd (ieq a0.width 0) (
                cnd (ieq (List.length a0.dashes:Int) 0) (
                 some (!a0.even)) (
                 some false)) (
                some false)) (
               some false)) (
              some false)) (
             bnd (spec_PaintOk a0.paint) fun v12 =>
             some v12)) (
            some false)) (
           some false)) (
          some false)) (
         some false)) (
        some false)) (
       some false)) (
      some false))) (
    some false)) (
   some false)
noncomputable def spec_NodeOk_e (q:(TNode)):List AV×List Ob:=([AV.agg [AV.int .i64 q.id,AV.int .i64 q.parent,AV.bool q.group,AV.int .i64 q.mat.a,AV.int .i64 q.mat.b,AV.int .i64 q.mat.c,AV.int .i64 q.mat.d,AV.int .i64 q.mat.e,AV.int .i64 q.mat.f,AV.fsl (List.map (AV.int .i64) q.path.verbs),AV.fsl (List.map ePoint q.path.points),AV.bool q.even,AV.int .i64 q.width,AV.fsl (List.map (AV.int .i64) q.dashes),AV.int .i64 q.paint.kind,AV.int .i64 q.paint.first.r,AV.int .i64 q.paint.first.g,AV.int .i64 q.paint.first.b,AV.int .i64 q.paint.first.a,AV.int .i64 q.paint.last.r,AV.int .i64 q.paint.last.g,AV.int .i64 q.paint.last.b,AV.int .i64 q.paint.last.a,AV.int .i64 q.paint.from_.x,AV.int .i64 q.paint.from_.y,AV.int .i64 q.paint.to.x,AV.int .i64 q.paint.to.y,AV.int .i64 q.mode,AV.int .i64 q.fade,AV.fsl (List.map (AV.int .i64) q.clip.verbs),AV.fsl (List.map ePoint q.clip.points)]],[])
noncomputable def spec_NodeOk_v (q:(TNode)) (r:(Bool)):AV×List Ob:=(AV.bool r,[])
noncomputable def spec_NodeOk_x:List AV→List Ob→Option (AV×List Ob):=xOf spec_NodeOk_e (fun q=>spec_NodeOk q) spec_NodeOk_v
theorem spec_NodeOk_i:∀ a b,spec_NodeOk_e a = spec_NodeOk_e b→a = b:=by rintro ⟨x0,x1,x2,⟨x3,x4,x5,x6,x7,x8⟩,⟨x9,x10⟩,x11,x12,x13,⟨x14,⟨x15,x16,x17,x18⟩,⟨x19,x20,x21,x22⟩,⟨x23,x24⟩,⟨x25,x26⟩⟩,x27,x28,⟨x29,x30⟩⟩ ⟨y0,y1,y2,⟨y3,y4,y5,y6,y7,y8⟩,⟨y9,y10⟩,y11,y12,y13,⟨y14,⟨y15,y16,y17,y18⟩,⟨y19,y20,y21,y22⟩,⟨y23,y24⟩,⟨y25,y26⟩⟩,y27,y28,⟨y29,y30⟩⟩ h;simp [spec_NodeOk_e] at h;simp [h]
@[simp] theorem spec_NodeOk_k (z0:Int) (z1:Int) (z2:Bool) (z3:Int) (z4:Int) (z5:Int) (z6:Int) (z7:Int) (z8:Int) (z9:List Int) (z10:List TPoint) (z11:Bool) (z12:Int) (z13:List Int) (z14:Int) (z15:Int) (z16:Int) (z17:Int) (z18:Int) (z19:Int) (z20:Int) (z21:Int) (z22:Int) (z23:Int) (z24:Int) (z25:Int) (z26:Int) (z27:Int) (z28:Int) (z29:List Int) (z30:List TPoint):spec_NodeOk_x [AV.agg [AV.int .i64 z0,AV.int .i64 z1,AV.bool z2,AV.int .i64 z3,AV.int .i64 z4,AV.int .i64 z5,AV.int .i64 z6,AV.int .i64 z7,AV.int .i64 z8,AV.fsl (List.map (AV.int .i64) z9),AV.fsl (List.map ePoint z10),AV.bool z11,AV.int .i64 z12,AV.fsl (List.map (AV.int .i64) z13),AV.int .i64 z14,AV.int .i64 z15,AV.int .i64 z16,AV.int .i64 z17,AV.int .i64 z18,AV.int .i64 z19,AV.int .i64 z20,AV.int .i64 z21,AV.int .i64 z22,AV.int .i64 z23,AV.int .i64 z24,AV.int .i64 z25,AV.int .i64 z26,AV.int .i64 z27,AV.int .i64 z28,AV.fsl (List.map (AV.int .i64) z29),AV.fsl (List.map ePoint z30)]] [] = mapR (spec_NodeOk ⟨z0,z1,z2,⟨z3,z4,z5,z6,z7,z8⟩,⟨z9,z10⟩,z11,z12,z13,⟨z14,⟨z15,z16,z17,z18⟩,⟨z19,z20,z21,z22⟩,⟨z23,z24⟩,⟨z25,z26⟩⟩,z27,z28,⟨z29,z30⟩⟩) (fun r=>(AV.bool r,[])) :=
 xOf_eq spec_NodeOk_i ⟨z0,z1,z2,⟨z3,z4,z5,z6,z7,z8⟩,⟨z9,z10⟩,z11,z12,z13,⟨z14,⟨z15,z16,z17,z18⟩,⟨z19,z20,z21,z22⟩,⟨z23,z24⟩,⟨z25,z26⟩⟩,z27,z28,⟨z29,z30⟩⟩
noncomputable def spec_NodeAt_l0 (a0:TScene) (a1:Int):((Int))→Option (((Int)) ⊕ ((Unit) ⊕ ((Int)))):=fun x2 =>
  cnd (ile (List.length a0.nodes:Int) x2) (
   some (.inr (.inl ()))) (
   bnd (idx a0.nodes x2) fun v3 =>
   cnd (ieq v3.id a1) (
    some (.inr (.inr x2))) (
    some (.inl (IntKind.i64.wrap (x2 + 1)))))
noncomputable def spec_NodeAt_l0_S (a0:TScene) (a1:Int):((Int))→St:=fun x2=>⟨[(1,AV.int .i64 a1),(2,AV.optr 0 0 1),(5,AV.int .i64 x2)],[(0,Ob.box [AV.fsl (List.map eNode a0.nodes)])],1⟩
noncomputable def spec_NodeAt_l0_X (a0:TScene) (a1:Int):((Unit) ⊕ ((Int)))→Ex×St:=fun q=>match q with
 | .inl _=>((.exit 0),⟨[],[],0⟩)
 | .inr y4=>(.ret,⟨[(4,AV.int .i64 y4)],[],0⟩)
noncomputable def spec_NodeAt (a0:TScene) (a1:Int):Option ((Int)) :=
  bnd (loopI (spec_NodeAt_l0 a0 a1) 0) fun q=>match q with
  | .inl () =>
   some (-1)
  | .inr y4 =>
   some y4
noncomputable def spec_NodeAt_e (q:(TScene)×(Int)):List AV×List Ob:=([AV.agg [AV.fsl (List.map eNode q.1.nodes)],AV.int .i64 q.2],[])
noncomputable def spec_NodeAt_v (q:(TScene)×(Int)) (r:(Int)):AV×List Ob:=(AV.int .i64 r,[])
noncomputable def spec_NodeAt_x:List AV→List Ob→Option (AV×List Ob):=xOf spec_NodeAt_e (fun q=>spec_NodeAt q.1 q.2) spec_NodeAt_v
theorem spec_NodeAt_i:∀ a b,spec_NodeAt_e a = spec_NodeAt_e b→a = b:=by rintro ⟨⟨x0⟩,x1⟩ ⟨⟨y0⟩,y1⟩ h;simp [spec_NodeAt_e] at h;simp [h]
@[simp] theorem spec_NodeAt_k (z0:List TNode) (z1:Int):spec_NodeAt_x [AV.agg [AV.fsl (List.map eNode z0)],AV.int .i64 z1] [] = mapR (spec_NodeAt ⟨z0⟩ z1) (fun r=>(AV.int .i64 r,[])) :=
 xOf_eq spec_NodeAt_i (⟨z0⟩,z1)
noncomputable def spec_DepthOf_l0 (a0:TScene):((Int)×(Int)×(Int))→Option (((Int)×(Int)×(Int)) ⊕ (((Int)) ⊕ (Unit))):=fun (x3,x4,x5) =>
  cnd (ile x5 8) (
   cnd (ieq x3 0) (
    some (.inr (.inl x4))) (
    bnd (spec_NodeAt a0 x3) fun v6 =>
    cnd (ile 0 v6) (
     bnd (idx a0.nodes v6) fun v7 =>
     some (.inl (v7.parent,(IntKind.i64.wrap (x4 + 1)),(IntKind.i64.wrap (x5 + 1))))) (
     some (.inr (.inl 0))))) (
   some (.inr (.inr ())))
noncomputable def spec_DepthOf_l0_S (a0:TScene):((Int)×(Int)×(Int))→St:=fun (x3,x4,x5)=>⟨[(1,AV.int .i64 x3),(2,AV.optr 0 0 1),(5,AV.int .i64 x4),(6,AV.int .i64 x5)],[(0,Ob.box [AV.fsl (List.map eNode a0.nodes)])],1⟩
noncomputable def spec_DepthOf_l0_X (a0:TScene):(((Int)) ⊕ (Unit))→Ex×St:=fun q=>match q with
 | .inl y8=>(.ret,⟨[(4,AV.int .i64 y8)],[],0⟩)
 | .inr _=>((.exit 0),⟨[],[],0⟩)
noncomputable def spec_DepthOf (a0:TScene) (a1:Int):Option ((Int)) :=
  bnd (loopI (spec_DepthOf_l0 a0) (a1,0,0)) fun q=>match q with
  | .inl y8 =>
   some y8
  | .inr () =>
   some 0
noncomputable def spec_DepthOf_e (q:(TScene)×(Int)):List AV×List Ob:=([AV.agg [AV.fsl (List.map eNode q.1.nodes)],AV.int .i64 q.2],[])
noncomputable def spec_DepthOf_v (q:(TScene)×(Int)) (r:(Int)):AV×List Ob:=(AV.int .i64 r,[])
noncomputable def spec_DepthOf_x:List AV→List Ob→Option (AV×List Ob):=xOf spec_DepthOf_e (fun q=>spec_DepthOf q.1 q.2) spec_DepthOf_v
theorem spec_DepthOf_i:∀ a b,spec_DepthOf_e a = spec_DepthOf_e b→a = b:=by rintro ⟨⟨x0⟩,x1⟩ ⟨⟨y0⟩,y1⟩ h;simp [spec_DepthOf_e] at h;simp [h]
@[simp] theorem spec_DepthOf_k (z0:List TNode) (z1:Int):spec_DepthOf_x [AV.agg [AV.fsl (List.map eNode z0)],AV.int .i64 z1] [] = mapR (spec_DepthOf ⟨z0⟩ z1) (fun r=>(AV.int .i64 r,[])) :=
 xOf_eq spec_DepthOf_i (⟨z0⟩,z1)
noncomputable def spec_SceneOk_l0 (a0:TScene):((Int))→Option (((Int)) ⊕ ((Unit) ⊕ (Unit))):=fun x8 =>
  cnd (ile (List.length a0.nodes:Int) x8) (
   some (.inr (.inl ()))) (
   bnd (idx a0.nodes x8) fun v9 =>
   bnd (spec_NodeOk v9) fun v10 =>
   cnd v10 (
    bnd (spec_NodeAt a0 v9.id) fun v11 =>
    cnd (ieq v11 x8) (
     bnd (spec_DepthOf a0 v9.id) fun v12 =>
     bnd (spec_l01In v12 1 4) fun v13 =>
     cnd v13 (
      bnd (spec_NodeAt a0 v9.parent) fun v14 =>
      cnd (ieq v9.parent 0) (
       some (.inl (IntKind.i64.wrap (x8 + 1)))) (
       cnd (ile 0 v14) (
        bnd (idx a0.nodes v14) fun v15 =>
        cnd v15.group (
         some (.inl (IntKind.i64.wrap (x8 + 1)))) (
         some (.inr (.inr ())))) (
        some (.inr (.inr ()))))) (
      some (.inr (.inr ())))) (
     some (.inr (.inr ())))) (
    some (.inr (.inr ()))))
noncomputable def spec_SceneOk_l0_S (a0:TScene):((Int))→St:=fun x8=>⟨[(1,AV.optr 0 0 1),(3,AV.int .i64 x8)],[(0,Ob.box [AV.fsl (List.map eNode a0.nodes)])],1⟩
noncomputable def spec_SceneOk_l0_X (a0:TScene):((Unit) ⊕ (Unit))→Ex×St:=fun q=>match q with
 | .inl _=>((.exit 0),⟨[],[],0⟩)
 | .inr _=>(.ret,⟨[(2,AV.bool false)],[],0⟩)
noncomputable def spec_SceneOk (a0:TScene):Option ((Bool)) :=
  cnd (ile (List.length a0.nodes:Int) 8) (
   bnd (loopI (spec_SceneOk_l0 a0) 0) fun q=>match q with
   | .inl () =>
    some true
   | .inr () =>
    some false) (
   some false)
noncomputable def spec_SceneOk_e (q:(TScene)):List AV×List Ob:=([AV.agg [AV.fsl (List.map eNode q.nodes)]],[])
noncomputable def spec_SceneOk_v (q:(TScene)) (r:(Bool)):AV×List Ob:=(AV.bool r,[])
noncomputable def spec_SceneOk_x:List AV→List Ob→Option (AV×List Ob):=xOf spec_SceneOk_e (fun q=>spec_SceneOk q) spec_SceneOk_v
theorem spec_SceneOk_i:∀ a b,spec_SceneOk_e a = spec_SceneOk_e b→a = b:=by rintro ⟨x0⟩ ⟨y0⟩ h;simp [spec_SceneOk_e] at h;simp [h]
@[simp] theorem spec_SceneOk_k (z0:List TNode):spec_SceneOk_x [AV.agg [AV.fsl (List.map eNode z0)]] [] = mapR (spec_SceneOk ⟨z0⟩) (fun r=>(AV.bool r,[])) :=
 xOf_eq spec_SceneOk_i ⟨z0⟩
noncomputable def spec_l15Under_l0 (a0:TScene) (a2:Int):((Int)×(Int))→Option (((Int)×(Int)) ⊕ (((Bool)) ⊕ (Unit))):=fun (x3,x4) =>
  cnd (ile x4 8) (
   cnd (ieq x3 a2) (
    some (.inr (.inl true))) (
    bnd (spec_NodeAt a0 x3) fun v5 =>
    cnd (ile 0 v5) (
     bnd (idx a0.nodes v5) fun v6 =>
     some (.inl (v6.parent,(IntKind.i64.wrap (x4 + 1))))) (
     some (.inr (.inl false))))) (
   some (.inr (.inr ())))
noncomputable def spec_l15Under_l0_S (a0:TScene) (a2:Int):((Int)×(Int))→St:=fun (x3,x4)=>⟨[(1,AV.int .i64 x3),(2,AV.int .i64 a2),(3,AV.optr 0 0 1),(7,AV.int .i64 x4)],[(0,Ob.box [AV.fsl (List.map eNode a0.nodes)])],1⟩
noncomputable def spec_l15Under_l0_X (a0:TScene) (a2:Int):(((Bool)) ⊕ (Unit))→Ex×St:=fun q=>match q with
 | .inl y7=>(.ret,⟨[(6,AV.bool y7)],[],0⟩)
 | .inr _=>((.exit 0),⟨[],[],0⟩)
noncomputable def spec_l15Under (a0:TScene) (a1:Int) (a2:Int):Option ((Bool)) :=
  bnd (loopI (spec_l15Under_l0 a0 a2) (a1,0)) fun q=>match q with
  | .inl y7 =>
   some y7
  | .inr () =>
   some false
noncomputable def spec_l15Under_e (q:(TScene)×(Int)×(Int)):List AV×List Ob:=([AV.agg [AV.fsl (List.map eNode q.1.nodes)],AV.int .i64 q.2.1,AV.int .i64 q.2.2],[])
noncomputable def spec_l15Under_v (q:(TScene)×(Int)×(Int)) (r:(Bool)):AV×List Ob:=(AV.bool r,[])
noncomputable def spec_l15Under_x:List AV→List Ob→Option (AV×List Ob):=xOf spec_l15Under_e (fun q=>spec_l15Under q.1 q.2.1 q.2.2) spec_l15Under_v
theorem spec_l15Under_i:∀ a b,spec_l15Under_e a = spec_l15Under_e b→a = b:=by rintro ⟨⟨x0⟩,x1,x2⟩ ⟨⟨y0⟩,y1,y2⟩ h;simp [spec_l15Under_e] at h;simp [h]
@[simp] theorem spec_l15Under_k (z0:List TNode) (z1:Int) (z2:Int):spec_l15Under_x [AV.agg [AV.fsl (List.map eNode z0)],AV.int .i64 z1,AV.int .i64 z2] [] = mapR (spec_l15Under ⟨z0⟩ z1 z2) (fun r=>(AV.bool r,[])) :=
 xOf_eq spec_l15Under_i (⟨z0⟩,z1,z2)
noncomputable def spec_PlaceNode_l0 (a0:TScene) (a2:Int) (a3:Int) (v1:TScene) (v3:Int) (v6:TNode):((Int)×(List TNode))→Option (((Int)×(List TNode)) ⊕ ((List TNode))):=fun (x10,x11) =>
  cnd (ile (List.length a0.nodes:Int) x10) (
   some (.inr x11)) (
   cnd (ieq x10 v3) (
    bnd (idx a0.nodes x10) fun v12 =>
    cnd (ieq v12.id a3) (
     cnd (ieq a3 0) (
      some (.inl ((IntKind.i64.wrap (x10 + 1)),x11))) (
      chkP ((List.length x11 + 1) * 328 ≤ 17592186044416) (
      nam ((x11 ++ [(TNode.mk v6.id a2 v6.group v6.mat v6.path v6.even v6.width v6.dashes v6.paint v6.mode v6.fade v6.clip)]):List TNode) fun l13 =>
      some (.inl ((IntKind.i64.wrap (x10 + 1)),l13))))) (
     some (.inl ((IntKind.i64.wrap (x10 + 1)),x11)))) (
    bnd (idx a0.nodes x10) fun v14 =>
    bnd (spec_l15CopyNode v14) fun v15 =>
    chkP ((List.length x11 + 1) * 328 ≤ 17592186044416) (
    nam ((x11 ++ [v15]):List TNode) fun l16 =>
    cnd (ieq v14.id a3) (
     cnd (ieq a3 0) (
      some (.inl ((IntKind.i64.wrap (x10 + 1)),l16))) (
      chkP ((List.length l16 + 1) * 328 ≤ 17592186044416) (
      nam ((l16 ++ [(TNode.mk v6.id a2 v6.group v6.mat v6.path v6.even v6.width v6.dashes v6.paint v6.mode v6.fade v6.clip)]):List TNode) fun l17 =>
      some (.inl ((IntKind.i64.wrap (x10 + 1)),l17))))) (
     some (.inl ((IntKind.i64.wrap (x10 + 1)),l16))))))
noncomputable def spec_PlaceNode_l0_S (a0:TScene) (a2:Int) (a3:Int) (v1:TScene) (v3:Int) (v6:TNode):((Int)×(List TNode))→St:=fun (x10,x11)=>⟨[(3,AV.int .i64 a3),(4,AV.optr 0 0 1),(8,AV.optr 1 0 1),(10,AV.optr 2 0 1),(11,AV.int .i64 v3),(13,AV.optr 3 0 31),(14,AV.optr 4 0 1),(15,AV.int .i64 x10)],[(0,Ob.box [AV.fsl (List.map eNode a0.nodes)]),(1,Ob.box [AV.nilsl]),(2,Ob.box [AV.fsl (List.map eNode v1.nodes)]),(3,Ob.box [AV.int .i64 v6.id,AV.int .i64 a2,AV.bool v6.group,AV.int .i64 v6.mat.a,AV.int .i64 v6.mat.b,AV.int .i64 v6.mat.c,AV.int .i64 v6.mat.d,AV.int .i64 v6.mat.e,AV.int .i64 v6.mat.f,AV.fsl (List.map (AV.int .i64) v6.path.verbs),AV.fsl (List.map ePoint v6.path.points),AV.bool v6.even,AV.int .i64 v6.width,AV.fsl (List.map (AV.int .i64) v6.dashes),AV.int .i64 v6.paint.kind,AV.int .i64 v6.paint.first.r,AV.int .i64 v6.paint.first.g,AV.int .i64 v6.paint.first.b,AV.int .i64 v6.paint.first.a,AV.int .i64 v6.paint.last.r,AV.int .i64 v6.paint.last.g,AV.int .i64 v6.paint.last.b,AV.int .i64 v6.paint.last.a,AV.int .i64 v6.paint.from_.x,AV.int .i64 v6.paint.from_.y,AV.int .i64 v6.paint.to.x,AV.int .i64 v6.paint.to.y,AV.int .i64 v6.mode,AV.int .i64 v6.fade,AV.fsl (List.map (AV.int .i64) v6.clip.verbs),AV.fsl (List.map ePoint v6.clip.points)]),(4,Ob.box [AV.osl 5 0 (List.length x11) (List.length x11)]),(5,Ob.arr 31 (List.map eNode x11) false)],6⟩
noncomputable def spec_PlaceNode_l0_X (a0:TScene) (a2:Int) (a3:Int) (v1:TScene) (v3:Int) (v6:TNode):((List TNode))→Ex×St:=fun y18=>((.exit 0),⟨[(8,AV.optr 0 0 1),(10,AV.optr 1 0 1),(14,AV.optr 2 0 1)],[(0,Ob.box [AV.nilsl]),(1,Ob.box [AV.fsl (List.map eNode v1.nodes)]),(2,Ob.box [AV.osl 3 0 (List.length y18) (List.length y18)]),(3,Ob.arr 31 (List.map eNode y18) false)],4⟩)
noncomputable def spec_PlaceNode_l1 (a0:TScene) (a2:Int) (a3:Int) (v1:TScene) (v3:Int) (v22:TNode):((Int)×(List TNode))→Option (((Int)×(List TNode)) ⊕ ((List TNode))):=fun (x26,x27) =>
  cnd (ile (List.length a0.nodes:Int) x26) (
   some (.inr x27)) (
   cnd (ieq x26 v3) (
    bnd (idx a0.nodes x26) fun v28 =>
    cnd (ieq v28.id a3) (
     cnd (ieq a3 0) (
      some (.inl ((IntKind.i64.wrap (x26 + 1)),x27))) (
      chkP ((List.length x27 + 1) * 328 ≤ 17592186044416) (
      nam ((x27 ++ [(TNode.mk v22.id a2 v22.group v22.mat v22.path v22.even v22.width v22.dashes v22.paint v22.mode v22.fade v22.clip)]):List TNode) fun l29 =>
      some (.inl ((IntKind.i64.wrap (x26 + 1)),l29))))) (
     some (.inl ((IntKind.i64.wrap (x26 + 1)),x27)))) (
    bnd (idx a0.nodes x26) fun v30 =>
    bnd (spec_l15CopyNode v30) fun v31 =>
    chkP ((List.length x27 + 1) * 328 ≤ 17592186044416) (
    nam ((x27 ++ [v31]):List TNode) fun l32 =>
    cnd (ieq v30.id a3) (
     cnd (ieq a3 0) (
      some (.inl ((IntKind.i64.wrap (x26 + 1)),l32))) (
      chkP ((List.length l32 + 1) * 328 ≤ 17592186044416) (
      nam ((l32 ++ [(TNode.mk v22.id a2 v22.group v22.mat v22.path v22.even v22.width v22.dashes v22.paint v22.mode v22.fade v22.clip)]):List TNode) fun l33 =>
      some (.inl ((IntKind.i64.wrap (x26 + 1)),l33))))) (
     some (.inl ((IntKind.i64.wrap (x26 + 1)),l32))))))
noncomputable def spec_PlaceNode_l1_S (a0:TScene) (a2:Int) (a3:Int) (v1:TScene) (v3:Int) (v22:TNode):((Int)×(List TNode))→St:=fun (x26,x27)=>⟨[(3,AV.int .i64 a3),(4,AV.optr 0 0 1),(8,AV.optr 1 0 1),(10,AV.optr 2 0 1),(11,AV.int .i64 v3),(13,AV.optr 3 0 31),(14,AV.optr 4 0 1),(15,AV.int .i64 x26)],[(0,Ob.box [AV.fsl (List.map eNode a0.nodes)]),(1,Ob.box [AV.nilsl]),(2,Ob.box [AV.fsl (List.map eNode v1.nodes)]),(3,Ob.box [AV.int .i64 v22.id,AV.int .i64 a2,AV.bool v22.group,AV.int .i64 v22.mat.a,AV.int .i64 v22.mat.b,AV.int .i64 v22.mat.c,AV.int .i64 v22.mat.d,AV.int .i64 v22.mat.e,AV.int .i64 v22.mat.f,AV.fsl (List.map (AV.int .i64) v22.path.verbs),AV.fsl (List.map ePoint v22.path.points),AV.bool v22.even,AV.int .i64 v22.width,AV.fsl (List.map (AV.int .i64) v22.dashes),AV.int .i64 v22.paint.kind,AV.int .i64 v22.paint.first.r,AV.int .i64 v22.paint.first.g,AV.int .i64 v22.paint.first.b,AV.int .i64 v22.paint.first.a,AV.int .i64 v22.paint.last.r,AV.int .i64 v22.paint.last.g,AV.int .i64 v22.paint.last.b,AV.int .i64 v22.paint.last.a,AV.int .i64 v22.paint.from_.x,AV.int .i64 v22.paint.from_.y,AV.int .i64 v22.paint.to.x,AV.int .i64 v22.paint.to.y,AV.int .i64 v22.mode,AV.int .i64 v22.fade,AV.fsl (List.map (AV.int .i64) v22.clip.verbs),AV.fsl (List.map ePoint v22.clip.points)]),(4,Ob.box [AV.osl 5 0 (List.length x27) (List.length x27)]),(5,Ob.arr 31 (List.map eNode x27) false)],6⟩
noncomputable def spec_PlaceNode_l1_X (a0:TScene) (a2:Int) (a3:Int) (v1:TScene) (v3:Int) (v22:TNode):((List TNode))→Ex×St:=fun y34=>((.exit 0),⟨[(8,AV.optr 0 0 1),(10,AV.optr 1 0 1),(14,AV.optr 2 0 1)],[(0,Ob.box [AV.nilsl]),(1,Ob.box [AV.fsl (List.map eNode v1.nodes)]),(2,Ob.box [AV.osl 3 0 (List.length y34) (List.length y34)]),(3,Ob.arr 31 (List.map eNode y34) false)],4⟩)
noncomputable def spec_PlaceNode_l2 (a0:TScene) (a2:Int) (a3:Int) (v1:TScene) (v3:Int) (v39:TNode):((Int)×(List TNode))→Option (((Int)×(List TNode)) ⊕ ((List TNode))):=fun (x43,x44) =>
  cnd (ile (List.length a0.nodes:Int) x43) (
   some (.inr x44)) (
   cnd (ieq x43 v3) (
    bnd (idx a0.nodes x43) fun v45 =>
    cnd (ieq v45.id a3) (
     cnd (ieq a3 0) (
      some (.inl ((IntKind.i64.wrap (x43 + 1)),x44))) (
      chkP ((List.length x44 + 1) * 328 ≤ 17592186044416) (
      nam ((x44 ++ [(TNode.mk v39.id a2 v39.group v39.mat v39.path v39.even v39.width v39.dashes v39.paint v39.mode v39.fade v39.clip)]):List TNode) fun l46 =>
      some (.inl ((IntKind.i64.wrap (x43 + 1)),l46))))) (
     some (.inl ((IntKind.i64.wrap (x43 + 1)),x44)))) (
    bnd (idx a0.nodes x43) fun v47 =>
    bnd (spec_l15CopyNode v47) fun v48 =>
    chkP ((List.length x44 + 1) * 328 ≤ 17592186044416) (
    nam ((x44 ++ [v48]):List TNode) fun l49 =>
    cnd (ieq v47.id a3) (
     cnd (ieq a3 0) (
      some (.inl ((IntKind.i64.wrap (x43 + 1)),l49))) (
      chkP ((List.length l49 + 1) * 328 ≤ 17592186044416) (
      nam ((l49 ++ [(TNode.mk v39.id a2 v39.group v39.mat v39.path v39.even v39.width v39.dashes v39.paint v39.mode v39.fade v39.clip)]):List TNode) fun l50 =>
      some (.inl ((IntKind.i64.wrap (x43 + 1)),l50))))) (
     some (.inl ((IntKind.i64.wrap (x43 + 1)),l49))))))
noncomputable def spec_PlaceNode_l2_S (a0:TScene) (a2:Int) (a3:Int) (v1:TScene) (v3:Int) (v39:TNode):((Int)×(List TNode))→St:=fun (x43,x44)=>⟨[(3,AV.int .i64 a3),(4,AV.optr 0 0 1),(8,AV.optr 1 0 1),(10,AV.optr 2 0 1),(11,AV.int .i64 v3),(13,AV.optr 3 0 31),(14,AV.optr 4 0 1),(15,AV.int .i64 x43)],[(0,Ob.box [AV.fsl (List.map eNode a0.nodes)]),(1,Ob.box [AV.nilsl]),(2,Ob.box [AV.fsl (List.map eNode v1.nodes)]),(3,Ob.box [AV.int .i64 v39.id,AV.int .i64 a2,AV.bool v39.group,AV.int .i64 v39.mat.a,AV.int .i64 v39.mat.b,AV.int .i64 v39.mat.c,AV.int .i64 v39.mat.d,AV.int .i64 v39.mat.e,AV.int .i64 v39.mat.f,AV.fsl (List.map (AV.int .i64) v39.path.verbs),AV.fsl (List.map ePoint v39.path.points),AV.bool v39.even,AV.int .i64 v39.width,AV.fsl (List.map (AV.int .i64) v39.dashes),AV.int .i64 v39.paint.kind,AV.int .i64 v39.paint.first.r,AV.int .i64 v39.paint.first.g,AV.int .i64 v39.paint.first.b,AV.int .i64 v39.paint.first.a,AV.int .i64 v39.paint.last.r,AV.int .i64 v39.paint.last.g,AV.int .i64 v39.paint.last.b,AV.int .i64 v39.paint.last.a,AV.int .i64 v39.paint.from_.x,AV.int .i64 v39.paint.from_.y,AV.int .i64 v39.paint.to.x,AV.int .i64 v39.paint.to.y,AV.int .i64 v39.mode,AV.int .i64 v39.fade,AV.fsl (List.map (AV.int .i64) v39.clip.verbs),AV.fsl (List.map ePoint v39.clip.points)]),(4,Ob.box [AV.osl 5 0 (List.length x44) (List.length x44)]),(5,Ob.arr 31 (List.map eNode x44) false)],6⟩
noncomputable def spec_PlaceNode_l2_X (a0:TScene) (a2:Int) (a3:Int) (v1:TScene) (v3:Int) (v39:TNode):((List TNode))→Ex×St:=fun y51=>((.exit 0),⟨[(8,AV.optr 0 0 1),(10,AV.optr 1 0 1),(14,AV.optr 2 0 1)],[(0,Ob.box [AV.nilsl]),(1,Ob.box [AV.fsl (List.map eNode v1.nodes)]),(2,Ob.box [AV.osl 3 0 (List.length y51) (List.length y51)]),(3,Ob.arr 31 (List.map eNode y51) false)],4⟩)
noncomputable def spec_PlaceNode_l3 (a0:TScene) (a2:Int) (a3:Int) (v1:TScene) (v3:Int) (v56:TNode):((Int)×(List TNode))→Option (((Int)×(List TNode)) ⊕ ((List TNode))):=fun (x60,x61) =>
  cnd (ile (List.length a0.nodes:Int) x60) (
   some (.inr x61)) (
   cnd (ieq x60 v3) (
    bnd (idx a0.nodes x60) fun v62 =>
    cnd (ieq v62.id a3) (
     cnd (ieq a3 0) (
      some (.inl ((IntKind.i64.wrap (x60 + 1)),x61))) (
      chkP ((List.length x61 + 1) * 328 ≤ 17592186044416) (
      nam ((x61 ++ [(TNode.mk v56.id a2 v56.group v56.mat v56.path v56.even v56.width v56.dashes v56.paint v56.mode v56.fade v56.clip)]):List TNode) fun l63 =>
      some (.inl ((IntKind.i64.wrap (x60 + 1)),l63))))) (
     some (.inl ((IntKind.i64.wrap (x60 + 1)),x61)))) (
    bnd (idx a0.nodes x60) fun v64 =>
    bnd (spec_l15CopyNode v64) fun v65 =>
    chkP ((List.length x61 + 1) * 328 ≤ 17592186044416) (
    nam ((x61 ++ [v65]):List TNode) fun l66 =>
    cnd (ieq v64.id a3) (
     cnd (ieq a3 0) (
      some (.inl ((IntKind.i64.wrap (x60 + 1)),l66))) (
      chkP ((List.length l66 + 1) * 328 ≤ 17592186044416) (
      nam ((l66 ++ [(TNode.mk v56.id a2 v56.group v56.mat v56.path v56.even v56.width v56.dashes v56.paint v56.mode v56.fade v56.clip)]):List TNode) fun l67 =>
      some (.inl ((IntKind.i64.wrap (x60 + 1)),l67))))) (
     some (.inl ((IntKind.i64.wrap (x60 + 1)),l66))))))
noncomputable def spec_PlaceNode_l3_S (a0:TScene) (a2:Int) (a3:Int) (v1:TScene) (v3:Int) (v56:TNode):((Int)×(List TNode))→St:=fun (x60,x61)=>⟨[(3,AV.int .i64 a3),(4,AV.optr 0 0 1),(8,AV.optr 1 0 1),(10,AV.optr 2 0 1),(11,AV.int .i64 v3),(13,AV.optr 3 0 31),(14,AV.optr 4 0 1),(15,AV.int .i64 x60)],[(0,Ob.box [AV.fsl (List.map eNode a0.nodes)]),(1,Ob.box [AV.nilsl]),(2,Ob.box [AV.fsl (List.map eNode v1.nodes)]),(3,Ob.box [AV.int .i64 v56.id,AV.int .i64 a2,AV.bool v56.group,AV.int .i64 v56.mat.a,AV.int .i64 v56.mat.b,AV.int .i64 v56.mat.c,AV.int .i64 v56.mat.d,AV.int .i64 v56.mat.e,AV.int .i64 v56.mat.f,AV.fsl (List.map (AV.int .i64) v56.path.verbs),AV.fsl (List.map ePoint v56.path.points),AV.bool v56.even,AV.int .i64 v56.width,AV.fsl (List.map (AV.int .i64) v56.dashes),AV.int .i64 v56.paint.kind,AV.int .i64 v56.paint.first.r,AV.int .i64 v56.paint.first.g,AV.int .i64 v56.paint.first.b,AV.int .i64 v56.paint.first.a,AV.int .i64 v56.paint.last.r,AV.int .i64 v56.paint.last.g,AV.int .i64 v56.paint.last.b,AV.int .i64 v56.paint.last.a,AV.int .i64 v56.paint.from_.x,AV.int .i64 v56.paint.from_.y,AV.int .i64 v56.paint.to.x,AV.int .i64 v56.paint.to.y,AV.int .i64 v56.mode,AV.int .i64 v56.fade,AV.fsl (List.map (AV.int .i64) v56.clip.verbs),AV.fsl (List.map ePoint v56.clip.points)]),(4,Ob.box [AV.osl 5 0 (List.length x61) (List.length x61)]),(5,Ob.arr 31 (List.map eNode x61) false)],6⟩
noncomputable def spec_PlaceNode_l3_X (a0:TScene) (a2:Int) (a3:Int) (v1:TScene) (v3:Int) (v56:TNode):((List TNode))→Ex×St:=fun y68=>((.exit 0),⟨[(8,AV.optr 0 0 1),(10,AV.optr 1 0 1),(14,AV.optr 2 0 1)],[(0,Ob.box [AV.nilsl]),(1,Ob.box [AV.fsl (List.map eNode v1.nodes)]),(2,Ob.box [AV.osl 3 0 (List.length y68) (List.length y68)]),(3,Ob.arr 31 (List.map eNode y68) false)],4⟩)
noncomputable def spec_PlaceNode (a0:TScene) (a1:Int) (a2:Int) (a3:Int):Option ((TScene)×(Int)) :=
  bnd (spec_l15Copy a0) fun v1 =>
  bnd (spec_SceneOk a0) fun v2 =>
  cnd v2 (
   bnd (spec_NodeAt a0 a1) fun v3 =>
   bnd (spec_NodeAt a0 a2) fun v4 =>
   cnd (ile 0 v3) (
    cnd (ieq a2 0) (
     cnd (ieq a3 0) (
      cnd (ieq a3 a1) (
       some (v1,2)) (
       bnd (idx a0.nodes v3) fun v5 =>
       bnd (spec_l15CopyNode v5) fun v6 =>
       bnd (loopI (spec_PlaceNode_l0 a0 a2 a3 v1 v3 v6) (0,[(TNode.mk v6.id a2 v6.group v6.mat v6.path v6.even v6.width v6.dashes v6.paint v6.mode v6.fade v6.clip)])) fun y18 =>
       bnd (spec_SceneOk (TScene.mk y18)) fun v19 =>
       cnd v19 (
        some ((TScene.mk y18),0)) (
        some (v1,5)))) (
      bnd (spec_NodeAt a0 a3) fun v20 =>
      cnd (ile 0 v20) (
       cnd (ieq a3 a1) (
        some (v1,2)) (
        bnd (idx a0.nodes v3) fun v21 =>
        bnd (spec_l15CopyNode v21) fun v22 =>
        bnd (loopI (spec_PlaceNode_l1 a0 a2 a3 v1 v3 v22) (0,[])) fun y34 =>
        bnd (spec_SceneOk (TScene.mk y34)) fun v35 =>
        cnd v35 (
         some ((TScene.mk y34),0)) (
         some (v1,5)))) (
       some (v1,2)))) (
     cnd (ile 0 v4) (
      bnd (idx a0.nodes v4) fun v36 =>
      cnd v36.group (
       cnd (ieq a3 0) (
        cnd (ieq a3 a1) (
         some (v1,2)) (
         bnd (spec_l15Under a0 a2 a1) fun v37 =>
         cnd v37 (
          some (v1,6)) (
          bnd (idx a0.nodes v3) fun v38 =>
          bnd (spec_l15CopyNode v38) fun v39 =>
          bnd (loopI (spec_PlaceNode_l2 a0 a2 a3 v1 v3 v39) (0,[(TNode.mk v39.id a2 v39.group v39.mat v39.path v39.even v39.width v39.dashes v39.paint v39.mode v39.fade v39.clip)])) fun y51 =>
          bnd (spec_SceneOk (TScene.mk y51)) fun v52 =>
          cnd v52 (
           some ((TScene.mk y51),0)) (
           some (v1,5))))) (
        bnd (spec_NodeAt a0 a3) fun v53 =>
        cnd (ile 0 v53) (
         cnd (ieq a3 a1) (
          some (v1,2)) (
          bnd (spec_l15Under a0 a2 a1) fun v54 =>
          cnd v54 (
           some (v1,6)) (
           bnd (idx a0.nodes v3) fun v55 =>
           bnd (spec_l15CopyNode v55) fun v56 =>
           bnd (loopI (spec_PlaceNode_l3 a0 a2 a3 v1 v3 v56) (0,[])) fun y68 =>
           bnd (spec_SceneOk (TScene.mk y68)) fun v69 =>
           cnd v69 (
            some ((TScene.mk y68),0)) (
            some (v1,5))))) (
         some (v1,2)))) (
       some (v1,2))) (
      some (v1,2)))) (
    some (v1,2))) (
   some (v1,1))
noncomputable def spec_PlaceNode_e (q:(TScene)×(Int)×(Int)×(Int)):List AV×List Ob:=([AV.agg [AV.fsl (List.map eNode q.1.nodes)],AV.int .i64 q.2.1,AV.int .i64 q.2.2.1,AV.int .i64 q.2.2.2],[])
noncomputable def spec_PlaceNode_v (q:(TScene)×(Int)×(Int)×(Int)) (r:(TScene)×(Int)):AV×List Ob:=(AV.tup [AV.agg [AV.fsl (List.map eNode r.1.nodes)],AV.int .i64 r.2],[])
noncomputable def spec_PlaceNode_x:List AV→List Ob→Option (AV×List Ob):=xOf spec_PlaceNode_e (fun q=>spec_PlaceNode q.1 q.2.1 q.2.2.1 q.2.2.2) spec_PlaceNode_v
theorem spec_PlaceNode_i:∀ a b,spec_PlaceNode_e a = spec_PlaceNode_e b→a = b:=by rintro ⟨⟨x0⟩,x1,x2,x3⟩ ⟨⟨y0⟩,y1,y2,y3⟩ h;simp [spec_PlaceNode_e] at h;simp [h]
@[simp] theorem spec_PlaceNode_k (z0:List TNode) (z1:Int) (z2:Int) (z3:Int):spec_PlaceNode_x [AV.agg [AV.fsl (List.map eNode z0)],AV.int .i64 z1,AV.int .i64 z2,AV.int .i64 z3] [] = mapR (spec_PlaceNode ⟨z0⟩ z1 z2 z3) (fun r=>(AV.tup [AV.agg [AV.fsl (List.map eNode r.1.nodes)],AV.int .i64 r.2],[])) :=
 xOf_eq spec_PlaceNode_i (⟨z0⟩,z1,z2,z3)
noncomputable def slices_Clone_int (a0:List Int):Option ((List Int)) :=
 chkP (List.length a0 * 8 ≤ 17592186044416) (
 some a0)
noncomputable def slices_Clone_int_e (q:(List Int)):List AV×List Ob:=([AV.fsl (List.map (AV.int .i64) q)],[])
noncomputable def slices_Clone_int_v (q:(List Int)) (r:(List Int)):AV×List Ob:=(AV.osl 0 0 (List.length r) (List.length r),[Ob.arr 1 (List.map (AV.int .i64) r) false])
noncomputable def slices_Clone_int_x:List AV→List Ob→Option (AV×List Ob):=xOf slices_Clone_int_e (fun q=>slices_Clone_int q) slices_Clone_int_v
theorem slices_Clone_int_i:∀ a b,slices_Clone_int_e a = slices_Clone_int_e b→a = b:=by rintro x0 y0 h;simp [slices_Clone_int_e] at h;simp [h]
@[simp] theorem slices_Clone_int_k (z0:List Int):slices_Clone_int_x [AV.fsl (List.map (AV.int .i64) z0)] [] = mapR (slices_Clone_int z0) (fun r=>(AV.osl 0 0 (List.length r) (List.length r),[Ob.arr 1 (List.map (AV.int .i64) r) false])) :=
 xOf_eq slices_Clone_int_i z0
noncomputable def slices_Clone_Point (a0:List TPoint):Option ((List TPoint)) :=
 chkP (List.length a0 * 16 ≤ 17592186044416) (
 some a0)
noncomputable def slices_Clone_Point_e (q:(List TPoint)):List AV×List Ob:=([AV.fsl (List.map ePoint q)],[])
noncomputable def slices_Clone_Point_v (q:(List TPoint)) (r:(List TPoint)):AV×List Ob:=(AV.osl 0 0 (List.length r) (List.length r),[Ob.arr 2 (List.map ePoint r) false])
noncomputable def slices_Clone_Point_x:List AV→List Ob→Option (AV×List Ob):=xOf slices_Clone_Point_e (fun q=>slices_Clone_Point q) slices_Clone_Point_v
theorem slices_Clone_Point_i:∀ a b,slices_Clone_Point_e a = slices_Clone_Point_e b→a = b:=by rintro x0 y0 h;simp [slices_Clone_Point_e] at h;simp [h]
@[simp] theorem slices_Clone_Point_k (z0:List TPoint):slices_Clone_Point_x [AV.fsl (List.map ePoint z0)] [] = mapR (slices_Clone_Point z0) (fun r=>(AV.osl 0 0 (List.length r) (List.length r),[Ob.arr 2 (List.map ePoint r) false])) :=
 xOf_eq slices_Clone_Point_i z0
noncomputable def impl_copyPath (a0:TPath):Option ((List Int)×(List TPoint)) :=
 bnd (slices_Clone_int a0.verbs) fun v1 =>
 bnd (slices_Clone_Point a0.points) fun v2 =>
 some (v1,v2)
noncomputable def impl_copyPath_e (q:(TPath)):List AV×List Ob:=([AV.agg [AV.fsl (List.map (AV.int .i64) q.verbs),AV.fsl (List.map ePoint q.points)]],[])
noncomputable def impl_copyPath_v (q:(TPath)) (r:(List Int)×(List TPoint)):AV×List Ob:=(AV.agg [AV.osl 0 0 (List.length r.1) (List.length r.1),AV.osl 1 0 (List.length r.2) (List.length r.2)],[Ob.arr 1 (List.map (AV.int .i64) r.1) false,Ob.arr 2 (List.map ePoint r.2) false])
noncomputable def impl_copyPath_x:List AV→List Ob→Option (AV×List Ob):=xOf impl_copyPath_e (fun q=>impl_copyPath q) impl_copyPath_v
theorem impl_copyPath_i:∀ a b,impl_copyPath_e a = impl_copyPath_e b→a = b:=by rintro ⟨x0,x1⟩ ⟨y0,y1⟩ h;simp [impl_copyPath_e] at h;simp [h]
@[simp] theorem impl_copyPath_k (z0:List Int) (z1:List TPoint):impl_copyPath_x [AV.agg [AV.fsl (List.map (AV.int .i64) z0),AV.fsl (List.map ePoint z1)]] [] = mapR (impl_copyPath ⟨z0,z1⟩) (fun r=>(AV.agg [AV.osl 0 0 (List.length r.1) (List.length r.1),AV.osl 1 0 (List.length r.2) (List.length r.2)],[Ob.arr 1 (List.map (AV.int .i64) r.1) false,Ob.arr 2 (List.map ePoint r.2) false])) :=
 xOf_eq impl_copyPath_i ⟨z0,z1⟩
noncomputable def impl_copyNode (a0:TNode):Option ((Int)×(Int)×(Bool)×(TMat)×(Bool)×(Int)×(TPaint)×(Int)×(Int)×(List Int)×(List TPoint)×(List Int)×(List Int)×(List TPoint)) :=
 bnd (impl_copyPath a0.path) fun (w2,w3) =>
 bnd (impl_copyPath a0.clip) fun (w5,w6) =>
 bnd (slices_Clone_int a0.dashes) fun v7 =>
 some (a0.id,a0.parent,a0.group,a0.mat,a0.even,a0.width,a0.paint,a0.mode,a0.fade,w2,w3,v7,w5,w6)
noncomputable def impl_copyNode_e (q:(TNode)):List AV×List Ob:=([AV.agg [AV.int .i64 q.id,AV.int .i64 q.parent,AV.bool q.group,AV.int .i64 q.mat.a,AV.int .i64 q.mat.b,AV.int .i64 q.mat.c,AV.int .i64 q.mat.d,AV.int .i64 q.mat.e,AV.int .i64 q.mat.f,AV.fsl (List.map (AV.int .i64) q.path.verbs),AV.fsl (List.map ePoint q.path.points),AV.bool q.even,AV.int .i64 q.width,AV.fsl (List.map (AV.int .i64) q.dashes),AV.int .i64 q.paint.kind,AV.int .i64 q.paint.first.r,AV.int .i64 q.paint.first.g,AV.int .i64 q.paint.first.b,AV.int .i64 q.paint.first.a,AV.int .i64 q.paint.last.r,AV.int .i64 q.paint.last.g,AV.int .i64 q.paint.last.b,AV.int .i64 q.paint.last.a,AV.int .i64 q.paint.from_.x,AV.int .i64 q.paint.from_.y,AV.int .i64 q.paint.to.x,AV.int .i64 q.paint.to.y,AV.int .i64 q.mode,AV.int .i64 q.fade,AV.fsl (List.map (AV.int .i64) q.clip.verbs),AV.fsl (List.map ePoint q.clip.points)]],[])
noncomputable def impl_copyNode_v (q:(TNode)) (r:(Int)×(Int)×(Bool)×(TMat)×(Bool)×(Int)×(TPaint)×(Int)×(Int)×(List Int)×(List TPoint)×(List Int)×(List Int)×(List TPoint)):AV×List Ob:=(AV.agg [AV.int .i64 r.1,AV.int .i64 r.2.1,AV.bool r.2.2.1,AV.int .i64 r.2.2.2.1.a,AV.int .i64 r.2.2.2.1.b,AV.int .i64 r.2.2.2.1.c,AV.int .i64 r.2.2.2.1.d,AV.int .i64 r.2.2.2.1.e,AV.int .i64 r.2.2.2.1.f,AV.osl 0 0 (List.length r.2.2.2.2.2.2.2.2.2.1) (List.length r.2.2.2.2.2.2.2.2.2.1),AV.osl 1 0 (List.length r.2.2.2.2.2.2.2.2.2.2.1) (List.length r.2.2.2.2.2.2.2.2.2.2.1),AV.bool r.2.2.2.2.1,AV.int .i64 r.2.2.2.2.2.1,AV.osl 2 0 (List.length r.2.2.2.2.2.2.2.2.2.2.2.1) (List.length r.2.2.2.2.2.2.2.2.2.2.2.1),AV.int .i64 r.2.2.2.2.2.2.1.kind,AV.int .i64 r.2.2.2.2.2.2.1.first.r,AV.int .i64 r.2.2.2.2.2.2.1.first.g,AV.int .i64 r.2.2.2.2.2.2.1.first.b,AV.int .i64 r.2.2.2.2.2.2.1.first.a,AV.int .i64 r.2.2.2.2.2.2.1.last.r,AV.int .i64 r.2.2.2.2.2.2.1.last.g,AV.int .i64 r.2.2.2.2.2.2.1.last.b,AV.int .i64 r.2.2.2.2.2.2.1.last.a,AV.int .i64 r.2.2.2.2.2.2.1.from_.x,AV.int .i64 r.2.2.2.2.2.2.1.from_.y,AV.int .i64 r.2.2.2.2.2.2.1.to.x,AV.int .i64 r.2.2.2.2.2.2.1.to.y,AV.int .i64 r.2.2.2.2.2.2.2.1,AV.int .i64 r.2.2.2.2.2.2.2.2.1,AV.osl 3 0 (List.length r.2.2.2.2.2.2.2.2.2.2.2.2.1) (List.length r.2.2.2.2.2.2.2.2.2.2.2.2.1),AV.osl 4 0 (List.length r.2.2.2.2.2.2.2.2.2.2.2.2.2) (List.length r.2.2.2.2.2.2.2.2.2.2.2.2.2)],[Ob.arr 1 (List.map (AV.int .i64) r.2.2.2.2.2.2.2.2.2.1) false,Ob.arr 2 (List.map ePoint r.2.2.2.2.2.2.2.2.2.2.1) false,Ob.arr 1 (List.map (AV.int .i64) r.2.2.2.2.2.2.2.2.2.2.2.1) false,Ob.arr 1 (List.map (AV.int .i64) r.2.2.2.2.2.2.2.2.2.2.2.2.1) false,Ob.arr 2 (List.map ePoint r.2.2.2.2.2.2.2.2.2.2.2.2.2) false])
noncomputable def impl_copyNode_x:List AV→List Ob→Option (AV×List Ob):=xOf impl_copyNode_e (fun q=>impl_copyNode q) impl_copyNode_v
theorem impl_copyNode_i:∀ a b,impl_copyNode_e a = impl_copyNode_e b→a = b:=by rintro ⟨x0,x1,x2,⟨x3,x4,x5,x6,x7,x8⟩,⟨x9,x10⟩,x11,x12,x13,⟨x14,⟨x15,x16,x17,x18⟩,⟨x19,x20,x21,x22⟩,⟨x23,x24⟩,⟨x25,x26⟩⟩,x27,x28,⟨x29,x30⟩⟩ ⟨y0,y1,y2,⟨y3,y4,y5,y6,y7,y8⟩,⟨y9,y10⟩,y11,y12,y13,⟨y14,⟨y15,y16,y17,y18⟩,⟨y19,y20,y21,y22⟩,⟨y23,y24⟩,⟨y25,y26⟩⟩,y27,y28,⟨y29,y30⟩⟩ h;simp [impl_copyNode_e] at h;simp [h]
@[simp] theorem impl_copyNode_k (z0:Int) (z1:Int) (z2:Bool) (z3:Int) (z4:Int) (z5:Int) (z6:Int) (z7:Int) (z8:Int) (z9:List Int) (z10:List TPoint) (z11:Bool) (z12:Int) (z13:List Int) (z14:Int) (z15:Int) (z16:Int) (z17:Int) (z18:Int) (z19:Int) (z20:Int) (z21:Int) (z22:Int) (z23:Int) (z24:Int) (z25:Int) (z26:Int) (z27:Int) (z28:Int) (z29:List Int) (z30:List TPoint):impl_copyNode_x [AV.agg [AV.int .i64 z0,AV.int .i64 z1,AV.bool z2,AV.int .i64 z3,AV.int .i64 z4,AV.int .i64 z5,AV.int .i64 z6,AV.int .i64 z7,AV.int .i64 z8,AV.fsl (List.map (AV.int .i64) z9),AV.fsl (List.map ePoint z10),AV.bool z11,AV.int .i64 z12,AV.fsl (List.map (AV.int .i64) z13),AV.int .i64 z14,AV.int .i64 z15,AV.int .i64 z16,AV.int .i64 z17,AV.int .i64 z18,AV.int .i64 z19,AV.int .i64 z20,AV.int .i64 z21,AV.int .i64 z22,AV.int .i64 z23,AV.int .i64 z24,AV.int .i64 z25,AV.int .i64 z26,AV.int .i64 z27,AV.int .i64 z28,AV.fsl (List.map (AV.int .i64) z29),AV.fsl (List.map ePoint z30)]] [] = mapR (impl_copyNode ⟨z0,z1,z2,⟨z3,z4,z5,z6,z7,z8⟩,⟨z9,z10⟩,z11,z12,z13,⟨z14,⟨z15,z16,z17,z18⟩,⟨z19,z20,z21,z22⟩,⟨z23,z24⟩,⟨z25,z26⟩⟩,z27,z28,⟨z29,z30⟩⟩) (fun r=>(AV.agg [AV.int .i64 r.1,AV.int .i64 r.2.1,AV.bool r.2.2.1,AV.int .i64 r.2.2.2.1.a,AV.int .i64 r.2.2.2.1.b,AV.int .i64 r.2.2.2.1.c,AV.int .i64 r.2.2.2.1.d,AV.int .i64 r.2.2.2.1.e,AV.int .i64 r.2.2.2.1.f,AV.osl 0 0 (List.length r.2.2.2.2.2.2.2.2.2.1) (List.length r.2.2.2.2.2.2.2.2.2.1),AV.osl 1 0 (List.length r.2.2.2.2.2.2.2.2.2.2.1) (List.length r.2.2.2.2.2.2.2.2.2.2.1),AV.bool r.2.2.2.2.1,AV.int .i64 r.2.2.2.2.2.1,AV.osl 2 0 (List.length r.2.2.2.2.2.2.2.2.2.2.2.1) (List.length r.2.2.2.2.2.2.2.2.2.2.2.1),AV.int .i64 r.2.2.2.2.2.2.1.kind,AV.int .i64 r.2.2.2.2.2.2.1.first.r,AV.int .i64 r.2.2.2.2.2.2.1.first.g,AV.int .i64 r.2.2.2.2.2.2.1.first.b,AV.int .i64 r.2.2.2.2.2.2.1.first.a,AV.int .i64 r.2.2.2.2.2.2.1.last.r,AV.int .i64 r.2.2.2.2.2.2.1.last.g,AV.int .i64 r.2.2.2.2.2.2.1.last.b,AV.int .i64 r.2.2.2.2.2.2.1.last.a,AV.int .i64 r.2.2.2.2.2.2.1.from_.x,AV.int .i64 r.2.2.2.2.2.2.1.from_.y,AV.int .i64 r.2.2.2.2.2.2.1.to.x,AV.int .i64 r.2.2.2.2.2.2.1.to.y,AV.int .i64 r.2.2.2.2.2.2.2.1,AV.int .i64 r.2.2.2.2.2.2.2.2.1,AV.osl 3 0 (List.length r.2.2.2.2.2.2.2.2.2.2.2.2.1) (List.length r.2.2.2.2.2.2.2.2.2.2.2.2.1),AV.osl 4 0 (List.length r.2.2.2.2.2.2.2.2.2.2.2.2.2) (List.length r.2.2.2.2.2.2.2.2.2.2.2.2.2)],[Ob.arr 1 (List.map (AV.int .i64) r.2.2.2.2.2.2.2.2.2.1) false,Ob.arr 2 (List.map ePoint r.2.2.2.2.2.2.2.2.2.2.1) false,Ob.arr 1 (List.map (AV.int .i64) r.2.2.2.2.2.2.2.2.2.2.2.1) false,Ob.arr 1 (List.map (AV.int .i64) r.2.2.2.2.2.2.2.2.2.2.2.2.1) false,Ob.arr 2 (List.map ePoint r.2.2.2.2.2.2.2.2.2.2.2.2.2) false])) :=
 xOf_eq impl_copyNode_i ⟨z0,z1,z2,⟨z3,z4,z5,z6,z7,z8⟩,⟨z9,z10⟩,z11,z12,z13,⟨z14,⟨z15,z16,z17,z18⟩,⟨z19,z20,z21,z22⟩,⟨z23,z24⟩,⟨z25,z26⟩⟩,z27,z28,⟨z29,z30⟩⟩
noncomputable def impl_copyScene_l0 (a0:TScene):((Int)×(List TNode))→Option (((Int)×(List TNode)) ⊕ ((List TNode))):=fun (x17,x18) =>
  cnd (ile (List.length a0.nodes:Int) x17) (
   some (.inr x18)) (
   bnd (idx a0.nodes x17) fun v19 =>
   bnd (impl_copyNode v19) fun (w21,w22,w23,w24,w25,w26,w27,w28,w29,w30,w31,w32,w33,w34) =>
   chkP ((List.length x18 + 1) * 328 ≤ 17592186044416) (
   some (.inl ((IntKind.i64.wrap (x17 + 1)),(x18 ++ [(TNode.mk w21 w22 w23 w24 (TPath.mk w30 w31) w25 w26 w32 w27 w28 w29 (TPath.mk w33 w34))])))))
noncomputable def impl_copyScene_l0_S (a0:TScene):((Int)×(List TNode))→St:=fun (x17,x18)=>⟨[(2,AV.optr 0 0 1),(3,AV.optr 1 0 1),(7,AV.fsl (List.map eNode a0.nodes)),(8,AV.int .i64 (List.length a0.nodes:Int)),(9,AV.int .i64 x17)],[(0,Ob.box [AV.nilsl]),(1,Ob.box [AV.osl 2 0 (List.length x18) (List.length x18)]),(2,Ob.nar 31 (List.map eNode x18) [0,0,0,0,0,0,0,0,0,1,2,0,0,1,0,0,0,0,0,0,0,0,0,0,0,0,0,0,0,1,2])],3⟩
noncomputable def impl_copyScene_l0_X (a0:TScene):((List TNode))→Ex×St:=fun y35=>((.exit 0),⟨[(2,AV.optr 0 0 1),(3,AV.optr 1 0 1)],[(0,Ob.box [AV.nilsl]),(1,Ob.box [AV.osl 2 0 (List.length y35) (List.length y35)]),(2,Ob.nar 31 (List.map eNode y35) [0,0,0,0,0,0,0,0,0,1,2,0,0,1,0,0,0,0,0,0,0,0,0,0,0,0,0,0,0,1,2])],3⟩)
noncomputable def impl_copyScene (a0:TScene):Option ((List TNode)) :=
 bnd (loopI (impl_copyScene_l0 a0) (0,[])) fun y35 =>
 some y35
noncomputable def impl_copyScene_e (q:(TScene)):List AV×List Ob:=([AV.agg [AV.fsl (List.map eNode q.nodes)]],[])
noncomputable def impl_copyScene_v (q:(TScene)) (r:(List TNode)):AV×List Ob:=(AV.agg [AV.osl 0 0 (List.length r) (List.length r)],[Ob.nar 31 (List.map eNode r) [0,0,0,0,0,0,0,0,0,1,2,0,0,1,0,0,0,0,0,0,0,0,0,0,0,0,0,0,0,1,2]])
noncomputable def impl_copyScene_x:List AV→List Ob→Option (AV×List Ob):=xOf impl_copyScene_e (fun q=>impl_copyScene q) impl_copyScene_v
theorem impl_copyScene_i:∀ a b,impl_copyScene_e a = impl_copyScene_e b→a = b:=by rintro ⟨x0⟩ ⟨y0⟩ h;simp [impl_copyScene_e] at h;simp [h]
@[simp] theorem impl_copyScene_k (z0:List TNode):impl_copyScene_x [AV.agg [AV.fsl (List.map eNode z0)]] [] = mapR (impl_copyScene ⟨z0⟩) (fun r=>(AV.agg [AV.osl 0 0 (List.length r) (List.length r)],[Ob.nar 31 (List.map eNode r) [0,0,0,0,0,0,0,0,0,1,2,0,0,1,0,0,0,0,0,0,0,0,0,0,0,0,0,0,0,1,2]])) :=
 xOf_eq impl_copyScene_i ⟨z0⟩
noncomputable def impl_inRange (a0:Int) (a1:Int) (a2:Int):Option ((Bool)) :=
  cnd (ile a1 a0) (
   some (ile a0 a2)) (
   some false)
noncomputable def impl_inRange_e (q:(Int)×(Int)×(Int)):List AV×List Ob:=([AV.int .i64 q.1,AV.int .i64 q.2.1,AV.int .i64 q.2.2],[])
noncomputable def impl_inRange_v (q:(Int)×(Int)×(Int)) (r:(Bool)):AV×List Ob:=(AV.bool r,[])
noncomputable def impl_inRange_x:List AV→List Ob→Option (AV×List Ob):=xOf impl_inRange_e (fun q=>impl_inRange q.1 q.2.1 q.2.2) impl_inRange_v
theorem impl_inRange_i:∀ a b,impl_inRange_e a = impl_inRange_e b→a = b:=by rintro ⟨x0,x1,x2⟩ ⟨y0,y1,y2⟩ h;simp [impl_inRange_e] at h;simp [h]
@[simp] theorem impl_inRange_k (z0:Int) (z1:Int) (z2:Int):impl_inRange_x [AV.int .i64 z0,AV.int .i64 z1,AV.int .i64 z2] [] = mapR (impl_inRange z0 z1 z2) (fun r=>(AV.bool r,[])) :=
 xOf_eq impl_inRange_i (z0,z1,z2)
noncomputable def impl_isFar (a0:Int):Option ((Bool)) :=
 bnd (impl_inRange a0 (-8388608) 8388608) fun v1 =>
 some v1
noncomputable def impl_isFar_e (q:(Int)):List AV×List Ob:=([AV.int .i64 q],[])
noncomputable def impl_isFar_v (q:(Int)) (r:(Bool)):AV×List Ob:=(AV.bool r,[])
noncomputable def impl_isFar_x:List AV→List Ob→Option (AV×List Ob):=xOf impl_isFar_e (fun q=>impl_isFar q) impl_isFar_v
theorem impl_isFar_i:∀ a b,impl_isFar_e a = impl_isFar_e b→a = b:=by rintro x0 y0 h;simp [impl_isFar_e] at h;simp [h]
@[simp] theorem impl_isFar_k (z0:Int):impl_isFar_x [AV.int .i64 z0] [] = mapR (impl_isFar z0) (fun r=>(AV.bool r,[])) :=
 xOf_eq impl_isFar_i z0
noncomputable def impl_MatOk_l0 (a0:TMat):((Int))→Option (((Int)) ⊕ ((Unit) ⊕ (Unit))):=fun x2 =>
  cnd (ile 4 x2) (
   some (.inr (.inl ()))) (
   bnd (idx [a0.a,a0.b,a0.c,a0.d] x2) fun v3 =>
   bnd (impl_inRange v3 (-1048576) 1048576) fun v4 =>
   cnd v4 (
    some (.inl (IntKind.i64.wrap (x2 + 1)))) (
    some (.inr (.inr ()))))
noncomputable def impl_MatOk_l0_S (a0:TMat):((Int))→St:=fun x2=>⟨[(1,AV.optr 0 0 6),(13,AV.agg [AV.int .i64 a0.a,AV.int .i64 a0.b,AV.int .i64 a0.c,AV.int .i64 a0.d]),(14,AV.int .i64 x2)],[(0,Ob.box [AV.int .i64 a0.a,AV.int .i64 a0.b,AV.int .i64 a0.c,AV.int .i64 a0.d,AV.int .i64 a0.e,AV.int .i64 a0.f])],1⟩
noncomputable def impl_MatOk_l0_X (a0:TMat):((Unit) ⊕ (Unit))→Ex×St:=fun q=>match q with
 | .inl _=>((.exit 0),⟨[(1,AV.optr 0 0 6)],[(0,Ob.box [AV.int .i64 a0.a,AV.int .i64 a0.b,AV.int .i64 a0.c,AV.int .i64 a0.d,AV.int .i64 a0.e,AV.int .i64 a0.f])],1⟩)
 | .inr _=>(.ret,⟨[(2,AV.bool false)],[],0⟩)
noncomputable def impl_MatOk (a0:TMat):Option ((Bool)) :=
  bnd (loopI (impl_MatOk_l0 a0) 0) fun q=>match q with
  | .inl () =>
   bnd (impl_isFar a0.e) fun v5 =>
   cnd v5 (
    bnd (impl_isFar a0.f) fun v6 =>
    some v6) (
    some false)
  | .inr () =>
   some false
noncomputable def impl_MatOk_e (q:(TMat)):List AV×List Ob:=([AV.agg [AV.int .i64 q.a,AV.int .i64 q.b,AV.int .i64 q.c,AV.int .i64 q.d,AV.int .i64 q.e,AV.int .i64 q.f]],[])
noncomputable def impl_MatOk_v (q:(TMat)) (r:(Bool)):AV×List Ob:=(AV.bool r,[])
noncomputable def impl_MatOk_x:List AV→List Ob→Option (AV×List Ob):=xOf impl_MatOk_e (fun q=>impl_MatOk q) impl_MatOk_v
theorem impl_MatOk_i:∀ a b,impl_MatOk_e a = impl_MatOk_e b→a = b:=by rintro ⟨x0,x1,x2,x3,x4,x5⟩ ⟨y0,y1,y2,y3,y4,y5⟩ h;simp [impl_MatOk_e] at h;simp [h]
@[simp] theorem impl_MatOk_k (z0:Int) (z1:Int) (z2:Int) (z3:Int) (z4:Int) (z5:Int):impl_MatOk_x [AV.agg [AV.int .i64 z0,AV.int .i64 z1,AV.int .i64 z2,AV.int .i64 z3,AV.int .i64 z4,AV.int .i64 z5]] [] = mapR (impl_MatOk ⟨z0,z1,z2,z3,z4,z5⟩) (fun r=>(AV.bool r,[])) :=
 xOf_eq impl_MatOk_i ⟨z0,z1,z2,z3,z4,z5⟩
noncomputable def impl_PointOk (a0:TPoint):Option ((Bool)) :=
  bnd (impl_isFar a0.x) fun v1 =>
  cnd v1 (
   bnd (impl_isFar a0.y) fun v2 =>
   some v2) (
   some false)
noncomputable def impl_PointOk_e (q:(TPoint)):List AV×List Ob:=([AV.agg [AV.int .i64 q.x,AV.int .i64 q.y]],[])
noncomputable def impl_PointOk_v (q:(TPoint)) (r:(Bool)):AV×List Ob:=(AV.bool r,[])
noncomputable def impl_PointOk_x:List AV→List Ob→Option (AV×List Ob):=xOf impl_PointOk_e (fun q=>impl_PointOk q) impl_PointOk_v
theorem impl_PointOk_i:∀ a b,impl_PointOk_e a = impl_PointOk_e b→a = b:=by rintro ⟨x0,x1⟩ ⟨y0,y1⟩ h;simp [impl_PointOk_e] at h;simp [h]
@[simp] theorem impl_PointOk_k (z0:Int) (z1:Int):impl_PointOk_x [AV.agg [AV.int .i64 z0,AV.int .i64 z1]] [] = mapR (impl_PointOk ⟨z0,z1⟩) (fun r=>(AV.bool r,[])) :=
 xOf_eq impl_PointOk_i ⟨z0,z1⟩
noncomputable def impl_pointsOk_l0 (a0:List TPoint):((Int))→Option (((Int)) ⊕ ((Unit) ⊕ (Unit))):=fun x3 =>
  cnd (ile (List.length a0:Int) x3) (
   some (.inr (.inl ()))) (
   bnd (idx a0 x3) fun v4 =>
   bnd (impl_PointOk v4) fun v5 =>
   cnd v5 (
    some (.inl (IntKind.i64.wrap (x3 + 1)))) (
    some (.inr (.inr ()))))
noncomputable def impl_pointsOk_l0_S (a0:List TPoint):((Int))→St:=fun x3=>⟨[(5,AV.fsl (List.map ePoint a0)),(6,AV.int .i64 (List.length a0:Int)),(7,AV.int .i64 x3)],[],0⟩
noncomputable def impl_pointsOk_l0_X (a0:List TPoint):((Unit) ⊕ (Unit))→Ex×St:=fun q=>match q with
 | .inl _=>((.exit 0),⟨[],[],0⟩)
 | .inr _=>(.ret,⟨[(2,AV.bool false)],[],0⟩)
noncomputable def impl_pointsOk (a0:List TPoint):Option ((Bool)) :=
  bnd (loopI (impl_pointsOk_l0 a0) 0) fun q=>match q with
  | .inl () =>
   some true
  | .inr () =>
   some false
noncomputable def impl_pointsOk_e (q:(List TPoint)):List AV×List Ob:=([AV.fsl (List.map ePoint q)],[])
noncomputable def impl_pointsOk_v (q:(List TPoint)) (r:(Bool)):AV×List Ob:=(AV.bool r,[])
noncomputable def impl_pointsOk_x:List AV→List Ob→Option (AV×List Ob):=xOf impl_pointsOk_e (fun q=>impl_pointsOk q) impl_pointsOk_v
theorem impl_pointsOk_i:∀ a b,impl_pointsOk_e a = impl_pointsOk_e b→a = b:=by rintro x0 y0 h;simp [impl_pointsOk_e] at h;simp [h]
@[simp] theorem impl_pointsOk_k (z0:List TPoint):impl_pointsOk_x [AV.fsl (List.map ePoint z0)] [] = mapR (impl_pointsOk z0) (fun r=>(AV.bool r,[])) :=
 xOf_eq impl_pointsOk_i z0
noncomputable def impl_NeedOf (a0:Int):Option ((Int)) :=
  cnd (ieq a0 1) (
   some 1) (
   cnd (ieq a0 2) (
    some 1) (
    cnd (ieq a0 3) (
     some 2) (
     cnd (ieq a0 4) (
      some 3) (
      cnd (ieq a0 5) (
       some 0) (
       some (-1))))))
noncomputable def impl_NeedOf_e (q:(Int)):List AV×List Ob:=([AV.int .i64 q],[])
noncomputable def impl_NeedOf_v (q:(Int)) (r:(Int)):AV×List Ob:=(AV.int .i64 r,[])
noncomputable def impl_NeedOf_x:List AV→List Ob→Option (AV×List Ob):=xOf impl_NeedOf_e (fun q=>impl_NeedOf q) impl_NeedOf_v
theorem impl_NeedOf_i:∀ a b,impl_NeedOf_e a = impl_NeedOf_e b→a = b:=by rintro x0 y0 h;simp [impl_NeedOf_e] at h;simp [h]
@[simp] theorem impl_NeedOf_k (z0:Int):impl_NeedOf_x [AV.int .i64 z0] [] = mapR (impl_NeedOf z0) (fun r=>(AV.int .i64 r,[])) :=
 xOf_eq impl_NeedOf_i z0
noncomputable def impl_PathOk_l0 (a0:TPath):((Int)×(Int))→Option (((Int)×(Int)) ⊕ (((Int)) ⊕ (Unit))):=fun (x4,x5) =>
  cnd (ile (List.length a0.verbs:Int) x5) (
   some (.inr (.inl x4))) (
   bnd (idx a0.verbs x5) fun v6 =>
   bnd (impl_NeedOf v6) fun v7 =>
   cnd (ieq x5 0) (
    cnd (ile 0 v7) (
     cnd (ieq v6 1) (
      some (.inl ((IntKind.i64.wrap (x4 + v7)),(IntKind.i64.wrap (x5 + 1))))) (
      some (.inr (.inr ())))) (
     some (.inr (.inr ())))) (
    bnd (idx a0.verbs (IntKind.i64.wrap (x5 - 1))) fun v8 =>
    cnd (ile 0 v7) (
     cnd (ieq v8 5) (
      cnd (ieq v6 1) (
       some (.inl ((IntKind.i64.wrap (x4 + v7)),(IntKind.i64.wrap (x5 + 1))))) (
       some (.inr (.inr ())))) (
      some (.inl ((IntKind.i64.wrap (x4 + v7)),(IntKind.i64.wrap (x5 + 1)))))) (
     some (.inr (.inr ())))))
noncomputable def impl_PathOk_l0_S (a0:TPath):((Int)×(Int))→St:=fun (x4,x5)=>⟨[(1,AV.optr 0 0 2),(3,AV.int .i64 x4),(25,AV.fsl (List.map (AV.int .i64) a0.verbs)),(26,AV.int .i64 (List.length a0.verbs:Int)),(27,AV.int .i64 x5)],[(0,Ob.box [AV.fsl (List.map (AV.int .i64) a0.verbs),AV.fsl (List.map ePoint a0.points)])],1⟩
noncomputable def impl_PathOk_l0_X (a0:TPath):(((Int)) ⊕ (Unit))→Ex×St:=fun q=>match q with
 | .inl y9=>((.exit 0),⟨[(1,AV.optr 0 0 2),(3,AV.int .i64 y9)],[(0,Ob.box [AV.fsl (List.map (AV.int .i64) a0.verbs),AV.fsl (List.map ePoint a0.points)])],1⟩)
 | .inr _=>(.ret,⟨[(2,AV.bool false)],[],0⟩)
noncomputable def impl_PathOk (a0:TPath):Option ((Bool)) :=
  cnd (ile (List.length a0.points:Int) 24) (
   cnd (ile (List.length a0.verbs:Int) 24) (
    bnd (impl_pointsOk a0.points) fun v1 =>
    cnd v1 (
     bnd (loopI (impl_PathOk_l0 a0) (0,0)) fun q=>match q with
     | .inl y9 =>
      some (ieq y9 (List.length a0.points:Int))
     | .inr () =>
      some false) (
     some false)) (
    some false)) (
   some false)
noncomputable def impl_PathOk_e (q:(TPath)):List AV×List Ob:=([AV.agg [AV.fsl (List.map (AV.int .i64) q.verbs),AV.fsl (List.map ePoint q.points)]],[])
noncomputable def impl_PathOk_v (q:(TPath)) (r:(Bool)):AV×List Ob:=(AV.bool r,[])
noncomputable def impl_PathOk_x:List AV→List Ob→Option (AV×List Ob):=xOf impl_PathOk_e (fun q=>impl_PathOk q) impl_PathOk_v
theorem impl_PathOk_i:∀ a b,impl_PathOk_e a = impl_PathOk_e b→a = b:=by rintro ⟨x0,x1⟩ ⟨y0,y1⟩ h;simp [impl_PathOk_e] at h;simp [h]
@[simp] theorem impl_PathOk_k (z0:List Int) (z1:List TPoint):impl_PathOk_x [AV.agg [AV.fsl (List.map (AV.int .i64) z0),AV.fsl (List.map ePoint z1)]] [] = mapR (impl_PathOk ⟨z0,z1⟩) (fun r=>(AV.bool r,[])) :=
 xOf_eq impl_PathOk_i ⟨z0,z1⟩
noncomputable def impl_DashOk_l0 (a0:List Int):((Int))→Option (((Int)) ⊕ ((Unit) ⊕ (Unit))):=fun x3 =>
  cnd (ile (List.length a0:Int) x3) (
   some (.inr (.inl ()))) (
   bnd (idx a0 x3) fun v4 =>
   bnd (impl_inRange v4 1 20000) fun v5 =>
   cnd v5 (
    some (.inl (IntKind.i64.wrap (x3 + 1)))) (
    some (.inr (.inr ()))))
noncomputable def impl_DashOk_l0_S (a0:List Int):((Int))→St:=fun x3=>⟨[(0,AV.fsl (List.map (AV.int .i64) a0)),(5,AV.fsl (List.map (AV.int .i64) a0)),(6,AV.int .i64 (List.length a0:Int)),(7,AV.int .i64 x3)],[],0⟩
noncomputable def impl_DashOk_l0_X (a0:List Int):((Unit) ⊕ (Unit))→Ex×St:=fun q=>match q with
 | .inl _=>((.exit 0),⟨[(0,AV.fsl (List.map (AV.int .i64) a0))],[],0⟩)
 | .inr _=>(.ret,⟨[(2,AV.bool false)],[],0⟩)
noncomputable def impl_DashOk (a0:List Int):Option ((Bool)) :=
  bnd (loopI (impl_DashOk_l0 a0) 0) fun q=>match q with
  | .inl () =>
   cnd (ieq (Int.tmod (List.length a0:Int) 2) 0) (
    some (ile (List.length a0:Int) 4)) (
    some false)
  | .inr () =>
   some false
noncomputable def impl_DashOk_e (q:(List Int)):List AV×List Ob:=([AV.fsl (List.map (AV.int .i64) q)],[])
noncomputable def impl_DashOk_v (q:(List Int)) (r:(Bool)):AV×List Ob:=(AV.bool r,[])
noncomputable def impl_DashOk_x:List AV→List Ob→Option (AV×List Ob):=xOf impl_DashOk_e (fun q=>impl_DashOk q) impl_DashOk_v
theorem impl_DashOk_i:∀ a b,impl_DashOk_e a = impl_DashOk_e b→a = b:=by rintro x0 y0 h;simp [impl_DashOk_e] at h;simp [h]
@[simp] theorem impl_DashOk_k (z0:List Int):impl_DashOk_x [AV.fsl (List.map (AV.int .i64) z0)] [] = mapR (impl_DashOk z0) (fun r=>(AV.bool r,[])) :=
 xOf_eq impl_DashOk_i z0
noncomputable def impl_isMode (a0:Int):Option ((Bool)) :=
 bnd (impl_inRange a0 1 5) fun v1 =>
 some v1
noncomputable def impl_isMode_e (q:(Int)):List AV×List Ob:=([AV.int .i64 q],[])
noncomputable def impl_isMode_v (q:(Int)) (r:(Bool)):AV×List Ob:=(AV.bool r,[])
noncomputable def impl_isMode_x:List AV→List Ob→Option (AV×List Ob):=xOf impl_isMode_e (fun q=>impl_isMode q) impl_isMode_v
theorem impl_isMode_i:∀ a b,impl_isMode_e a = impl_isMode_e b→a = b:=by rintro x0 y0 h;simp [impl_isMode_e] at h;simp [h]
@[simp] theorem impl_isMode_k (z0:Int):impl_isMode_x [AV.int .i64 z0] [] = mapR (impl_isMode z0) (fun r=>(AV.bool r,[])) :=
 xOf_eq impl_isMode_i z0
noncomputable def impl_isByte (a0:Int):Option ((Bool)) :=
 bnd (impl_inRange a0 0 255) fun v1 =>
 some v1
noncomputable def impl_isByte_e (q:(Int)):List AV×List Ob:=([AV.int .i64 q],[])
noncomputable def impl_isByte_v (q:(Int)) (r:(Bool)):AV×List Ob:=(AV.bool r,[])
noncomputable def impl_isByte_x:List AV→List Ob→Option (AV×List Ob):=xOf impl_isByte_e (fun q=>impl_isByte q) impl_isByte_v
theorem impl_isByte_i:∀ a b,impl_isByte_e a = impl_isByte_e b→a = b:=by rintro x0 y0 h;simp [impl_isByte_e] at h;simp [h]
@[simp] theorem impl_isByte_k (z0:Int):impl_isByte_x [AV.int .i64 z0] [] = mapR (impl_isByte z0) (fun r=>(AV.bool r,[])) :=
 xOf_eq impl_isByte_i z0
noncomputable def impl_Path_isNone (a0:TPath):Option ((Bool)) :=
  cnd (ieq (List.length a0.verbs:Int) 0) (
   some (ieq (List.length a0.points:Int) 0)) (
   some false)
noncomputable def impl_Path_isNone_e (q:(TPath)):List AV×List Ob:=([AV.agg [AV.fsl (List.map (AV.int .i64) q.verbs),AV.fsl (List.map ePoint q.points)]],[])
noncomputable def impl_Path_isNone_v (q:(TPath)) (r:(Bool)):AV×List Ob:=(AV.bool r,[])
noncomputable def impl_Path_isNone_x:List AV→List Ob→Option (AV×List Ob):=xOf impl_Path_isNone_e (fun q=>impl_Path_isNone q) impl_Path_isNone_v
theorem impl_Path_isNone_i:∀ a b,impl_Path_isNone_e a = impl_Path_isNone_e b→a = b:=by rintro ⟨x0,x1⟩ ⟨y0,y1⟩ h;simp [impl_Path_isNone_e] at h;simp [h]
@[simp] theorem impl_Path_isNone_k (z0:List Int) (z1:List TPoint):impl_Path_isNone_x [AV.agg [AV.fsl (List.map (AV.int .i64) z0),AV.fsl (List.map ePoint z1)]] [] = mapR (impl_Path_isNone ⟨z0,z1⟩) (fun r=>(AV.bool r,[])) :=
 xOf_eq impl_Path_isNone_i ⟨z0,z1⟩
noncomputable def impl_ColorOk (a0:TColor):Option ((Bool)) :=
  bnd (impl_isByte a0.r) fun v1 =>
  cnd v1 (
   bnd (impl_isByte a0.g) fun v2 =>
   cnd v2 (
    bnd (impl_isByte a0.b) fun v3 =>
    cnd v3 (
     bnd (impl_isByte a0.a) fun v4 =>
     some v4) (
     some false)) (
    some false)) (
   some false)
noncomputable def impl_ColorOk_e (q:(TColor)):List AV×List Ob:=([AV.agg [AV.int .i64 q.r,AV.int .i64 q.g,AV.int .i64 q.b,AV.int .i64 q.a]],[])
noncomputable def impl_ColorOk_v (q:(TColor)) (r:(Bool)):AV×List Ob:=(AV.bool r,[])
noncomputable def impl_ColorOk_x:List AV→List Ob→Option (AV×List Ob):=xOf impl_ColorOk_e (fun q=>impl_ColorOk q) impl_ColorOk_v
theorem impl_ColorOk_i:∀ a b,impl_ColorOk_e a = impl_ColorOk_e b→a = b:=by rintro ⟨x0,x1,x2,x3⟩ ⟨y0,y1,y2,y3⟩ h;simp [impl_ColorOk_e] at h;simp [h]
@[simp] theorem impl_ColorOk_k (z0:Int) (z1:Int) (z2:Int) (z3:Int):impl_ColorOk_x [AV.agg [AV.int .i64 z0,AV.int .i64 z1,AV.int .i64 z2,AV.int .i64 z3]] [] = mapR (impl_ColorOk ⟨z0,z1,z2,z3⟩) (fun r=>(AV.bool r,[])) :=
 xOf_eq impl_ColorOk_i ⟨z0,z1,z2,z3⟩
noncomputable def impl_PaintOk (a0:TPaint):Option ((Bool)) :=
  cnd (ieq a0.kind 1) (
   bnd (impl_ColorOk a0.first) fun v1 =>
   cnd v1 (
    some (andB (decide (a0.kind = 1)) (andB (decide (a0.first.r = a0.first.r)) (andB (decide (a0.first.g = a0.first.g)) (andB (decide (a0.first.b = a0.first.b)) (andB (decide (a0.first.a = a0.first.a)) (andB (decide (a0.last.r = 0)) (andB (decide (a0.last.g = 0)) (andB (decide (a0.last.b = 0)) (andB (decide (a0.last.a = 0)) (andB (decide (a0.from_.x = 0)) (andB (decide (a0.from_.y = 0)) (andB (decide (a0.to.x = 0)) (andB (decide (a0.to.y = 0)) true)))))))))))))) (
    some false)) (
   cnd (ieq a0.kind 2) (
    bnd (impl_ColorOk a0.first) fun v2 =>
    cnd v2 (
     bnd (impl_ColorOk a0.last) fun v3 =>
     cnd v3 (
      bnd (impl_PointOk a0.from_) fun v4 =>
      cnd v4 (
       bnd (impl_PointOk a0.to) fun v5 =>
       cnd v5 (
        some (!(andB (decide (a0.from_.x = a0.to.x)) (andB (decide (a0.from_.y = a0.to.y)) true)))) (
        some false)) (
       some false)) (
      some false)) (
     some false)) (
    some false))
noncomputable def impl_PaintOk_e (q:(TPaint)):List AV×List Ob:=([AV.agg [AV.int .i64 q.kind,AV.int .i64 q.first.r,AV.int .i64 q.first.g,AV.int .i64 q.first.b,AV.int .i64 q.first.a,AV.int .i64 q.last.r,AV.int .i64 q.last.g,AV.int .i64 q.last.b,AV.int .i64 q.last.a,AV.int .i64 q.from_.x,AV.int .i64 q.from_.y,AV.int .i64 q.to.x,AV.int .i64 q.to.y]],[])
noncomputable def impl_PaintOk_v (q:(TPaint)) (r:(Bool)):AV×List Ob:=(AV.bool r,[])
noncomputable def impl_PaintOk_x:List AV→List Ob→Option (AV×List Ob):=xOf impl_PaintOk_e (fun q=>impl_PaintOk q) impl_PaintOk_v
theorem impl_PaintOk_i:∀ a b,impl_PaintOk_e a = impl_PaintOk_e b→a = b:=by rintro ⟨x0,⟨x1,x2,x3,x4⟩,⟨x5,x6,x7,x8⟩,⟨x9,x10⟩,⟨x11,x12⟩⟩ ⟨y0,⟨y1,y2,y3,y4⟩,⟨y5,y6,y7,y8⟩,⟨y9,y10⟩,⟨y11,y12⟩⟩ h;simp [impl_PaintOk_e] at h;simp [h]
@[simp] theorem impl_PaintOk_k (z0:Int) (z1:Int) (z2:Int) (z3:Int) (z4:Int) (z5:Int) (z6:Int) (z7:Int) (z8:Int) (z9:Int) (z10:Int) (z11:Int) (z12:Int):impl_PaintOk_x [AV.agg [AV.int .i64 z0,AV.int .i64 z1,AV.int .i64 z2,AV.int .i64 z3,AV.int .i64 z4,AV.int .i64 z5,AV.int .i64 z6,AV.int .i64 z7,AV.int .i64 z8,AV.int .i64 z9,AV.int .i64 z10,AV.int .i64 z11,AV.int .i64 z12]] [] = mapR (impl_PaintOk ⟨z0,⟨z1,z2,z3,z4⟩,⟨z5,z6,z7,z8⟩,⟨z9,z10⟩,⟨z11,z12⟩⟩) (fun r=>(AV.bool r,[])) :=
 xOf_eq impl_PaintOk_i ⟨z0,⟨z1,z2,z3,z4⟩,⟨z5,z6,z7,z8⟩,⟨z9,z10⟩,⟨z11,z12⟩⟩
noncomputable def impl_NodeOk (a0:TNode):Option ((Bool)) :=
  bnd (impl_inRange a0.id 1 99) fun v1 =>
  cnd v1 (
   bnd (impl_inRange a0.parent 0 99) fun v2 =>
   cnd v2 (
    cnd (ieq a0.id a0.parent) (
     some false) (
     bnd (impl_MatOk a0.mat) fun v3 =>
     cnd v3 (
      bnd (impl_PathOk a0.path) fun v4 =>
      cnd v4 (
       bnd (impl_PathOk a0.clip) fun v5 =>
       cnd v5 (
        bnd (impl_inRange a0.width 0 2048) fun v6 =>
        cnd v6 (
         bnd (impl_DashOk a0.dashes) fun v7 =>
         cnd v7 (
          bnd (impl_isMode a0.mode) fun v8 =>
          cnd v8 (
           bnd (impl_isByte a0.fade) fun v9 =>
           cnd v9 (
            cnd a0.group (
             cnd (andB (decide (a0.paint.kind = 0)) (andB (decide (a0.paint.first.r = 0)) (andB (decide (a0.paint.first.g = 0)) (andB (decide (a0.paint.first.b = 0)) (andB (decide (a0.paint.first.a = 0)) (andB (decide (a0.paint.last.r = 0)) (andB (decide (a0.paint.last.g = 0)) (andB (decide (a0.paint.last.b = 0)) (andB (decide (a0.paint.last.a = 0)) (andB (decide (a0.paint.from_.x = 0)) (andB (decide (a0.paint.from_.y = 0)) (andB (decide (a0.paint.to.x = 0)) (andB (decide (a0.paint.to.y = 0)) true))))))))))))) (
              bnd (impl_Path_isNone a0.path) fun v10 =>
              cnd v10 (
               cnd (ieq a0.width 0) (
                cnd (ieq (List.length a0.dashes:Int) 0) (
                 some (!a0.even)) (
                 some false)) (
                some false)) (
               some false)) (
              some false)) (
             bnd (impl_PaintOk a0.paint) fun v11 =>
             some v11)) (
            some false)) (
           some false)) (
          some false)) (
         some false)) (
        some false)) (
       some false)) (
      some false))) (
    some false)) (
   some false)
noncomputable def impl_NodeOk_e (q:(TNode)):List AV×List Ob:=([AV.agg [AV.int .i64 q.id,AV.int .i64 q.parent,AV.bool q.group,AV.int .i64 q.mat.a,AV.int .i64 q.mat.b,AV.int .i64 q.mat.c,AV.int .i64 q.mat.d,AV.int .i64 q.mat.e,AV.int .i64 q.mat.f,AV.fsl (List.map (AV.int .i64) q.path.verbs),AV.fsl (List.map ePoint q.path.points),AV.bool q.even,AV.int .i64 q.width,AV.fsl (List.map (AV.int .i64) q.dashes),AV.int .i64 q.paint.kind,AV.int .i64 q.paint.first.r,AV.int .i64 q.paint.first.g,AV.int .i64 q.paint.first.b,AV.int .i64 q.paint.first.a,AV.int .i64 q.paint.last.r,AV.int .i64 q.paint.last.g,AV.int .i64 q.paint.last.b,AV.int .i64 q.paint.last.a,AV.int .i64 q.paint.from_.x,AV.int .i64 q.paint.from_.y,AV.int .i64 q.paint.to.x,AV.int .i64 q.paint.to.y,AV.int .i64 q.mode,AV.int .i64 q.fade,AV.fsl (List.map (AV.int .i64) q.clip.verbs),AV.fsl (List.map ePoint q.clip.points)]],[])
noncomputable def impl_NodeOk_v (q:(TNode)) (r:(Bool)):AV×List Ob:=(AV.bool r,[])
noncomputable def impl_NodeOk_x:List AV→List Ob→Option (AV×List Ob):=xOf impl_NodeOk_e (fun q=>impl_NodeOk q) impl_NodeOk_v
theorem impl_NodeOk_i:∀ a b,impl_NodeOk_e a = impl_NodeOk_e b→a = b:=by rintro ⟨x0,x1,x2,⟨x3,x4,x5,x6,x7,x8⟩,⟨x9,x10⟩,x11,x12,x13,⟨x14,⟨x15,x16,x17,x18⟩,⟨x19,x20,x21,x22⟩,⟨x23,x24⟩,⟨x25,x26⟩⟩,x27,x28,⟨x29,x30⟩⟩ ⟨y0,y1,y2,⟨y3,y4,y5,y6,y7,y8⟩,⟨y9,y10⟩,y11,y12,y13,⟨y14,⟨y15,y16,y17,y18⟩,⟨y19,y20,y21,y22⟩,⟨y23,y24⟩,⟨y25,y26⟩⟩,y27,y28,⟨y29,y30⟩⟩ h;simp [impl_NodeOk_e] at h;simp [h]
@[simp] theorem impl_NodeOk_k (z0:Int) (z1:Int) (z2:Bool) (z3:Int) (z4:Int) (z5:Int) (z6:Int) (z7:Int) (z8:Int) (z9:List Int) (z10:List TPoint) (z11:Bool) (z12:Int) (z13:List Int) (z14:Int) (z15:Int) (z16:Int) (z17:Int) (z18:Int) (z19:Int) (z20:Int) (z21:Int) (z22:Int) (z23:Int) (z24:Int) (z25:Int) (z26:Int) (z27:Int) (z28:Int) (z29:List Int) (z30:List TPoint):impl_NodeOk_x [AV.agg [AV.int .i64 z0,AV.int .i64 z1,AV.bool z2,AV.int .i64 z3,AV.int .i64 z4,AV.int .i64 z5,AV.int .i64 z6,AV.int .i64 z7,AV.int .i64 z8,AV.fsl (List.map (AV.int .i64) z9),AV.fsl (List.map ePoint z10),AV.bool z11,AV.int .i64 z12,AV.fsl (List.map (AV.int .i64) z13),AV.int .i64 z14,AV.int .i64 z15,AV.int .i64 z16,AV.int .i64 z17,AV.int .i64 z18,AV.int .i64 z19,AV.int .i64 z20,AV.int .i64 z21,AV.int .i64 z22,AV.int .i64 z23,AV.int .i64 z24,AV.int .i64 z25,AV.int .i64 z26,AV.int .i64 z27,AV.int .i64 z28,AV.fsl (List.map (AV.int .i64) z29),AV.fsl (List.map ePoint z30)]] [] = mapR (impl_NodeOk ⟨z0,z1,z2,⟨z3,z4,z5,z6,z7,z8⟩,⟨z9,z10⟩,z11,z12,z13,⟨z14,⟨z15,z16,z17,z18⟩,⟨z19,z20,z21,z22⟩,⟨z23,z24⟩,⟨z25,z26⟩⟩,z27,z28,⟨z29,z30⟩⟩) (fun r=>(AV.bool r,[])) :=
 xOf_eq impl_NodeOk_i ⟨z0,z1,z2,⟨z3,z4,z5,z6,z7,z8⟩,⟨z9,z10⟩,z11,z12,z13,⟨z14,⟨z15,z16,z17,z18⟩,⟨z19,z20,z21,z22⟩,⟨z23,z24⟩,⟨z25,z26⟩⟩,z27,z28,⟨z29,z30⟩⟩
noncomputable def impl_NodeAt_1 (a0:TNode) (a1:Int):Option ((Bool)) :=
 some (ieq a0.id a1)
noncomputable def impl_NodeAt_1_e (q:(TNode)×(Int)):List AV×List Ob:=([AV.agg [AV.int .i64 q.1.id,AV.int .i64 q.1.parent,AV.bool q.1.group,AV.int .i64 q.1.mat.a,AV.int .i64 q.1.mat.b,AV.int .i64 q.1.mat.c,AV.int .i64 q.1.mat.d,AV.int .i64 q.1.mat.e,AV.int .i64 q.1.mat.f,AV.fsl (List.map (AV.int .i64) q.1.path.verbs),AV.fsl (List.map ePoint q.1.path.points),AV.bool q.1.even,AV.int .i64 q.1.width,AV.fsl (List.map (AV.int .i64) q.1.dashes),AV.int .i64 q.1.paint.kind,AV.int .i64 q.1.paint.first.r,AV.int .i64 q.1.paint.first.g,AV.int .i64 q.1.paint.first.b,AV.int .i64 q.1.paint.first.a,AV.int .i64 q.1.paint.last.r,AV.int .i64 q.1.paint.last.g,AV.int .i64 q.1.paint.last.b,AV.int .i64 q.1.paint.last.a,AV.int .i64 q.1.paint.from_.x,AV.int .i64 q.1.paint.from_.y,AV.int .i64 q.1.paint.to.x,AV.int .i64 q.1.paint.to.y,AV.int .i64 q.1.mode,AV.int .i64 q.1.fade,AV.fsl (List.map (AV.int .i64) q.1.clip.verbs),AV.fsl (List.map ePoint q.1.clip.points)],AV.fptr [AV.int .i64 q.2] 0],[])
noncomputable def impl_NodeAt_1_v (q:(TNode)×(Int)) (r:(Bool)):AV×List Ob:=(AV.bool r,[])
noncomputable def impl_NodeAt_1_x:List AV→List Ob→Option (AV×List Ob):=xOf impl_NodeAt_1_e (fun q=>impl_NodeAt_1 q.1 q.2) impl_NodeAt_1_v
theorem impl_NodeAt_1_i:∀ a b,impl_NodeAt_1_e a = impl_NodeAt_1_e b→a = b:=by rintro ⟨⟨x0,x1,x2,⟨x3,x4,x5,x6,x7,x8⟩,⟨x9,x10⟩,x11,x12,x13,⟨x14,⟨x15,x16,x17,x18⟩,⟨x19,x20,x21,x22⟩,⟨x23,x24⟩,⟨x25,x26⟩⟩,x27,x28,⟨x29,x30⟩⟩,x31⟩ ⟨⟨y0,y1,y2,⟨y3,y4,y5,y6,y7,y8⟩,⟨y9,y10⟩,y11,y12,y13,⟨y14,⟨y15,y16,y17,y18⟩,⟨y19,y20,y21,y22⟩,⟨y23,y24⟩,⟨y25,y26⟩⟩,y27,y28,⟨y29,y30⟩⟩,y31⟩ h;simp [impl_NodeAt_1_e] at h;simp [h]
@[simp] theorem impl_NodeAt_1_k (z0:Int) (z1:Int) (z2:Bool) (z3:Int) (z4:Int) (z5:Int) (z6:Int) (z7:Int) (z8:Int) (z9:List Int) (z10:List TPoint) (z11:Bool) (z12:Int) (z13:List Int) (z14:Int) (z15:Int) (z16:Int) (z17:Int) (z18:Int) (z19:Int) (z20:Int) (z21:Int) (z22:Int) (z23:Int) (z24:Int) (z25:Int) (z26:Int) (z27:Int) (z28:Int) (z29:List Int) (z30:List TPoint) (z31:Int):impl_NodeAt_1_x [AV.agg [AV.int .i64 z0,AV.int .i64 z1,AV.bool z2,AV.int .i64 z3,AV.int .i64 z4,AV.int .i64 z5,AV.int .i64 z6,AV.int .i64 z7,AV.int .i64 z8,AV.fsl (List.map (AV.int .i64) z9),AV.fsl (List.map ePoint z10),AV.bool z11,AV.int .i64 z12,AV.fsl (List.map (AV.int .i64) z13),AV.int .i64 z14,AV.int .i64 z15,AV.int .i64 z16,AV.int .i64 z17,AV.int .i64 z18,AV.int .i64 z19,AV.int .i64 z20,AV.int .i64 z21,AV.int .i64 z22,AV.int .i64 z23,AV.int .i64 z24,AV.int .i64 z25,AV.int .i64 z26,AV.int .i64 z27,AV.int .i64 z28,AV.fsl (List.map (AV.int .i64) z29),AV.fsl (List.map ePoint z30)],AV.fptr [AV.int .i64 z31] 0] [] = mapR (impl_NodeAt_1 ⟨z0,z1,z2,⟨z3,z4,z5,z6,z7,z8⟩,⟨z9,z10⟩,z11,z12,z13,⟨z14,⟨z15,z16,z17,z18⟩,⟨z19,z20,z21,z22⟩,⟨z23,z24⟩,⟨z25,z26⟩⟩,z27,z28,⟨z29,z30⟩⟩ z31) (fun r=>(AV.bool r,[])) :=
 xOf_eq impl_NodeAt_1_i (⟨z0,z1,z2,⟨z3,z4,z5,z6,z7,z8⟩,⟨z9,z10⟩,z11,z12,z13,⟨z14,⟨z15,z16,z17,z18⟩,⟨z19,z20,z21,z22⟩,⟨z23,z24⟩,⟨z25,z26⟩⟩,z27,z28,⟨z29,z30⟩⟩,z31)
noncomputable def slices_IndexFunc_Node_NodeAt_1_l0 (a0:List TNode) (a1:Int):((Int))→Option (((Int)) ⊕ ((Unit) ⊕ ((Int)))):=fun x3 =>
  cnd (ile (List.length a0:Int) x3) (
   some (.inr (.inl ()))) (
   bnd (idx a0 x3) fun v4 =>
   bnd (impl_NodeAt_1 v4 a1) fun v5 =>
   cnd v5 (
    some (.inr (.inr x3))) (
    some (.inl (IntKind.i64.wrap (x3 + 1)))))
noncomputable def slices_IndexFunc_Node_NodeAt_1_l0_S (a0:List TNode) (a1:Int):((Int))→St:=fun x3=>⟨[(0,AV.fsl (List.map eNode a0)),(1,AV.func (.func 49) [] [AV.fptr [AV.int .i64 a1] 0]),(7,AV.int .i64 (List.length a0:Int)),(8,AV.int .i64 x3)],[],0⟩
noncomputable def slices_IndexFunc_Node_NodeAt_1_l0_X (a0:List TNode) (a1:Int):((Unit) ⊕ ((Int)))→Ex×St:=fun q=>match q with
 | .inl _=>((.exit 0),⟨[],[],0⟩)
 | .inr y6=>(.ret,⟨[(4,AV.int .i64 y6)],[],0⟩)
noncomputable def slices_IndexFunc_Node_NodeAt_1 (a0:List TNode) (a1:Int):Option ((Int)) :=
  bnd (loopI (slices_IndexFunc_Node_NodeAt_1_l0 a0 a1) 0) fun q=>match q with
  | .inl () =>
   some (-1)
  | .inr y6 =>
   some y6
noncomputable def slices_IndexFunc_Node_NodeAt_1_e (q:(List TNode)×(Int)):List AV×List Ob:=([AV.fsl (List.map eNode q.1),AV.func (.func 49) [] [AV.fptr [AV.int .i64 q.2] 0]],[])
noncomputable def slices_IndexFunc_Node_NodeAt_1_v (q:(List TNode)×(Int)) (r:(Int)):AV×List Ob:=(AV.int .i64 r,[])
noncomputable def slices_IndexFunc_Node_NodeAt_1_x:List AV→List Ob→Option (AV×List Ob):=xOf slices_IndexFunc_Node_NodeAt_1_e (fun q=>slices_IndexFunc_Node_NodeAt_1 q.1 q.2) slices_IndexFunc_Node_NodeAt_1_v
theorem slices_IndexFunc_Node_NodeAt_1_i:∀ a b,slices_IndexFunc_Node_NodeAt_1_e a = slices_IndexFunc_Node_NodeAt_1_e b→a = b:=by rintro ⟨x0,x1⟩ ⟨y0,y1⟩ h;simp [slices_IndexFunc_Node_NodeAt_1_e] at h;simp [h]
@[simp] theorem slices_IndexFunc_Node_NodeAt_1_k (z0:List TNode) (z1:Int):slices_IndexFunc_Node_NodeAt_1_x [AV.fsl (List.map eNode z0),AV.func (.func 49) [] [AV.fptr [AV.int .i64 z1] 0]] [] = mapR (slices_IndexFunc_Node_NodeAt_1 z0 z1) (fun r=>(AV.int .i64 r,[])) :=
 xOf_eq slices_IndexFunc_Node_NodeAt_1_i (z0,z1)
noncomputable def impl_NodeAt (a0:TScene) (a1:Int):Option ((Int)) :=
 bnd (slices_IndexFunc_Node_NodeAt_1 a0.nodes a1) fun v1 =>
 some v1
noncomputable def impl_NodeAt_e (q:(TScene)×(Int)):List AV×List Ob:=([AV.agg [AV.fsl (List.map eNode q.1.nodes)],AV.int .i64 q.2],[])
noncomputable def impl_NodeAt_v (q:(TScene)×(Int)) (r:(Int)):AV×List Ob:=(AV.int .i64 r,[])
noncomputable def impl_NodeAt_x:List AV→List Ob→Option (AV×List Ob):=xOf impl_NodeAt_e (fun q=>impl_NodeAt q.1 q.2) impl_NodeAt_v
theorem impl_NodeAt_i:∀ a b,impl_NodeAt_e a = impl_NodeAt_e b→a = b:=by rintro ⟨⟨x0⟩,x1⟩ ⟨⟨y0⟩,y1⟩ h;simp [impl_NodeAt_e] at h;simp [h]
@[simp] theorem impl_NodeAt_k (z0:List TNode) (z1:Int):impl_NodeAt_x [AV.agg [AV.fsl (List.map eNode z0)],AV.int .i64 z1] [] = mapR (impl_NodeAt ⟨z0⟩ z1) (fun r=>(AV.int .i64 r,[])) :=
 xOf_eq impl_NodeAt_i (⟨z0⟩,z1)
noncomputable def impl_Scene_isParent (a0:TScene) (a1:Int):Option ((Bool)) :=
  bnd (impl_NodeAt a0 a1) fun v1 =>
  cnd (ieq a1 0) (
   some true) (
   cnd (ile 0 v1) (
    bnd (idx a0.nodes v1) fun v2 =>
    some v2.group) (
    some false))
noncomputable def impl_Scene_isParent_e (q:(TScene)×(Int)):List AV×List Ob:=([AV.fptr [AV.fsl (List.map eNode q.1.nodes)] 0,AV.int .i64 q.2],[])
noncomputable def impl_Scene_isParent_v (q:(TScene)×(Int)) (r:(Bool)):AV×List Ob:=(AV.bool r,[])
noncomputable def impl_Scene_isParent_x:List AV→List Ob→Option (AV×List Ob):=xOf impl_Scene_isParent_e (fun q=>impl_Scene_isParent q.1 q.2) impl_Scene_isParent_v
theorem impl_Scene_isParent_i:∀ a b,impl_Scene_isParent_e a = impl_Scene_isParent_e b→a = b:=by rintro ⟨⟨x0⟩,x1⟩ ⟨⟨y0⟩,y1⟩ h;simp [impl_Scene_isParent_e] at h;simp [h]
@[simp] theorem impl_Scene_isParent_k (z0:List TNode) (z1:Int):impl_Scene_isParent_x [AV.fptr [AV.fsl (List.map eNode z0)] 0,AV.int .i64 z1] [] = mapR (impl_Scene_isParent ⟨z0⟩ z1) (fun r=>(AV.bool r,[])) :=
 xOf_eq impl_Scene_isParent_i (⟨z0⟩,z1)
noncomputable def impl_DepthOf_l0 (a0:TScene):((Int)×(Int))→Option (((Int)×(Int)) ⊕ (((Int)) ⊕ (Unit))):=fun (x3,x4) =>
  cnd (ile x4 8) (
   bnd (impl_NodeAt a0 x3) fun v5 =>
   cnd (ile 0 v5) (
    bnd (idx a0.nodes v5) fun v6 =>
    cnd (ieq v6.parent 0) (
     some (.inr (.inl x4))) (
     some (.inl (v6.parent,(IntKind.i64.wrap (x4 + 1)))))) (
    some (.inr (.inl 0)))) (
   some (.inr (.inr ())))
noncomputable def impl_DepthOf_l0_S (a0:TScene):((Int)×(Int))→St:=fun (x3,x4)=>⟨[(1,AV.int .i64 x3),(2,AV.optr 0 0 1),(5,AV.int .i64 x4)],[(0,Ob.box [AV.fsl (List.map eNode a0.nodes)])],1⟩
noncomputable def impl_DepthOf_l0_X (a0:TScene):(((Int)) ⊕ (Unit))→Ex×St:=fun q=>match q with
 | .inl y7=>(.ret,⟨[(4,AV.int .i64 y7)],[],0⟩)
 | .inr _=>((.exit 0),⟨[],[],0⟩)
noncomputable def impl_DepthOf (a0:TScene) (a1:Int):Option ((Int)) :=
  cnd (ieq a1 0) (
   some 0) (
   bnd (loopI (impl_DepthOf_l0 a0) (a1,1)) fun q=>match q with
   | .inl y7 =>
    some y7
   | .inr () =>
    some 0)
noncomputable def impl_DepthOf_e (q:(TScene)×(Int)):List AV×List Ob:=([AV.agg [AV.fsl (List.map eNode q.1.nodes)],AV.int .i64 q.2],[])
noncomputable def impl_DepthOf_v (q:(TScene)×(Int)) (r:(Int)):AV×List Ob:=(AV.int .i64 r,[])
noncomputable def impl_DepthOf_x:List AV→List Ob→Option (AV×List Ob):=xOf impl_DepthOf_e (fun q=>impl_DepthOf q.1 q.2) impl_DepthOf_v
theorem impl_DepthOf_i:∀ a b,impl_DepthOf_e a = impl_DepthOf_e b→a = b:=by rintro ⟨⟨x0⟩,x1⟩ ⟨⟨y0⟩,y1⟩ h;simp [impl_DepthOf_e] at h;simp [h]
@[simp] theorem impl_DepthOf_k (z0:List TNode) (z1:Int):impl_DepthOf_x [AV.agg [AV.fsl (List.map eNode z0)],AV.int .i64 z1] [] = mapR (impl_DepthOf ⟨z0⟩ z1) (fun r=>(AV.int .i64 r,[])) :=
 xOf_eq impl_DepthOf_i (⟨z0⟩,z1)
noncomputable def impl_SceneOk_l0 (a0:TScene):((Int))→Option (((Int)) ⊕ ((Unit) ⊕ (Unit))):=fun x7 =>
  cnd (ile (List.length a0.nodes:Int) x7) (
   some (.inr (.inl ()))) (
   bnd (idx a0.nodes x7) fun v8 =>
   bnd (impl_NodeOk v8) fun v9 =>
   cnd v9 (
    bnd (impl_NodeAt a0 v8.id) fun v10 =>
    cnd (ieq v10 x7) (
     bnd (impl_Scene_isParent a0 v8.parent) fun v11 =>
     cnd v11 (
      bnd (impl_DepthOf a0 v8.id) fun v12 =>
      bnd (impl_inRange v12 1 4) fun v13 =>
      cnd v13 (
       some (.inl (IntKind.i64.wrap (x7 + 1)))) (
       some (.inr (.inr ())))) (
      some (.inr (.inr ())))) (
     some (.inr (.inr ())))) (
    some (.inr (.inr ()))))
noncomputable def impl_SceneOk_l0_S (a0:TScene):((Int))→St:=fun x7=>⟨[(1,AV.optr 0 0 1),(10,AV.fsl (List.map eNode a0.nodes)),(11,AV.int .i64 (List.length a0.nodes:Int)),(12,AV.int .i64 x7)],[(0,Ob.box [AV.fsl (List.map eNode a0.nodes)])],1⟩
noncomputable def impl_SceneOk_l0_X (a0:TScene):((Unit) ⊕ (Unit))→Ex×St:=fun q=>match q with
 | .inl _=>((.exit 0),⟨[],[],0⟩)
 | .inr _=>(.ret,⟨[(2,AV.bool false)],[],0⟩)
noncomputable def impl_SceneOk (a0:TScene):Option ((Bool)) :=
  cnd (ile (List.length a0.nodes:Int) 8) (
   bnd (loopI (impl_SceneOk_l0 a0) 0) fun q=>match q with
   | .inl () =>
    some true
   | .inr () =>
    some false) (
   some false)
noncomputable def impl_SceneOk_e (q:(TScene)):List AV×List Ob:=([AV.agg [AV.fsl (List.map eNode q.nodes)]],[])
noncomputable def impl_SceneOk_v (q:(TScene)) (r:(Bool)):AV×List Ob:=(AV.bool r,[])
noncomputable def impl_SceneOk_x:List AV→List Ob→Option (AV×List Ob):=xOf impl_SceneOk_e (fun q=>impl_SceneOk q) impl_SceneOk_v
theorem impl_SceneOk_i:∀ a b,impl_SceneOk_e a = impl_SceneOk_e b→a = b:=by rintro ⟨x0⟩ ⟨y0⟩ h;simp [impl_SceneOk_e] at h;simp [h]
@[simp] theorem impl_SceneOk_k (z0:List TNode):impl_SceneOk_x [AV.agg [AV.fsl (List.map eNode z0)]] [] = mapR (impl_SceneOk ⟨z0⟩) (fun r=>(AV.bool r,[])) :=
 xOf_eq impl_SceneOk_i ⟨z0⟩
noncomputable def impl_Scene_isPlace (a0:TScene) (a1:Int) (a2:Int) (a3:Int):Option ((Bool)) :=
  bnd (impl_NodeAt a0 a1) fun v1 =>
  cnd (ile 0 v1) (
   bnd (impl_Scene_isParent a0 a2) fun v2 =>
   cnd v2 (
    cnd (ieq a3 0) (
     some true) (
     cnd (ieq a3 a1) (
      some false) (
      bnd (impl_NodeAt a0 a3) fun v3 =>
      some (ile 0 v3)))) (
    some false)) (
   some false)
noncomputable def impl_Scene_isPlace_e (q:(TScene)×(Int)×(Int)×(Int)):List AV×List Ob:=([AV.fptr [AV.fsl (List.map eNode q.1.nodes)] 0,AV.int .i64 q.2.1,AV.int .i64 q.2.2.1,AV.int .i64 q.2.2.2],[])
noncomputable def impl_Scene_isPlace_v (q:(TScene)×(Int)×(Int)×(Int)) (r:(Bool)):AV×List Ob:=(AV.bool r,[])
noncomputable def impl_Scene_isPlace_x:List AV→List Ob→Option (AV×List Ob):=xOf impl_Scene_isPlace_e (fun q=>impl_Scene_isPlace q.1 q.2.1 q.2.2.1 q.2.2.2) impl_Scene_isPlace_v
theorem impl_Scene_isPlace_i:∀ a b,impl_Scene_isPlace_e a = impl_Scene_isPlace_e b→a = b:=by rintro ⟨⟨x0⟩,x1,x2,x3⟩ ⟨⟨y0⟩,y1,y2,y3⟩ h;simp [impl_Scene_isPlace_e] at h;simp [h]
@[simp] theorem impl_Scene_isPlace_k (z0:List TNode) (z1:Int) (z2:Int) (z3:Int):impl_Scene_isPlace_x [AV.fptr [AV.fsl (List.map eNode z0)] 0,AV.int .i64 z1,AV.int .i64 z2,AV.int .i64 z3] [] = mapR (impl_Scene_isPlace ⟨z0⟩ z1 z2 z3) (fun r=>(AV.bool r,[])) :=
 xOf_eq impl_Scene_isPlace_i (⟨z0⟩,z1,z2,z3)
noncomputable def impl_Scene_comesTo_l0 (a0:TScene) (a2:Int):((Int)×(Int))→Option (((Int)×(Int)) ⊕ ((Int))):=fun (x3,x4) =>
  cnd (ile 8 x4) (
   some (.inr x3)) (
   bnd (impl_NodeAt a0 x3) fun v5 =>
   cnd (ieq x3 a2) (
    some (.inr x3)) (
    cnd (ile 0 v5) (
     bnd (idx a0.nodes v5) fun v6 =>
     some (.inl (v6.parent,(IntKind.i64.wrap (x4 + 1))))) (
     some (.inr x3))))
noncomputable def impl_Scene_comesTo_l0_S (a0:TScene) (a2:Int):((Int)×(Int))→St:=fun (x3,x4)=>⟨[(0,AV.fptr [AV.fsl (List.map eNode a0.nodes)] 0),(1,AV.int .i64 x3),(2,AV.int .i64 a2),(8,AV.int .i64 x4)],[],0⟩
noncomputable def impl_Scene_comesTo_l0_X (a0:TScene) (a2:Int):((Int))→Ex×St:=fun y7=>((.exit 0),⟨[(1,AV.int .i64 y7),(2,AV.int .i64 a2)],[],0⟩)
noncomputable def impl_Scene_comesTo (a0:TScene) (a1:Int) (a2:Int):Option ((Bool)) :=
 bnd (loopI (impl_Scene_comesTo_l0 a0 a2) (a1,0)) fun y7 =>
 some (ieq y7 a2)
noncomputable def impl_Scene_comesTo_e (q:(TScene)×(Int)×(Int)):List AV×List Ob:=([AV.fptr [AV.fsl (List.map eNode q.1.nodes)] 0,AV.int .i64 q.2.1,AV.int .i64 q.2.2],[])
noncomputable def impl_Scene_comesTo_v (q:(TScene)×(Int)×(Int)) (r:(Bool)):AV×List Ob:=(AV.bool r,[])
noncomputable def impl_Scene_comesTo_x:List AV→List Ob→Option (AV×List Ob):=xOf impl_Scene_comesTo_e (fun q=>impl_Scene_comesTo q.1 q.2.1 q.2.2) impl_Scene_comesTo_v
theorem impl_Scene_comesTo_i:∀ a b,impl_Scene_comesTo_e a = impl_Scene_comesTo_e b→a = b:=by rintro ⟨⟨x0⟩,x1,x2⟩ ⟨⟨y0⟩,y1,y2⟩ h;simp [impl_Scene_comesTo_e] at h;simp [h]
@[simp] theorem impl_Scene_comesTo_k (z0:List TNode) (z1:Int) (z2:Int):impl_Scene_comesTo_x [AV.fptr [AV.fsl (List.map eNode z0)] 0,AV.int .i64 z1,AV.int .i64 z2] [] = mapR (impl_Scene_comesTo ⟨z0⟩ z1 z2) (fun r=>(AV.bool r,[])) :=
 xOf_eq impl_Scene_comesTo_i (⟨z0⟩,z1,z2)
noncomputable def impl_UnderOf_l0 (a0:TScene) (a1:Int):((List Int)×(Int))→Option (((List Int)×(Int)) ⊕ ((List Int))):=fun (x4,x5) =>
  cnd (ile (List.length a0.nodes:Int) x5) (
   some (.inr x4)) (
   bnd (idx a0.nodes x5) fun v6 =>
   bnd (impl_Scene_comesTo a0 v6.id a1) fun v7 =>
   cnd v7 (
    chkP ((List.length x4 + 1) * 8 ≤ 17592186044416) (
    nam ((x4 ++ [v6.id]):List Int) fun l8 =>
    some (.inl (l8,(IntKind.i64.wrap (x5 + 1)))))) (
    some (.inl (x4,(IntKind.i64.wrap (x5 + 1))))))
noncomputable def impl_UnderOf_l0_S (a0:TScene) (a1:Int):((List Int)×(Int))→St:=fun (x4,x5)=>⟨[(1,AV.int .i64 a1),(2,AV.optr 0 0 1),(5,AV.osl 1 0 (List.length x4) (List.length x4)),(13,AV.fsl (List.map eNode a0.nodes)),(14,AV.int .i64 (List.length a0.nodes:Int)),(15,AV.int .i64 x5)],[(0,Ob.box [AV.fsl (List.map eNode a0.nodes)]),(1,Ob.arr 1 (List.map (AV.int .i64) x4) false)],2⟩
noncomputable def impl_UnderOf_l0_X (a0:TScene) (a1:Int):((List Int))→Ex×St:=fun y9=>((.exit 0),⟨[(5,AV.osl 0 0 (List.length y9) (List.length y9))],[(0,Ob.arr 1 (List.map (AV.int .i64) y9) false)],1⟩)
noncomputable def impl_UnderOf (a0:TScene) (a1:Int):Option ((List Int)) :=
  bnd (impl_NodeAt a0 a1) fun v1 =>
  cnd (ile 0 v1) (
   bnd (loopI (impl_UnderOf_l0 a0 a1) ([],0)) fun y9 =>
   some y9) (
   some [])
noncomputable def impl_UnderOf_e (q:(TScene)×(Int)):List AV×List Ob:=([AV.agg [AV.fsl (List.map eNode q.1.nodes)],AV.int .i64 q.2],[])
noncomputable def impl_UnderOf_v (q:(TScene)×(Int)) (r:(List Int)):AV×List Ob:=(AV.osl 0 0 (List.length r) (List.length r),[Ob.arr 1 (List.map (AV.int .i64) r) false])
noncomputable def impl_UnderOf_x:List AV→List Ob→Option (AV×List Ob):=xOf impl_UnderOf_e (fun q=>impl_UnderOf q.1 q.2) impl_UnderOf_v
theorem impl_UnderOf_i:∀ a b,impl_UnderOf_e a = impl_UnderOf_e b→a = b:=by rintro ⟨⟨x0⟩,x1⟩ ⟨⟨y0⟩,y1⟩ h;simp [impl_UnderOf_e] at h;simp [h]
@[simp] theorem impl_UnderOf_k (z0:List TNode) (z1:Int):impl_UnderOf_x [AV.agg [AV.fsl (List.map eNode z0)],AV.int .i64 z1] [] = mapR (impl_UnderOf ⟨z0⟩ z1) (fun r=>(AV.osl 0 0 (List.length r) (List.length r),[Ob.arr 1 (List.map (AV.int .i64) r) false])) :=
 xOf_eq impl_UnderOf_i (⟨z0⟩,z1)
noncomputable def slices_Index_int_l0 (a0:List Int) (a1:Int):((Int))→Option (((Int)) ⊕ ((Unit) ⊕ ((Int)))):=fun x2 =>
  cnd (ile (List.length a0:Int) x2) (
   some (.inr (.inl ()))) (
   bnd (idx a0 x2) fun v3 =>
   cnd (ieq a1 v3) (
    some (.inr (.inr x2))) (
    some (.inl (IntKind.i64.wrap (x2 + 1)))))
noncomputable def slices_Index_int_l0_S (a0:List Int) (a1:Int):((Int))→St:=fun x2=>⟨[(0,AV.fsl (List.map (AV.int .i64) a0)),(1,AV.int .i64 a1),(7,AV.int .i64 (List.length a0:Int)),(8,AV.int .i64 x2)],[],0⟩
noncomputable def slices_Index_int_l0_X (a0:List Int) (a1:Int):((Unit) ⊕ ((Int)))→Ex×St:=fun q=>match q with
 | .inl _=>((.exit 0),⟨[],[],0⟩)
 | .inr y4=>(.ret,⟨[(4,AV.int .i64 y4)],[],0⟩)
noncomputable def slices_Index_int (a0:List Int) (a1:Int):Option ((Int)) :=
  bnd (loopI (slices_Index_int_l0 a0 a1) 0) fun q=>match q with
  | .inl () =>
   some (-1)
  | .inr y4 =>
   some y4
noncomputable def slices_Index_int_e (q:(List Int)×(Int)):List AV×List Ob:=([AV.fsl (List.map (AV.int .i64) q.1),AV.int .i64 q.2],[])
noncomputable def slices_Index_int_v (q:(List Int)×(Int)) (r:(Int)):AV×List Ob:=(AV.int .i64 r,[])
noncomputable def slices_Index_int_x:List AV→List Ob→Option (AV×List Ob):=xOf slices_Index_int_e (fun q=>slices_Index_int q.1 q.2) slices_Index_int_v
theorem slices_Index_int_i:∀ a b,slices_Index_int_e a = slices_Index_int_e b→a = b:=by rintro ⟨x0,x1⟩ ⟨y0,y1⟩ h;simp [slices_Index_int_e] at h;simp [h]
@[simp] theorem slices_Index_int_k (z0:List Int) (z1:Int):slices_Index_int_x [AV.fsl (List.map (AV.int .i64) z0),AV.int .i64 z1] [] = mapR (slices_Index_int z0 z1) (fun r=>(AV.int .i64 r,[])) :=
 xOf_eq slices_Index_int_i (z0,z1)
noncomputable def slices_Contains_int (a0:List Int) (a1:Int):Option ((Bool)) :=
 bnd (slices_Index_int a0 a1) fun v1 =>
 some (ile 0 v1)
noncomputable def slices_Contains_int_e (q:(List Int)×(Int)):List AV×List Ob:=([AV.fsl (List.map (AV.int .i64) q.1),AV.int .i64 q.2],[])
noncomputable def slices_Contains_int_v (q:(List Int)×(Int)) (r:(Bool)):AV×List Ob:=(AV.bool r,[])
noncomputable def slices_Contains_int_x:List AV→List Ob→Option (AV×List Ob):=xOf slices_Contains_int_e (fun q=>slices_Contains_int q.1 q.2) slices_Contains_int_v
theorem slices_Contains_int_i:∀ a b,slices_Contains_int_e a = slices_Contains_int_e b→a = b:=by rintro ⟨x0,x1⟩ ⟨y0,y1⟩ h;simp [slices_Contains_int_e] at h;simp [h]
@[simp] theorem slices_Contains_int_k (z0:List Int) (z1:Int):slices_Contains_int_x [AV.fsl (List.map (AV.int .i64) z0),AV.int .i64 z1] [] = mapR (slices_Contains_int z0 z1) (fun r=>(AV.bool r,[])) :=
 xOf_eq slices_Contains_int_i (z0,z1)
noncomputable def slices_Delete_NodeR (a0:Nat) (a1:Int) (a2:Int) (a3:List TNodeR):Option ((List TNodeR)×(List TNodeR)) :=
  chkP (a0 ≤ List.length a3) (
  chkP (0 ≤ a1∧a1 ≤ a2∧a2 ≤ (a0:Int)∧(a0:Int) ≤ (a0:Int)) (
  cnd (ieq a1 a2) (
   some ((tk a0 a3),a3)) (
   bnd (slc a3 0 a1) fun v1 =>
   bnd (slc a3 a2 (a0:Int)) fun v2 =>
   chkP ((List.length v1) + List.length v2 ≤ List.length a3) (
   chkP (((List.length v1) + List.length v2) * 328 ≤ 17592186044416) (
   nam ((ovr a3 (List.length v1) v2):List TNodeR) fun l3 =>
   bnd (slc l3 0 ((List.length v1:Int) + (List.length v2:Int))) fun v4 =>
   bnd (slc l3 (List.length v4:Int) (a0:Int)) fun v5 =>
   nam ((clrL l3 (Int.toNat (List.length v4:Int)) (List.length v5) (TNodeR.mk 0 0 false (TMat.mk 0 0 0 0 0 0) (TPathR.mk none none) false 0 none (TPaint.mk 0 (TColor.mk 0 0 0 0) (TColor.mk 0 0 0 0) (TPoint.mk 0 0) (TPoint.mk 0 0)) 0 0 (TPathR.mk none none))):List TNodeR) fun l6 =>
   some (v4,l6))))))
noncomputable def slices_Delete_NodeR_e (q:(Nat)×(Int)×(Int)×(List TNodeR)):List AV×List Ob:=([AV.osl 0 0 q.1 (List.length q.2.2.2),AV.int .i64 q.2.1,AV.int .i64 q.2.2.1],[Ob.arr 31 (List.map eNodeR q.2.2.2) false])
noncomputable def slices_Delete_NodeR_v (q:(Nat)×(Int)×(Int)×(List TNodeR)) (r:(List TNodeR)×(List TNodeR)):AV×List Ob:=(AV.osl 0 0 (List.length r.1) (List.length r.2),[Ob.arr 31 (List.map eNodeR r.2) false])
noncomputable def slices_Delete_NodeR_x:List AV→List Ob→Option (AV×List Ob):=xOf slices_Delete_NodeR_e (fun q=>slices_Delete_NodeR q.1 q.2.1 q.2.2.1 q.2.2.2) slices_Delete_NodeR_v
theorem slices_Delete_NodeR_i:∀ a b,slices_Delete_NodeR_e a = slices_Delete_NodeR_e b→a = b:=by rintro ⟨x0,x1,x2,x3⟩ ⟨y0,y1,y2,y3⟩ h;simp [slices_Delete_NodeR_e] at h;simp [h]
@[simp] theorem slices_Delete_NodeR_k (z0:Nat) (z1:Int) (z2:Int) (z3:List TNodeR):slices_Delete_NodeR_x [AV.osl 0 0 z0 (List.length z3),AV.int .i64 z1,AV.int .i64 z2] [Ob.arr 31 (List.map eNodeR z3) false] = mapR (slices_Delete_NodeR z0 z1 z2 z3) (fun r=>(AV.osl 0 0 (List.length r.1) (List.length r.2),[Ob.arr 31 (List.map eNodeR r.2) false])) :=
 xOf_eq slices_Delete_NodeR_i (z0,z1,z2,z3)
noncomputable def slices_Delete_Node_n (a0:Int) (a1:Int) (a2:List Int) (a3:List TPoint) (a4:List Int) (a5:List Int) (a6:List TPoint) (a7:Int) (a8:Int) (a9:Bool) (a10:TMat) (a11:Bool) (a12:Int) (a13:TPaint) (a14:Int) (a15:Int) (a16:List TNode) (a17:List TNode):Option ((List TNode)) :=
 chkP (a0 = (List.length a16:Int)∧a1 = a0 + 1∧List.length a16 + List.length a17 + 1 ≤ 1048576) (
 some (a16 ++ a17))
noncomputable def slices_Delete_Node_n_e (q:(Int)×(Int)×(List Int)×(List TPoint)×(List Int)×(List Int)×(List TPoint)×(Int)×(Int)×(Bool)×(TMat)×(Bool)×(Int)×(TPaint)×(Int)×(Int)×(List TNode)×(List TNode)):List AV×List Ob:=([AV.osl 0 0 (List.length (q.2.2.2.2.2.2.2.2.2.2.2.2.2.2.2.2.1 ++ (TNode.mk q.2.2.2.2.2.2.2.1 q.2.2.2.2.2.2.2.2.1 q.2.2.2.2.2.2.2.2.2.1 (TMat.mk q.2.2.2.2.2.2.2.2.2.2.1.a q.2.2.2.2.2.2.2.2.2.2.1.b q.2.2.2.2.2.2.2.2.2.2.1.c q.2.2.2.2.2.2.2.2.2.2.1.d q.2.2.2.2.2.2.2.2.2.2.1.e q.2.2.2.2.2.2.2.2.2.2.1.f) (TPath.mk q.2.2.1 q.2.2.2.1) q.2.2.2.2.2.2.2.2.2.2.2.1 q.2.2.2.2.2.2.2.2.2.2.2.2.1 q.2.2.2.2.1 (TPaint.mk q.2.2.2.2.2.2.2.2.2.2.2.2.2.1.kind (TColor.mk q.2.2.2.2.2.2.2.2.2.2.2.2.2.1.first.r q.2.2.2.2.2.2.2.2.2.2.2.2.2.1.first.g q.2.2.2.2.2.2.2.2.2.2.2.2.2.1.first.b q.2.2.2.2.2.2.2.2.2.2.2.2.2.1.first.a) (TColor.mk q.2.2.2.2.2.2.2.2.2.2.2.2.2.1.last.r q.2.2.2.2.2.2.2.2.2.2.2.2.2.1.last.g q.2.2.2.2.2.2.2.2.2.2.2.2.2.1.last.b q.2.2.2.2.2.2.2.2.2.2.2.2.2.1.last.a) (TPoint.mk q.2.2.2.2.2.2.2.2.2.2.2.2.2.1.from_.x q.2.2.2.2.2.2.2.2.2.2.2.2.2.1.from_.y) (TPoint.mk q.2.2.2.2.2.2.2.2.2.2.2.2.2.1.to.x q.2.2.2.2.2.2.2.2.2.2.2.2.2.1.to.y)) q.2.2.2.2.2.2.2.2.2.2.2.2.2.2.1 q.2.2.2.2.2.2.2.2.2.2.2.2.2.2.2.1 (TPath.mk q.2.2.2.2.2.1 q.2.2.2.2.2.2.1)) :: q.2.2.2.2.2.2.2.2.2.2.2.2.2.2.2.2.2)) (List.length (q.2.2.2.2.2.2.2.2.2.2.2.2.2.2.2.2.1 ++ (TNode.mk q.2.2.2.2.2.2.2.1 q.2.2.2.2.2.2.2.2.1 q.2.2.2.2.2.2.2.2.2.1 (TMat.mk q.2.2.2.2.2.2.2.2.2.2.1.a q.2.2.2.2.2.2.2.2.2.2.1.b q.2.2.2.2.2.2.2.2.2.2.1.c q.2.2.2.2.2.2.2.2.2.2.1.d q.2.2.2.2.2.2.2.2.2.2.1.e q.2.2.2.2.2.2.2.2.2.2.1.f) (TPath.mk q.2.2.1 q.2.2.2.1) q.2.2.2.2.2.2.2.2.2.2.2.1 q.2.2.2.2.2.2.2.2.2.2.2.2.1 q.2.2.2.2.1 (TPaint.mk q.2.2.2.2.2.2.2.2.2.2.2.2.2.1.kind (TColor.mk q.2.2.2.2.2.2.2.2.2.2.2.2.2.1.first.r q.2.2.2.2.2.2.2.2.2.2.2.2.2.1.first.g q.2.2.2.2.2.2.2.2.2.2.2.2.2.1.first.b q.2.2.2.2.2.2.2.2.2.2.2.2.2.1.first.a) (TColor.mk q.2.2.2.2.2.2.2.2.2.2.2.2.2.1.last.r q.2.2.2.2.2.2.2.2.2.2.2.2.2.1.last.g q.2.2.2.2.2.2.2.2.2.2.2.2.2.1.last.b q.2.2.2.2.2.2.2.2.2.2.2.2.2.1.last.a) (TPoint.mk q.2.2.2.2.2.2.2.2.2.2.2.2.2.1.from_.x q.2.2.2.2.2.2.2.2.2.2.2.2.2.1.from_.y) (TPoint.mk q.2.2.2.2.2.2.2.2.2.2.2.2.2.1.to.x q.2.2.2.2.2.2.2.2.2.2.2.2.2.1.to.y)) q.2.2.2.2.2.2.2.2.2.2.2.2.2.2.1 q.2.2.2.2.2.2.2.2.2.2.2.2.2.2.2.1 (TPath.mk q.2.2.2.2.2.1 q.2.2.2.2.2.2.1)) :: q.2.2.2.2.2.2.2.2.2.2.2.2.2.2.2.2.2)),AV.int .i64 q.1,AV.int .i64 q.2.1],[Ob.nar 31 (List.map eNode q.2.2.2.2.2.2.2.2.2.2.2.2.2.2.2.2.1 ++ AV.agg [AV.int .i64 q.2.2.2.2.2.2.2.1,AV.int .i64 q.2.2.2.2.2.2.2.2.1,AV.bool q.2.2.2.2.2.2.2.2.2.1,AV.int .i64 q.2.2.2.2.2.2.2.2.2.2.1.a,AV.int .i64 q.2.2.2.2.2.2.2.2.2.2.1.b,AV.int .i64 q.2.2.2.2.2.2.2.2.2.2.1.c,AV.int .i64 q.2.2.2.2.2.2.2.2.2.2.1.d,AV.int .i64 q.2.2.2.2.2.2.2.2.2.2.1.e,AV.int .i64 q.2.2.2.2.2.2.2.2.2.2.1.f,AV.osl 1 0 (List.length q.2.2.1) (List.length q.2.2.1),AV.osl 2 0 (List.length q.2.2.2.1) (List.length q.2.2.2.1),AV.bool q.2.2.2.2.2.2.2.2.2.2.2.1,AV.int .i64 q.2.2.2.2.2.2.2.2.2.2.2.2.1,AV.osl 3 0 (List.length q.2.2.2.2.1) (List.length q.2.2.2.2.1),AV.int .i64 q.2.2.2.2.2.2.2.2.2.2.2.2.2.1.kind,AV.int .i64 q.2.2.2.2.2.2.2.2.2.2.2.2.2.1.first.r,AV.int .i64 q.2.2.2.2.2.2.2.2.2.2.2.2.2.1.first.g,AV.int .i64 q.2.2.2.2.2.2.2.2.2.2.2.2.2.1.first.b,AV.int .i64 q.2.2.2.2.2.2.2.2.2.2.2.2.2.1.first.a,AV.int .i64 q.2.2.2.2.2.2.2.2.2.2.2.2.2.1.last.r,AV.int .i64 q.2.2.2.2.2.2.2.2.2.2.2.2.2.1.last.g,AV.int .i64 q.2.2.2.2.2.2.2.2.2.2.2.2.2.1.last.b,AV.int .i64 q.2.2.2.2.2.2.2.2.2.2.2.2.2.1.last.a,AV.int .i64 q.2.2.2.2.2.2.2.2.2.2.2.2.2.1.from_.x,AV.int .i64 q.2.2.2.2.2.2.2.2.2.2.2.2.2.1.from_.y,AV.int .i64 q.2.2.2.2.2.2.2.2.2.2.2.2.2.1.to.x,AV.int .i64 q.2.2.2.2.2.2.2.2.2.2.2.2.2.1.to.y,AV.int .i64 q.2.2.2.2.2.2.2.2.2.2.2.2.2.2.1,AV.int .i64 q.2.2.2.2.2.2.2.2.2.2.2.2.2.2.2.1,AV.osl 4 0 (List.length q.2.2.2.2.2.1) (List.length q.2.2.2.2.2.1),AV.osl 5 0 (List.length q.2.2.2.2.2.2.1) (List.length q.2.2.2.2.2.2.1)] :: List.map eNode q.2.2.2.2.2.2.2.2.2.2.2.2.2.2.2.2.2) [0,0,0,0,0,0,0,0,0,1,2,0,0,1,0,0,0,0,0,0,0,0,0,0,0,0,0,0,0,1,2],Ob.arr 1 (List.map (AV.int .i64) q.2.2.1) false,Ob.arr 2 (List.map ePoint q.2.2.2.1) false,Ob.arr 1 (List.map (AV.int .i64) q.2.2.2.2.1) false,Ob.arr 1 (List.map (AV.int .i64) q.2.2.2.2.2.1) false,Ob.arr 2 (List.map ePoint q.2.2.2.2.2.2.1) false])
noncomputable def slices_Delete_Node_n_v (q:(Int)×(Int)×(List Int)×(List TPoint)×(List Int)×(List Int)×(List TPoint)×(Int)×(Int)×(Bool)×(TMat)×(Bool)×(Int)×(TPaint)×(Int)×(Int)×(List TNode)×(List TNode)) (r:(List TNode)):AV×List Ob:=(AV.osl 6 0 (List.length r) (List.length r),[Ob.gone (List.length q.2.2.2.2.2.2.2.2.2.2.2.2.2.2.2.2.1 + List.length q.2.2.2.2.2.2.2.2.2.2.2.2.2.2.2.2.2 + 1),Ob.arr 1 (List.map (AV.int .i64) q.2.2.1) false,Ob.arr 2 (List.map ePoint q.2.2.2.1) false,Ob.arr 1 (List.map (AV.int .i64) q.2.2.2.2.1) false,Ob.arr 1 (List.map (AV.int .i64) q.2.2.2.2.2.1) false,Ob.arr 2 (List.map ePoint q.2.2.2.2.2.2.1) false,Ob.nar 31 (List.map eNode r) [0,0,0,0,0,0,0,0,0,1,2,0,0,1,0,0,0,0,0,0,0,0,0,0,0,0,0,0,0,1,2]])
noncomputable def slices_Delete_Node_n_x:List AV→List Ob→Option (AV×List Ob):=xOf slices_Delete_Node_n_e (fun q=>slices_Delete_Node_n q.1 q.2.1 q.2.2.1 q.2.2.2.1 q.2.2.2.2.1 q.2.2.2.2.2.1 q.2.2.2.2.2.2.1 q.2.2.2.2.2.2.2.1 q.2.2.2.2.2.2.2.2.1 q.2.2.2.2.2.2.2.2.2.1 q.2.2.2.2.2.2.2.2.2.2.1 q.2.2.2.2.2.2.2.2.2.2.2.1 q.2.2.2.2.2.2.2.2.2.2.2.2.1 q.2.2.2.2.2.2.2.2.2.2.2.2.2.1 q.2.2.2.2.2.2.2.2.2.2.2.2.2.2.1 q.2.2.2.2.2.2.2.2.2.2.2.2.2.2.2.1 q.2.2.2.2.2.2.2.2.2.2.2.2.2.2.2.2.1 q.2.2.2.2.2.2.2.2.2.2.2.2.2.2.2.2.2) slices_Delete_Node_n_v
theorem slices_Delete_Node_n_i:∀ a b,slices_Delete_Node_n_e a = slices_Delete_Node_n_e b→a = b:=by rintro ⟨x0,x1,x2,x3,x4,x5,x6,x7,x8,x9,⟨x10,x11,x12,x13,x14,x15⟩,x16,x17,⟨x18,⟨x19,x20,x21,x22⟩,⟨x23,x24,x25,x26⟩,⟨x27,x28⟩,⟨x29,x30⟩⟩,x31,x32,x33,x34⟩ ⟨y0,y1,y2,y3,y4,y5,y6,y7,y8,y9,⟨y10,y11,y12,y13,y14,y15⟩,y16,y17,⟨y18,⟨y19,y20,y21,y22⟩,⟨y23,y24,y25,y26⟩,⟨y27,y28⟩,⟨y29,y30⟩⟩,y31,y32,y33,y34⟩ h;have k:=congrArg (fun q:List AV×List Ob=>match q.2 with | Ob.nar _ es _ :: _=>es | _=>[]) h;dsimp only [slices_Delete_Node_n_e] at k;obtain ⟨k1,k2,k3⟩:=split_inj3 inj_eNode (by intros;simp) (by intros;simp) k;clear k;simp at k2;simp [slices_Delete_Node_n_e] at h;simp [h,k1,k2,k3]
@[simp] theorem slices_Delete_Node_n_k (z0:Int) (z1:Int) (z2:List Int) (z3:List TPoint) (z4:List Int) (z5:List Int) (z6:List TPoint) (z7:Int) (z8:Int) (z9:Bool) (z10:Int) (z11:Int) (z12:Int) (z13:Int) (z14:Int) (z15:Int) (z16:Bool) (z17:Int) (z18:Int) (z19:Int) (z20:Int) (z21:Int) (z22:Int) (z23:Int) (z24:Int) (z25:Int) (z26:Int) (z27:Int) (z28:Int) (z29:Int) (z30:Int) (z31:Int) (z32:Int) (z33:List TNode) (z34:List TNode):slices_Delete_Node_n_x [AV.osl 0 0 (List.length (z33 ++ (TNode.mk z7 z8 z9 (TMat.mk z10 z11 z12 z13 z14 z15) (TPath.mk z2 z3) z16 z17 z4 (TPaint.mk z18 (TColor.mk z19 z20 z21 z22) (TColor.mk z23 z24 z25 z26) (TPoint.mk z27 z28) (TPoint.mk z29 z30)) z31 z32 (TPath.mk z5 z6)) :: z34)) (List.length (z33 ++ (TNode.mk z7 z8 z9 (TMat.mk z10 z11 z12 z13 z14 z15) (TPath.mk z2 z3) z16 z17 z4 (TPaint.mk z18 (TColor.mk z19 z20 z21 z22) (TColor.mk z23 z24 z25 z26) (TPoint.mk z27 z28) (TPoint.mk z29 z30)) z31 z32 (TPath.mk z5 z6)) :: z34)),AV.int .i64 z0,AV.int .i64 z1] [Ob.nar 31 (List.map eNode z33 ++ AV.agg [AV.int .i64 z7,AV.int .i64 z8,AV.bool z9,AV.int .i64 z10,AV.int .i64 z11,AV.int .i64 z12,AV.int .i64 z13,AV.int .i64 z14,AV.int .i64 z15,AV.osl 1 0 (List.length z2) (List.length z2),AV.osl 2 0 (List.length z3) (List.length z3),AV.bool z16,AV.int .i64 z17,AV.osl 3 0 (List.length z4) (List.length z4),AV.int .i64 z18,AV.int .i64 z19,AV.int .i64 z20,AV.int .i64 z21,AV.int .i64 z22,AV.int .i64 z23,AV.int .i64 z24,AV.int .i64 z25,AV.int .i64 z26,AV.int .i64 z27,AV.int .i64 z28,AV.int .i64 z29,AV.int .i64 z30,AV.int .i64 z31,AV.int .i64 z32,AV.osl 4 0 (List.length z5) (List.length z5),AV.osl 5 0 (List.length z6) (List.length z6)] :: List.map eNode z34) [0,0,0,0,0,0,0,0,0,1,2,0,0,1,0,0,0,0,0,0,0,0,0,0,0,0,0,0,0,1,2],Ob.arr 1 (List.map (AV.int .i64) z2) false,Ob.arr 2 (List.map ePoint z3) false,Ob.arr 1 (List.map (AV.int .i64) z4) false,Ob.arr 1 (List.map (AV.int .i64) z5) false,Ob.arr 2 (List.map ePoint z6) false] = mapR (slices_Delete_Node_n z0 z1 z2 z3 z4 z5 z6 z7 z8 z9 ⟨z10,z11,z12,z13,z14,z15⟩ z16 z17 ⟨z18,⟨z19,z20,z21,z22⟩,⟨z23,z24,z25,z26⟩,⟨z27,z28⟩,⟨z29,z30⟩⟩ z31 z32 z33 z34) (fun r=>(AV.osl 6 0 (List.length r) (List.length r),[Ob.gone (List.length z33 + List.length z34 + 1),Ob.arr 1 (List.map (AV.int .i64) z2) false,Ob.arr 2 (List.map ePoint z3) false,Ob.arr 1 (List.map (AV.int .i64) z4) false,Ob.arr 1 (List.map (AV.int .i64) z5) false,Ob.arr 2 (List.map ePoint z6) false,Ob.nar 31 (List.map eNode r) [0,0,0,0,0,0,0,0,0,1,2,0,0,1,0,0,0,0,0,0,0,0,0,0,0,0,0,0,0,1,2]])) :=
 xOf_eq slices_Delete_Node_n_i (z0,z1,z2,z3,z4,z5,z6,z7,z8,z9,⟨z10,z11,z12,z13,z14,z15⟩,z16,z17,⟨z18,⟨z19,z20,z21,z22⟩,⟨z23,z24,z25,z26⟩,⟨z27,z28⟩,⟨z29,z30⟩⟩,z31,z32,z33,z34)
theorem slices_Delete_Node_n_ks (z0:Int) (z1:Int) (z2:List Int) (z3:List TPoint) (z4:List Int) (z5:List Int) (z6:List TPoint) (z7:Int) (z8:Int) (z9:Bool) (z10:Int) (z11:Int) (z12:Int) (z13:Int) (z14:Int) (z15:Int) (z16:Bool) (z17:Int) (z18:Int) (z19:Int) (z20:Int) (z21:Int) (z22:Int) (z23:Int) (z24:Int) (z25:Int) (z26:Int) (z27:Int) (z28:Int) (z29:Int) (z30:Int) (z31:Int) (z32:Int) (zl:List TNode) (zi:Int) (hz:Int.toNat zi < List.length zl):slices_Delete_Node_n_x [AV.osl 0 0 (List.length zl) (List.length zl),AV.int .i64 z0,AV.int .i64 z1] [Ob.nar 31 (List.set (List.map eNode zl) (Int.toNat zi) (AV.agg [AV.int .i64 z7,AV.int .i64 z8,AV.bool z9,AV.int .i64 z10,AV.int .i64 z11,AV.int .i64 z12,AV.int .i64 z13,AV.int .i64 z14,AV.int .i64 z15,AV.osl 1 0 (List.length z2) (List.length z2),AV.osl 2 0 (List.length z3) (List.length z3),AV.bool z16,AV.int .i64 z17,AV.osl 3 0 (List.length z4) (List.length z4),AV.int .i64 z18,AV.int .i64 z19,AV.int .i64 z20,AV.int .i64 z21,AV.int .i64 z22,AV.int .i64 z23,AV.int .i64 z24,AV.int .i64 z25,AV.int .i64 z26,AV.int .i64 z27,AV.int .i64 z28,AV.int .i64 z29,AV.int .i64 z30,AV.int .i64 z31,AV.int .i64 z32,AV.osl 4 0 (List.length z5) (List.length z5),AV.osl 5 0 (List.length z6) (List.length z6)])) [0,0,0,0,0,0,0,0,0,1,2,0,0,1,0,0,0,0,0,0,0,0,0,0,0,0,0,0,0,1,2],Ob.arr 1 (List.map (AV.int .i64) z2) false,Ob.arr 2 (List.map ePoint z3) false,Ob.arr 1 (List.map (AV.int .i64) z4) false,Ob.arr 1 (List.map (AV.int .i64) z5) false,Ob.arr 2 (List.map ePoint z6) false] = mapR (slices_Delete_Node_n z0 z1 z2 z3 z4 z5 z6 z7 z8 z9 ⟨z10,z11,z12,z13,z14,z15⟩ z16 z17 ⟨z18,⟨z19,z20,z21,z22⟩,⟨z23,z24,z25,z26⟩,⟨z27,z28⟩,⟨z29,z30⟩⟩ z31 z32 (List.take (Int.toNat zi) zl) (List.drop (Int.toNat zi + 1) zl)) (fun r=>(AV.osl 6 0 (List.length r) (List.length r),[Ob.gone (List.length (List.take (Int.toNat zi) zl) + List.length (List.drop (Int.toNat zi + 1) zl) + 1),Ob.arr 1 (List.map (AV.int .i64) z2) false,Ob.arr 2 (List.map ePoint z3) false,Ob.arr 1 (List.map (AV.int .i64) z4) false,Ob.arr 1 (List.map (AV.int .i64) z5) false,Ob.arr 2 (List.map ePoint z6) false,Ob.nar 31 (List.map eNode r) [0,0,0,0,0,0,0,0,0,1,2,0,0,1,0,0,0,0,0,0,0,0,0,0,0,0,0,0,0,1,2]])):=by
 have e1:List.set (List.map eNode zl) (Int.toNat zi) (AV.agg [AV.int .i64 z7,AV.int .i64 z8,AV.bool z9,AV.int .i64 z10,AV.int .i64 z11,AV.int .i64 z12,AV.int .i64 z13,AV.int .i64 z14,AV.int .i64 z15,AV.osl 1 0 (List.length z2) (List.length z2),AV.osl 2 0 (List.length z3) (List.length z3),AV.bool z16,AV.int .i64 z17,AV.osl 3 0 (List.length z4) (List.length z4),AV.int .i64 z18,AV.int .i64 z19,AV.int .i64 z20,AV.int .i64 z21,AV.int .i64 z22,AV.int .i64 z23,AV.int .i64 z24,AV.int .i64 z25,AV.int .i64 z26,AV.int .i64 z27,AV.int .i64 z28,AV.int .i64 z29,AV.int .i64 z30,AV.int .i64 z31,AV.int .i64 z32,AV.osl 4 0 (List.length z5) (List.length z5),AV.osl 5 0 (List.length z6) (List.length z6)]) = List.map eNode (List.take (Int.toNat zi) zl) ++ AV.agg [AV.int .i64 z7,AV.int .i64 z8,AV.bool z9,AV.int .i64 z10,AV.int .i64 z11,AV.int .i64 z12,AV.int .i64 z13,AV.int .i64 z14,AV.int .i64 z15,AV.osl 1 0 (List.length z2) (List.length z2),AV.osl 2 0 (List.length z3) (List.length z3),AV.bool z16,AV.int .i64 z17,AV.osl 3 0 (List.length z4) (List.length z4),AV.int .i64 z18,AV.int .i64 z19,AV.int .i64 z20,AV.int .i64 z21,AV.int .i64 z22,AV.int .i64 z23,AV.int .i64 z24,AV.int .i64 z25,AV.int .i64 z26,AV.int .i64 z27,AV.int .i64 z28,AV.int .i64 z29,AV.int .i64 z30,AV.int .i64 z31,AV.int .i64 z32,AV.osl 4 0 (List.length z5) (List.length z5),AV.osl 5 0 (List.length z6) (List.length z6)] :: List.map eNode (List.drop (Int.toNat zi + 1) zl):=by rw [List.set_eq_take_append_cons_drop,if_pos (by simpa using hz),List.map_take,List.map_drop]
 have e2:List.length ((List.take (Int.toNat zi) zl) ++ (TNode.mk z7 z8 z9 (TMat.mk z10 z11 z12 z13 z14 z15) (TPath.mk z2 z3) z16 z17 z4 (TPaint.mk z18 (TColor.mk z19 z20 z21 z22) (TColor.mk z23 z24 z25 z26) (TPoint.mk z27 z28) (TPoint.mk z29 z30)) z31 z32 (TPath.mk z5 z6)) :: (List.drop (Int.toNat zi + 1) zl)) = List.length zl:=by simp;omega
 have k:=slices_Delete_Node_n_k z0 z1 z2 z3 z4 z5 z6 z7 z8 z9 z10 z11 z12 z13 z14 z15 z16 z17 z18 z19 z20 z21 z22 z23 z24 z25 z26 z27 z28 z29 z30 z31 z32 (List.take (Int.toNat zi) zl) (List.drop (Int.toNat zi + 1) zl)
 rw [e2] at k;rw [e1];exact k
noncomputable def slices_Insert_NodeR (a0:Nat) (a1:Int) (a2:List TNodeR) (a3:List TNodeR):Option ((List TNodeR)×(List TNodeR)) :=
  cnd (ieq a1 (a0:Int)) (
   chkP (a0 ≤ List.length a2) (
   bnd (slc a2 a1 (a0:Int)) fun v1 =>
   cnd (ieq (List.length a3:Int) 0) (
    some ((tk a0 a2),a2)) (
    cnd (ieq (a0:Int) (List.length a2:Int)) (
     chkP ((List.length a2 + List.length a3) * 328 ≤ 17592186044416) (
     nam ((a2 ++ a3):List TNodeR) fun l2 =>
     some (l2,l2))) (
     chkP (a0 + List.length a3 ≤ List.length a2) (
     chkP ((a0 + List.length a3) * 328 ≤ 17592186044416) (
     nam ((ovr a2 a0 a3):List TNodeR) fun l3 =>
     bnd (slc l3 0 ((a0:Int) + (List.length a3:Int))) fun v4 =>
     some (v4,l3))))))) (
   chkP (0 ≤ a1∧a1 < a0∧a0 ≤ List.length a2∧0 < List.length a3∧(a0 + List.length a3) * 328 ≤ 17592186044416) (
   some ((insL a2 a0 a1 a3),(insR a2 a0 a1 a3))))
noncomputable def slices_Insert_NodeR_e (q:(Nat)×(Int)×(List TNodeR)×(List TNodeR)):List AV×List Ob:=([AV.osl 0 0 q.1 (List.length q.2.2.1),AV.int .i64 q.2.1,AV.osl 1 0 (List.length q.2.2.2) (List.length q.2.2.2)],[Ob.arr 31 (List.map eNodeR q.2.2.1) false,Ob.arr 31 (List.map eNodeR q.2.2.2) false])
noncomputable def slices_Insert_NodeR_v (q:(Nat)×(Int)×(List TNodeR)×(List TNodeR)) (r:(List TNodeR)×(List TNodeR)):AV×List Ob:=(AV.osl 0 0 (List.length r.1) (List.length r.2),[Ob.arr 31 (List.map eNodeR r.2) false,Ob.arr 31 (List.map eNodeR q.2.2.2) false])
noncomputable def slices_Insert_NodeR_x:List AV→List Ob→Option (AV×List Ob):=xOf slices_Insert_NodeR_e (fun q=>slices_Insert_NodeR q.1 q.2.1 q.2.2.1 q.2.2.2) slices_Insert_NodeR_v
theorem slices_Insert_NodeR_i:∀ a b,slices_Insert_NodeR_e a = slices_Insert_NodeR_e b→a = b:=by rintro ⟨x0,x1,x2,x3⟩ ⟨y0,y1,y2,y3⟩ h;simp [slices_Insert_NodeR_e] at h;simp [h]
@[simp] theorem slices_Insert_NodeR_k (z0:Nat) (z1:Int) (z2:List TNodeR) (z3:List TNodeR):slices_Insert_NodeR_x [AV.osl 0 0 z0 (List.length z2),AV.int .i64 z1,AV.osl 1 0 (List.length z3) (List.length z3)] [Ob.arr 31 (List.map eNodeR z2) false,Ob.arr 31 (List.map eNodeR z3) false] = mapR (slices_Insert_NodeR z0 z1 z2 z3) (fun r=>(AV.osl 0 0 (List.length r.1) (List.length r.2),[Ob.arr 31 (List.map eNodeR r.2) false,Ob.arr 31 (List.map eNodeR z3) false])) :=
 xOf_eq slices_Insert_NodeR_i (z0,z1,z2,z3)
noncomputable def slices_Insert_Node_n (a0:Int) (a1:List TNode) (a2:List Int) (a3:List TPoint) (a4:List Int) (a5:List Int) (a6:List TPoint) (a7:Int) (a8:Int) (a9:Bool) (a10:TMat) (a11:Bool) (a12:Int) (a13:TPaint) (a14:Int) (a15:Int):Option ((List TNode)) :=
 chkP (0 ≤ a0∧a0 ≤ (List.length a1:Int)∧List.length a1 ≤ 1000000) (
 some (List.take (Int.toNat a0) a1 ++ (TNode.mk a7 a8 a9 (TMat.mk a10.a a10.b a10.c a10.d a10.e a10.f) (TPath.mk a2 a3) a11 a12 a4 (TPaint.mk a13.kind (TColor.mk a13.first.r a13.first.g a13.first.b a13.first.a) (TColor.mk a13.last.r a13.last.g a13.last.b a13.last.a) (TPoint.mk a13.from_.x a13.from_.y) (TPoint.mk a13.to.x a13.to.y)) a14 a15 (TPath.mk a5 a6)) :: List.drop (Int.toNat a0) a1))
noncomputable def slices_Insert_Node_n_e (q:(Int)×(List TNode)×(List Int)×(List TPoint)×(List Int)×(List Int)×(List TPoint)×(Int)×(Int)×(Bool)×(TMat)×(Bool)×(Int)×(TPaint)×(Int)×(Int)):List AV×List Ob:=([AV.osl 0 0 (List.length q.2.1) (List.length q.2.1),AV.int .i64 q.1,AV.osl 1 0 1 1],[Ob.nar 31 (List.map eNode q.2.1) [0,0,0,0,0,0,0,0,0,1,2,0,0,1,0,0,0,0,0,0,0,0,0,0,0,0,0,0,0,1,2],Ob.nar 31 ([AV.agg [AV.int .i64 q.2.2.2.2.2.2.2.1,AV.int .i64 q.2.2.2.2.2.2.2.2.1,AV.bool q.2.2.2.2.2.2.2.2.2.1,AV.int .i64 q.2.2.2.2.2.2.2.2.2.2.1.a,AV.int .i64 q.2.2.2.2.2.2.2.2.2.2.1.b,AV.int .i64 q.2.2.2.2.2.2.2.2.2.2.1.c,AV.int .i64 q.2.2.2.2.2.2.2.2.2.2.1.d,AV.int .i64 q.2.2.2.2.2.2.2.2.2.2.1.e,AV.int .i64 q.2.2.2.2.2.2.2.2.2.2.1.f,AV.osl 2 0 (List.length q.2.2.1) (List.length q.2.2.1),AV.osl 3 0 (List.length q.2.2.2.1) (List.length q.2.2.2.1),AV.bool q.2.2.2.2.2.2.2.2.2.2.2.1,AV.int .i64 q.2.2.2.2.2.2.2.2.2.2.2.2.1,AV.osl 4 0 (List.length q.2.2.2.2.1) (List.length q.2.2.2.2.1),AV.int .i64 q.2.2.2.2.2.2.2.2.2.2.2.2.2.1.kind,AV.int .i64 q.2.2.2.2.2.2.2.2.2.2.2.2.2.1.first.r,AV.int .i64 q.2.2.2.2.2.2.2.2.2.2.2.2.2.1.first.g,AV.int .i64 q.2.2.2.2.2.2.2.2.2.2.2.2.2.1.first.b,AV.int .i64 q.2.2.2.2.2.2.2.2.2.2.2.2.2.1.first.a,AV.int .i64 q.2.2.2.2.2.2.2.2.2.2.2.2.2.1.last.r,AV.int .i64 q.2.2.2.2.2.2.2.2.2.2.2.2.2.1.last.g,AV.int .i64 q.2.2.2.2.2.2.2.2.2.2.2.2.2.1.last.b,AV.int .i64 q.2.2.2.2.2.2.2.2.2.2.2.2.2.1.last.a,AV.int .i64 q.2.2.2.2.2.2.2.2.2.2.2.2.2.1.from_.x,AV.int .i64 q.2.2.2.2.2.2.2.2.2.2.2.2.2.1.from_.y,AV.int .i64 q.2.2.2.2.2.2.2.2.2.2.2.2.2.1.to.x,AV.int .i64 q.2.2.2.2.2.2.2.2.2.2.2.2.2.1.to.y,AV.int .i64 q.2.2.2.2.2.2.2.2.2.2.2.2.2.2.1,AV.int .i64 q.2.2.2.2.2.2.2.2.2.2.2.2.2.2.2,AV.osl 5 0 (List.length q.2.2.2.2.2.1) (List.length q.2.2.2.2.2.1),AV.osl 6 0 (List.length q.2.2.2.2.2.2.1) (List.length q.2.2.2.2.2.2.1)]]) [0,0,0,0,0,0,0,0,0,1,2,0,0,1,0,0,0,0,0,0,0,0,0,0,0,0,0,0,0,1,2],Ob.arr 1 (List.map (AV.int .i64) q.2.2.1) false,Ob.arr 2 (List.map ePoint q.2.2.2.1) false,Ob.arr 1 (List.map (AV.int .i64) q.2.2.2.2.1) false,Ob.arr 1 (List.map (AV.int .i64) q.2.2.2.2.2.1) false,Ob.arr 2 (List.map ePoint q.2.2.2.2.2.2.1) false])
noncomputable def slices_Insert_Node_n_v (q:(Int)×(List TNode)×(List Int)×(List TPoint)×(List Int)×(List Int)×(List TPoint)×(Int)×(Int)×(Bool)×(TMat)×(Bool)×(Int)×(TPaint)×(Int)×(Int)) (r:(List TNode)):AV×List Ob:=(AV.osl 7 0 (List.length r) (List.length r),[Ob.gone (List.length q.2.1 + 1),Ob.gone 1,Ob.gone (List.length q.2.2.1),Ob.gone (List.length q.2.2.2.1),Ob.gone (List.length q.2.2.2.2.1),Ob.gone (List.length q.2.2.2.2.2.1),Ob.gone (List.length q.2.2.2.2.2.2.1),Ob.nar 31 (List.map eNode r) [0,0,0,0,0,0,0,0,0,1,2,0,0,1,0,0,0,0,0,0,0,0,0,0,0,0,0,0,0,1,2]])
noncomputable def slices_Insert_Node_n_x:List AV→List Ob→Option (AV×List Ob):=xOf slices_Insert_Node_n_e (fun q=>slices_Insert_Node_n q.1 q.2.1 q.2.2.1 q.2.2.2.1 q.2.2.2.2.1 q.2.2.2.2.2.1 q.2.2.2.2.2.2.1 q.2.2.2.2.2.2.2.1 q.2.2.2.2.2.2.2.2.1 q.2.2.2.2.2.2.2.2.2.1 q.2.2.2.2.2.2.2.2.2.2.1 q.2.2.2.2.2.2.2.2.2.2.2.1 q.2.2.2.2.2.2.2.2.2.2.2.2.1 q.2.2.2.2.2.2.2.2.2.2.2.2.2.1 q.2.2.2.2.2.2.2.2.2.2.2.2.2.2.1 q.2.2.2.2.2.2.2.2.2.2.2.2.2.2.2) slices_Insert_Node_n_v
theorem slices_Insert_Node_n_i:∀ a b,slices_Insert_Node_n_e a = slices_Insert_Node_n_e b→a = b:=by rintro ⟨x0,x1,x2,x3,x4,x5,x6,x7,x8,x9,⟨x10,x11,x12,x13,x14,x15⟩,x16,x17,⟨x18,⟨x19,x20,x21,x22⟩,⟨x23,x24,x25,x26⟩,⟨x27,x28⟩,⟨x29,x30⟩⟩,x31,x32⟩ ⟨y0,y1,y2,y3,y4,y5,y6,y7,y8,y9,⟨y10,y11,y12,y13,y14,y15⟩,y16,y17,⟨y18,⟨y19,y20,y21,y22⟩,⟨y23,y24,y25,y26⟩,⟨y27,y28⟩,⟨y29,y30⟩⟩,y31,y32⟩ h;simp [slices_Insert_Node_n_e] at h;simp [h]
@[simp] theorem slices_Insert_Node_n_k (z0:Int) (z1:List TNode) (z2:List Int) (z3:List TPoint) (z4:List Int) (z5:List Int) (z6:List TPoint) (z7:Int) (z8:Int) (z9:Bool) (z10:Int) (z11:Int) (z12:Int) (z13:Int) (z14:Int) (z15:Int) (z16:Bool) (z17:Int) (z18:Int) (z19:Int) (z20:Int) (z21:Int) (z22:Int) (z23:Int) (z24:Int) (z25:Int) (z26:Int) (z27:Int) (z28:Int) (z29:Int) (z30:Int) (z31:Int) (z32:Int):slices_Insert_Node_n_x [AV.osl 0 0 (List.length z1) (List.length z1),AV.int .i64 z0,AV.osl 1 0 1 1] [Ob.nar 31 (List.map eNode z1) [0,0,0,0,0,0,0,0,0,1,2,0,0,1,0,0,0,0,0,0,0,0,0,0,0,0,0,0,0,1,2],Ob.nar 31 ([AV.agg [AV.int .i64 z7,AV.int .i64 z8,AV.bool z9,AV.int .i64 z10,AV.int .i64 z11,AV.int .i64 z12,AV.int .i64 z13,AV.int .i64 z14,AV.int .i64 z15,AV.osl 2 0 (List.length z2) (List.length z2),AV.osl 3 0 (List.length z3) (List.length z3),AV.bool z16,AV.int .i64 z17,AV.osl 4 0 (List.length z4) (List.length z4),AV.int .i64 z18,AV.int .i64 z19,AV.int .i64 z20,AV.int .i64 z21,AV.int .i64 z22,AV.int .i64 z23,AV.int .i64 z24,AV.int .i64 z25,AV.int .i64 z26,AV.int .i64 z27,AV.int .i64 z28,AV.int .i64 z29,AV.int .i64 z30,AV.int .i64 z31,AV.int .i64 z32,AV.osl 5 0 (List.length z5) (List.length z5),AV.osl 6 0 (List.length z6) (List.length z6)]]) [0,0,0,0,0,0,0,0,0,1,2,0,0,1,0,0,0,0,0,0,0,0,0,0,0,0,0,0,0,1,2],Ob.arr 1 (List.map (AV.int .i64) z2) false,Ob.arr 2 (List.map ePoint z3) false,Ob.arr 1 (List.map (AV.int .i64) z4) false,Ob.arr 1 (List.map (AV.int .i64) z5) false,Ob.arr 2 (List.map ePoint z6) false] = mapR (slices_Insert_Node_n z0 z1 z2 z3 z4 z5 z6 z7 z8 z9 ⟨z10,z11,z12,z13,z14,z15⟩ z16 z17 ⟨z18,⟨z19,z20,z21,z22⟩,⟨z23,z24,z25,z26⟩,⟨z27,z28⟩,⟨z29,z30⟩⟩ z31 z32) (fun r=>(AV.osl 7 0 (List.length r) (List.length r),[Ob.gone (List.length z1 + 1),Ob.gone 1,Ob.gone (List.length z2),Ob.gone (List.length z3),Ob.gone (List.length z4),Ob.gone (List.length z5),Ob.gone (List.length z6),Ob.nar 31 (List.map eNode r) [0,0,0,0,0,0,0,0,0,1,2,0,0,1,0,0,0,0,0,0,0,0,0,0,0,0,0,0,0,1,2]])) :=
 xOf_eq slices_Insert_Node_n_i (z0,z1,z2,z3,z4,z5,z6,z7,z8,z9,⟨z10,z11,z12,z13,z14,z15⟩,z16,z17,⟨z18,⟨z19,z20,z21,z22⟩,⟨z23,z24,z25,z26⟩,⟨z27,z28⟩,⟨z29,z30⟩⟩,z31,z32)
noncomputable def impl_PlaceNode_l0 (v1:List TNode) (v10:List TNode) (v11:List Int):((Int))→Option (((Int)) ⊕ ((Unit) ⊕ (Unit))):=fun x15 =>
  cnd (ile (List.length v11:Int) x15) (
   some (.inr (.inl ()))) (
   bnd (idx v11 x15) fun v16 =>
   bnd (impl_DepthOf (TScene.mk v10) v16) fun v17 =>
   bnd (impl_inRange v17 1 4) fun v18 =>
   cnd v18 (
    some (.inl (IntKind.i64.wrap (x15 + 1)))) (
    some (.inr (.inr ()))))
noncomputable def impl_PlaceNode_l0_S (v1:List TNode) (v10:List TNode) (v11:List Int):((Int))→St:=fun x15=>⟨[(8,AV.optr 0 0 1),(10,AV.optr 1 0 1),(11,AV.optr 2 0 1),(68,AV.osl 3 0 (List.length v11) (List.length v11)),(69,AV.int .i64 (List.length v11:Int)),(70,AV.int .i64 x15)],[(0,Ob.box [AV.nilsl]),(1,Ob.box [AV.osl 4 0 (List.length v1) (List.length v1)]),(2,Ob.box [AV.osl 5 0 (List.length v10) (List.length v10)]),(3,Ob.arr 1 (List.map (AV.int .i64) v11) false),(4,Ob.nar 31 (List.map eNode v1) [0,0,0,0,0,0,0,0,0,1,2,0,0,1,0,0,0,0,0,0,0,0,0,0,0,0,0,0,0,1,2]),(5,Ob.nar 31 (List.map eNode v10) [0,0,0,0,0,0,0,0,0,1,2,0,0,1,0,0,0,0,0,0,0,0,0,0,0,0,0,0,0,1,2])],6⟩
noncomputable def impl_PlaceNode_l0_X (v1:List TNode) (v10:List TNode) (v11:List Int):((Unit) ⊕ (Unit))→Ex×St:=fun q=>match q with
 | .inl _=>((.exit 1),⟨[(8,AV.optr 0 0 1),(11,AV.optr 1 0 1)],[(0,Ob.box [AV.nilsl]),(1,Ob.box [AV.osl 2 0 (List.length v10) (List.length v10)]),(2,Ob.nar 31 (List.map eNode v10) [0,0,0,0,0,0,0,0,0,1,2,0,0,1,0,0,0,0,0,0,0,0,0,0,0,0,0,0,0,1,2])],3⟩)
 | .inr _=>(.ret,⟨[(8,AV.optr 0 0 1),(9,AV.int .i64 5)],[(0,Ob.box [AV.osl 1 0 (List.length v1) (List.length v1)]),(1,Ob.nar 31 (List.map eNode v1) [0,0,0,0,0,0,0,0,0,1,2,0,0,1,0,0,0,0,0,0,0,0,0,0,0,0,0,0,0,1,2])],2⟩)
noncomputable def impl_PlaceNode (a0:TScene) (a1:Int) (a2:Int) (a3:Int):Option ((Int)×(List TNode)) :=
  bnd (impl_copyScene a0) fun v1 =>
  bnd (impl_SceneOk a0) fun v2 =>
  cnd v2 (
   bnd (impl_Scene_isPlace a0 a1 a2 a3) fun v3 =>
   cnd v3 (
    bnd (impl_UnderOf a0 a1) fun v4 =>
    bnd (slices_Contains_int v4 a2) fun v5 =>
    cnd v5 (
     some (6,v1)) (
     bnd (impl_NodeAt (TScene.mk v1) a1) fun v6 =>
     bnd (idx v1 v6) fun v7 =>
     bnd (slices_Delete_Node_n v6 (IntKind.i64.wrap (v6 + 1)) v7.path.verbs v7.path.points v7.dashes v7.clip.verbs v7.clip.points v7.id v7.parent v7.group v7.mat v7.even v7.width v7.paint v7.mode v7.fade (List.take (Int.toNat v6) v1) (List.drop (Int.toNat v6 + 1) v1)) fun v8 =>
     bnd (impl_NodeAt (TScene.mk v8) a3) fun v9 =>
     bnd (slices_Insert_Node_n (IntKind.i64.wrap (v9 + 1)) v8 v7.path.verbs v7.path.points v7.dashes v7.clip.verbs v7.clip.points v7.id a2 v7.group v7.mat v7.even v7.width v7.paint v7.mode v7.fade) fun v10 =>
     bnd (impl_UnderOf (TScene.mk v10) a1) fun v11 =>
     bnd (loopI (impl_PlaceNode_l0 v1 v10 v11) 0) fun q=>match q with
     | .inl () =>
      some (0,v10)
     | .inr () =>
      some (5,v1))) (
    some (2,v1))) (
   some (1,v1))
noncomputable def impl_PlaceNode_e (q:(TScene)×(Int)×(Int)×(Int)):List AV×List Ob:=([AV.agg [AV.fsl (List.map eNode q.1.nodes)],AV.int .i64 q.2.1,AV.int .i64 q.2.2.1,AV.int .i64 q.2.2.2],[])
noncomputable def impl_PlaceNode_v (q:(TScene)×(Int)×(Int)×(Int)) (r:(Int)×(List TNode)):AV×List Ob:=(AV.tup [AV.agg [AV.osl 0 0 (List.length r.2) (List.length r.2)],AV.int .i64 r.1],[Ob.nar 31 (List.map eNode r.2) [0,0,0,0,0,0,0,0,0,1,2,0,0,1,0,0,0,0,0,0,0,0,0,0,0,0,0,0,0,1,2]])
noncomputable def impl_PlaceNode_x:List AV→List Ob→Option (AV×List Ob):=xOf impl_PlaceNode_e (fun q=>impl_PlaceNode q.1 q.2.1 q.2.2.1 q.2.2.2) impl_PlaceNode_v
theorem impl_PlaceNode_i:∀ a b,impl_PlaceNode_e a = impl_PlaceNode_e b→a = b:=by rintro ⟨⟨x0⟩,x1,x2,x3⟩ ⟨⟨y0⟩,y1,y2,y3⟩ h;simp [impl_PlaceNode_e] at h;simp [h]
@[simp] theorem impl_PlaceNode_k (z0:List TNode) (z1:Int) (z2:Int) (z3:Int):impl_PlaceNode_x [AV.agg [AV.fsl (List.map eNode z0)],AV.int .i64 z1,AV.int .i64 z2,AV.int .i64 z3] [] = mapR (impl_PlaceNode ⟨z0⟩ z1 z2 z3) (fun r=>(AV.tup [AV.agg [AV.osl 0 0 (List.length r.2) (List.length r.2)],AV.int .i64 r.1],[Ob.nar 31 (List.map eNode r.2) [0,0,0,0,0,0,0,0,0,1,2,0,0,1,0,0,0,0,0,0,0,0,0,0,0,0,0,0,0,1,2]])) :=
 xOf_eq impl_PlaceNode_i (⟨z0⟩,z1,z2,z3)
noncomputable def laws_eqMat (a0:TMat) (a1:TMat):Option ((Bool)) :=
  cnd (ieq a0.a a1.a) (
   cnd (ieq a0.b a1.b) (
    cnd (ieq a0.c a1.c) (
     cnd (ieq a0.d a1.d) (
      cnd (ieq a0.e a1.e) (
       cnd (ieq a0.f a1.f) (
        some true) (
        some false)) (
       some false)) (
      some false)) (
     some false)) (
    some false)) (
   some false)
noncomputable def laws_eqMat_e (q:(TMat)×(TMat)):List AV×List Ob:=([AV.agg [AV.int .i64 q.1.a,AV.int .i64 q.1.b,AV.int .i64 q.1.c,AV.int .i64 q.1.d,AV.int .i64 q.1.e,AV.int .i64 q.1.f],AV.agg [AV.int .i64 q.2.a,AV.int .i64 q.2.b,AV.int .i64 q.2.c,AV.int .i64 q.2.d,AV.int .i64 q.2.e,AV.int .i64 q.2.f]],[])
noncomputable def laws_eqMat_v (q:(TMat)×(TMat)) (r:(Bool)):AV×List Ob:=(AV.bool r,[])
noncomputable def laws_eqMat_x:List AV→List Ob→Option (AV×List Ob):=xOf laws_eqMat_e (fun q=>laws_eqMat q.1 q.2) laws_eqMat_v
theorem laws_eqMat_i:∀ a b,laws_eqMat_e a = laws_eqMat_e b→a = b:=by rintro ⟨⟨x0,x1,x2,x3,x4,x5⟩,⟨x6,x7,x8,x9,x10,x11⟩⟩ ⟨⟨y0,y1,y2,y3,y4,y5⟩,⟨y6,y7,y8,y9,y10,y11⟩⟩ h;simp [laws_eqMat_e] at h;simp [h]
@[simp] theorem laws_eqMat_k (z0:Int) (z1:Int) (z2:Int) (z3:Int) (z4:Int) (z5:Int) (z6:Int) (z7:Int) (z8:Int) (z9:Int) (z10:Int) (z11:Int):laws_eqMat_x [AV.agg [AV.int .i64 z0,AV.int .i64 z1,AV.int .i64 z2,AV.int .i64 z3,AV.int .i64 z4,AV.int .i64 z5],AV.agg [AV.int .i64 z6,AV.int .i64 z7,AV.int .i64 z8,AV.int .i64 z9,AV.int .i64 z10,AV.int .i64 z11]] [] = mapR (laws_eqMat ⟨z0,z1,z2,z3,z4,z5⟩ ⟨z6,z7,z8,z9,z10,z11⟩) (fun r=>(AV.bool r,[])) :=
 xOf_eq laws_eqMat_i (⟨z0,z1,z2,z3,z4,z5⟩,⟨z6,z7,z8,z9,z10,z11⟩)
noncomputable def laws_eqIntS_l0 (a0:List Int) (a1:List Int):((Int))→Option (((Int)) ⊕ ((Unit) ⊕ (Unit))):=fun x3 =>
  cnd (ile (List.length a0:Int) x3) (
   some (.inr (.inl ()))) (
   bnd (idx a0 x3) fun v4 =>
   bnd (idx a1 x3) fun v5 =>
   cnd (ieq v4 v5) (
    some (.inl (IntKind.i64.wrap (x3 + 1)))) (
    some (.inr (.inr ()))))
noncomputable def laws_eqIntS_l0_S (a0:List Int) (a1:List Int):((Int))→St:=fun x3=>⟨[(0,AV.fsl (List.map (AV.int .i64) a0)),(1,AV.fsl (List.map (AV.int .i64) a1)),(5,AV.int .i64 x3)],[],0⟩
noncomputable def laws_eqIntS_l0_X (a0:List Int) (a1:List Int):((Unit) ⊕ (Unit))→Ex×St:=fun q=>match q with
 | .inl _=>((.exit 0),⟨[],[],0⟩)
 | .inr _=>(.ret,⟨[(4,AV.bool false)],[],0⟩)
noncomputable def laws_eqIntS (a0:List Int) (a1:List Int):Option ((Bool)) :=
  cnd (ieq (List.length a0:Int) (List.length a1:Int)) (
   bnd (loopI (laws_eqIntS_l0 a0 a1) 0) fun q=>match q with
   | .inl () =>
    some true
   | .inr () =>
    some false) (
   some false)
noncomputable def laws_eqIntS_e (q:(List Int)×(List Int)):List AV×List Ob:=([AV.fsl (List.map (AV.int .i64) q.1),AV.fsl (List.map (AV.int .i64) q.2)],[])
noncomputable def laws_eqIntS_v (q:(List Int)×(List Int)) (r:(Bool)):AV×List Ob:=(AV.bool r,[])
noncomputable def laws_eqIntS_x:List AV→List Ob→Option (AV×List Ob):=xOf laws_eqIntS_e (fun q=>laws_eqIntS q.1 q.2) laws_eqIntS_v
theorem laws_eqIntS_i:∀ a b,laws_eqIntS_e a = laws_eqIntS_e b→a = b:=by rintro ⟨x0,x1⟩ ⟨y0,y1⟩ h;simp [laws_eqIntS_e] at h;simp [h]
@[simp] theorem laws_eqIntS_k (z0:List Int) (z1:List Int):laws_eqIntS_x [AV.fsl (List.map (AV.int .i64) z0),AV.fsl (List.map (AV.int .i64) z1)] [] = mapR (laws_eqIntS z0 z1) (fun r=>(AV.bool r,[])) :=
 xOf_eq laws_eqIntS_i (z0,z1)
noncomputable def laws_eqPoint (a0:TPoint) (a1:TPoint):Option ((Bool)) :=
  cnd (ieq a0.x a1.x) (
   cnd (ieq a0.y a1.y) (
    some true) (
    some false)) (
   some false)
noncomputable def laws_eqPoint_e (q:(TPoint)×(TPoint)):List AV×List Ob:=([AV.agg [AV.int .i64 q.1.x,AV.int .i64 q.1.y],AV.agg [AV.int .i64 q.2.x,AV.int .i64 q.2.y]],[])
noncomputable def laws_eqPoint_v (q:(TPoint)×(TPoint)) (r:(Bool)):AV×List Ob:=(AV.bool r,[])
noncomputable def laws_eqPoint_x:List AV→List Ob→Option (AV×List Ob):=xOf laws_eqPoint_e (fun q=>laws_eqPoint q.1 q.2) laws_eqPoint_v
theorem laws_eqPoint_i:∀ a b,laws_eqPoint_e a = laws_eqPoint_e b→a = b:=by rintro ⟨⟨x0,x1⟩,⟨x2,x3⟩⟩ ⟨⟨y0,y1⟩,⟨y2,y3⟩⟩ h;simp [laws_eqPoint_e] at h;simp [h]
@[simp] theorem laws_eqPoint_k (z0:Int) (z1:Int) (z2:Int) (z3:Int):laws_eqPoint_x [AV.agg [AV.int .i64 z0,AV.int .i64 z1],AV.agg [AV.int .i64 z2,AV.int .i64 z3]] [] = mapR (laws_eqPoint ⟨z0,z1⟩ ⟨z2,z3⟩) (fun r=>(AV.bool r,[])) :=
 xOf_eq laws_eqPoint_i (⟨z0,z1⟩,⟨z2,z3⟩)
noncomputable def laws_eqPointS_l0 (a0:List TPoint) (a1:List TPoint):((Int))→Option (((Int)) ⊕ ((Unit) ⊕ (Unit))):=fun x4 =>
  cnd (ile (List.length a0:Int) x4) (
   some (.inr (.inl ()))) (
   bnd (idx a0 x4) fun v5 =>
   bnd (idx a1 x4) fun v6 =>
   bnd (laws_eqPoint v5 v6) fun v7 =>
   cnd v7 (
    some (.inl (IntKind.i64.wrap (x4 + 1)))) (
    some (.inr (.inr ()))))
noncomputable def laws_eqPointS_l0_S (a0:List TPoint) (a1:List TPoint):((Int))→St:=fun x4=>⟨[(0,AV.fsl (List.map ePoint a0)),(1,AV.fsl (List.map ePoint a1)),(5,AV.int .i64 x4)],[],0⟩
noncomputable def laws_eqPointS_l0_X (a0:List TPoint) (a1:List TPoint):((Unit) ⊕ (Unit))→Ex×St:=fun q=>match q with
 | .inl _=>((.exit 0),⟨[],[],0⟩)
 | .inr _=>(.ret,⟨[(4,AV.bool false)],[],0⟩)
noncomputable def laws_eqPointS (a0:List TPoint) (a1:List TPoint):Option ((Bool)) :=
  cnd (ieq (List.length a0:Int) (List.length a1:Int)) (
   bnd (loopI (laws_eqPointS_l0 a0 a1) 0) fun q=>match q with
   | .inl () =>
    some true
   | .inr () =>
    some false) (
   some false)
noncomputable def laws_eqPointS_e (q:(List TPoint)×(List TPoint)):List AV×List Ob:=([AV.fsl (List.map ePoint q.1),AV.fsl (List.map ePoint q.2)],[])
noncomputable def laws_eqPointS_v (q:(List TPoint)×(List TPoint)) (r:(Bool)):AV×List Ob:=(AV.bool r,[])
noncomputable def laws_eqPointS_x:List AV→List Ob→Option (AV×List Ob):=xOf laws_eqPointS_e (fun q=>laws_eqPointS q.1 q.2) laws_eqPointS_v
theorem laws_eqPointS_i:∀ a b,laws_eqPointS_e a = laws_eqPointS_e b→a = b:=by rintro ⟨x0,x1⟩ ⟨y0,y1⟩ h;simp [laws_eqPointS_e] at h;simp [h]
@[simp] theorem laws_eqPointS_k (z0:List TPoint) (z1:List TPoint):laws_eqPointS_x [AV.fsl (List.map ePoint z0),AV.fsl (List.map ePoint z1)] [] = mapR (laws_eqPointS z0 z1) (fun r=>(AV.bool r,[])) :=
 xOf_eq laws_eqPointS_i (z0,z1)
noncomputable def laws_eqPath (a0:TPath) (a1:TPath):Option ((Bool)) :=
  bnd (laws_eqIntS a0.verbs a1.verbs) fun v1 =>
  cnd v1 (
   bnd (laws_eqPointS a0.points a1.points) fun v2 =>
   cnd v2 (
    some true) (
    some false)) (
   some false)
noncomputable def laws_eqPath_e (q:(TPath)×(TPath)):List AV×List Ob:=([AV.agg [AV.fsl (List.map (AV.int .i64) q.1.verbs),AV.fsl (List.map ePoint q.1.points)],AV.agg [AV.fsl (List.map (AV.int .i64) q.2.verbs),AV.fsl (List.map ePoint q.2.points)]],[])
noncomputable def laws_eqPath_v (q:(TPath)×(TPath)) (r:(Bool)):AV×List Ob:=(AV.bool r,[])
noncomputable def laws_eqPath_x:List AV→List Ob→Option (AV×List Ob):=xOf laws_eqPath_e (fun q=>laws_eqPath q.1 q.2) laws_eqPath_v
theorem laws_eqPath_i:∀ a b,laws_eqPath_e a = laws_eqPath_e b→a = b:=by rintro ⟨⟨x0,x1⟩,⟨x2,x3⟩⟩ ⟨⟨y0,y1⟩,⟨y2,y3⟩⟩ h;simp [laws_eqPath_e] at h;simp [h]
@[simp] theorem laws_eqPath_k (z0:List Int) (z1:List TPoint) (z2:List Int) (z3:List TPoint):laws_eqPath_x [AV.agg [AV.fsl (List.map (AV.int .i64) z0),AV.fsl (List.map ePoint z1)],AV.agg [AV.fsl (List.map (AV.int .i64) z2),AV.fsl (List.map ePoint z3)]] [] = mapR (laws_eqPath ⟨z0,z1⟩ ⟨z2,z3⟩) (fun r=>(AV.bool r,[])) :=
 xOf_eq laws_eqPath_i (⟨z0,z1⟩,⟨z2,z3⟩)
noncomputable def laws_eqColor (a0:TColor) (a1:TColor):Option ((Bool)) :=
  cnd (ieq a0.r a1.r) (
   cnd (ieq a0.g a1.g) (
    cnd (ieq a0.b a1.b) (
     cnd (ieq a0.a a1.a) (
      some true) (
      some false)) (
     some false)) (
    some false)) (
   some false)
noncomputable def laws_eqColor_e (q:(TColor)×(TColor)):List AV×List Ob:=([AV.agg [AV.int .i64 q.1.r,AV.int .i64 q.1.g,AV.int .i64 q.1.b,AV.int .i64 q.1.a],AV.agg [AV.int .i64 q.2.r,AV.int .i64 q.2.g,AV.int .i64 q.2.b,AV.int .i64 q.2.a]],[])
noncomputable def laws_eqColor_v (q:(TColor)×(TColor)) (r:(Bool)):AV×List Ob:=(AV.bool r,[])
noncomputable def laws_eqColor_x:List AV→List Ob→Option (AV×List Ob):=xOf laws_eqColor_e (fun q=>laws_eqColor q.1 q.2) laws_eqColor_v
theorem laws_eqColor_i:∀ a b,laws_eqColor_e a = laws_eqColor_e b→a = b:=by rintro ⟨⟨x0,x1,x2,x3⟩,⟨x4,x5,x6,x7⟩⟩ ⟨⟨y0,y1,y2,y3⟩,⟨y4,y5,y6,y7⟩⟩ h;simp [laws_eqColor_e] at h;simp [h]
@[simp] theorem laws_eqColor_k (z0:Int) (z1:Int) (z2:Int) (z3:Int) (z4:Int) (z5:Int) (z6:Int) (z7:Int):laws_eqColor_x [AV.agg [AV.int .i64 z0,AV.int .i64 z1,AV.int .i64 z2,AV.int .i64 z3],AV.agg [AV.int .i64 z4,AV.int .i64 z5,AV.int .i64 z6,AV.int .i64 z7]] [] = mapR (laws_eqColor ⟨z0,z1,z2,z3⟩ ⟨z4,z5,z6,z7⟩) (fun r=>(AV.bool r,[])) :=
 xOf_eq laws_eqColor_i (⟨z0,z1,z2,z3⟩,⟨z4,z5,z6,z7⟩)
noncomputable def laws_eqPaint (a0:TPaint) (a1:TPaint):Option ((Bool)) :=
  cnd (ieq a0.kind a1.kind) (
   bnd (laws_eqColor a0.first a1.first) fun v1 =>
   cnd v1 (
    bnd (laws_eqColor a0.last a1.last) fun v2 =>
    cnd v2 (
     bnd (laws_eqPoint a0.from_ a1.from_) fun v3 =>
     cnd v3 (
      bnd (laws_eqPoint a0.to a1.to) fun v4 =>
      cnd v4 (
       some true) (
       some false)) (
      some false)) (
     some false)) (
    some false)) (
   some false)
noncomputable def laws_eqPaint_e (q:(TPaint)×(TPaint)):List AV×List Ob:=([AV.agg [AV.int .i64 q.1.kind,AV.int .i64 q.1.first.r,AV.int .i64 q.1.first.g,AV.int .i64 q.1.first.b,AV.int .i64 q.1.first.a,AV.int .i64 q.1.last.r,AV.int .i64 q.1.last.g,AV.int .i64 q.1.last.b,AV.int .i64 q.1.last.a,AV.int .i64 q.1.from_.x,AV.int .i64 q.1.from_.y,AV.int .i64 q.1.to.x,AV.int .i64 q.1.to.y],AV.agg [AV.int .i64 q.2.kind,AV.int .i64 q.2.first.r,AV.int .i64 q.2.first.g,AV.int .i64 q.2.first.b,AV.int .i64 q.2.first.a,AV.int .i64 q.2.last.r,AV.int .i64 q.2.last.g,AV.int .i64 q.2.last.b,AV.int .i64 q.2.last.a,AV.int .i64 q.2.from_.x,AV.int .i64 q.2.from_.y,AV.int .i64 q.2.to.x,AV.int .i64 q.2.to.y]],[])
noncomputable def laws_eqPaint_v (q:(TPaint)×(TPaint)) (r:(Bool)):AV×List Ob:=(AV.bool r,[])
noncomputable def laws_eqPaint_x:List AV→List Ob→Option (AV×List Ob):=xOf laws_eqPaint_e (fun q=>laws_eqPaint q.1 q.2) laws_eqPaint_v
theorem laws_eqPaint_i:∀ a b,laws_eqPaint_e a = laws_eqPaint_e b→a = b:=by rintro ⟨⟨x0,⟨x1,x2,x3,x4⟩,⟨x5,x6,x7,x8⟩,⟨x9,x10⟩,⟨x11,x12⟩⟩,⟨x13,⟨x14,x15,x16,x17⟩,⟨x18,x19,x20,x21⟩,⟨x22,x23⟩,⟨x24,x25⟩⟩⟩ ⟨⟨y0,⟨y1,y2,y3,y4⟩,⟨y5,y6,y7,y8⟩,⟨y9,y10⟩,⟨y11,y12⟩⟩,⟨y13,⟨y14,y15,y16,y17⟩,⟨y18,y19,y20,y21⟩,⟨y22,y23⟩,⟨y24,y25⟩⟩⟩ h;simp [laws_eqPaint_e] at h;simp [h]
@[simp] theorem laws_eqPaint_k (z0:Int) (z1:Int) (z2:Int) (z3:Int) (z4:Int) (z5:Int) (z6:Int) (z7:Int) (z8:Int) (z9:Int) (z10:Int) (z11:Int) (z12:Int) (z13:Int) (z14:Int) (z15:Int) (z16:Int) (z17:Int) (z18:Int) (z19:Int) (z20:Int) (z21:Int) (z22:Int) (z23:Int) (z24:Int) (z25:Int):laws_eqPaint_x [AV.agg [AV.int .i64 z0,AV.int .i64 z1,AV.int .i64 z2,AV.int .i64 z3,AV.int .i64 z4,AV.int .i64 z5,AV.int .i64 z6,AV.int .i64 z7,AV.int .i64 z8,AV.int .i64 z9,AV.int .i64 z10,AV.int .i64 z11,AV.int .i64 z12],AV.agg [AV.int .i64 z13,AV.int .i64 z14,AV.int .i64 z15,AV.int .i64 z16,AV.int .i64 z17,AV.int .i64 z18,AV.int .i64 z19,AV.int .i64 z20,AV.int .i64 z21,AV.int .i64 z22,AV.int .i64 z23,AV.int .i64 z24,AV.int .i64 z25]] [] = mapR (laws_eqPaint ⟨z0,⟨z1,z2,z3,z4⟩,⟨z5,z6,z7,z8⟩,⟨z9,z10⟩,⟨z11,z12⟩⟩ ⟨z13,⟨z14,z15,z16,z17⟩,⟨z18,z19,z20,z21⟩,⟨z22,z23⟩,⟨z24,z25⟩⟩) (fun r=>(AV.bool r,[])) :=
 xOf_eq laws_eqPaint_i (⟨z0,⟨z1,z2,z3,z4⟩,⟨z5,z6,z7,z8⟩,⟨z9,z10⟩,⟨z11,z12⟩⟩,⟨z13,⟨z14,z15,z16,z17⟩,⟨z18,z19,z20,z21⟩,⟨z22,z23⟩,⟨z24,z25⟩⟩)
noncomputable def laws_eqNode (a0:TNode) (a1:TNode):Option ((Bool)) :=
  cnd (ieq a0.id a1.id) (
   cnd (ieq a0.parent a1.parent) (
    cnd (andB (decide (a0.group = a1.group)) true) (
     bnd (laws_eqMat a0.mat a1.mat) fun v1 =>
     cnd v1 (
      bnd (laws_eqPath a0.path a1.path) fun v2 =>
      cnd v2 (
       cnd (andB (decide (a0.even = a1.even)) true) (
        cnd (ieq a0.width a1.width) (
         bnd (laws_eqIntS a0.dashes a1.dashes) fun v3 =>
         cnd v3 (
          bnd (laws_eqPaint a0.paint a1.paint) fun v4 =>
          cnd v4 (
           cnd (ieq a0.mode a1.mode) (
            cnd (ieq a0.fade a1.fade) (
             bnd (laws_eqPath a0.clip a1.clip) fun v5 =>
             cnd v5 (
              some true) (
              some false)) (
             some false)) (
            some false)) (
           some false)) (
          some false)) (
         some false)) (
        some false)) (
       some false)) (
      some false)) (
     some false)) (
    some false)) (
   some false)
noncomputable def laws_eqNode_e (q:(TNode)×(TNode)):List AV×List Ob:=([AV.agg [AV.int .i64 q.1.id,AV.int .i64 q.1.parent,AV.bool q.1.group,AV.int .i64 q.1.mat.a,AV.int .i64 q.1.mat.b,AV.int .i64 q.1.mat.c,AV.int .i64 q.1.mat.d,AV.int .i64 q.1.mat.e,AV.int .i64 q.1.mat.f,AV.fsl (List.map (AV.int .i64) q.1.path.verbs),AV.fsl (List.map ePoint q.1.path.points),AV.bool q.1.even,AV.int .i64 q.1.width,AV.fsl (List.map (AV.int .i64) q.1.dashes),AV.int .i64 q.1.paint.kind,AV.int .i64 q.1.paint.first.r,AV.int .i64 q.1.paint.first.g,AV.int .i64 q.1.paint.first.b,AV.int .i64 q.1.paint.first.a,AV.int .i64 q.1.paint.last.r,AV.int .i64 q.1.paint.last.g,AV.int .i64 q.1.paint.last.b,AV.int .i64 q.1.paint.last.a,AV.int .i64 q.1.paint.from_.x,AV.int .i64 q.1.paint.from_.y,AV.int .i64 q.1.paint.to.x,AV.int .i64 q.1.paint.to.y,AV.int .i64 q.1.mode,AV.int .i64 q.1.fade,AV.fsl (List.map (AV.int .i64) q.1.clip.verbs),AV.fsl (List.map ePoint q.1.clip.points)],AV.agg [AV.int .i64 q.2.id,AV.int .i64 q.2.parent,AV.bool q.2.group,AV.int .i64 q.2.mat.a,AV.int .i64 q.2.mat.b,AV.int .i64 q.2.mat.c,AV.int .i64 q.2.mat.d,AV.int .i64 q.2.mat.e,AV.int .i64 q.2.mat.f,AV.fsl (List.map (AV.int .i64) q.2.path.verbs),AV.fsl (List.map ePoint q.2.path.points),AV.bool q.2.even,AV.int .i64 q.2.width,AV.fsl (List.map (AV.int .i64) q.2.dashes),AV.int .i64 q.2.paint.kind,AV.int .i64 q.2.paint.first.r,AV.int .i64 q.2.paint.first.g,AV.int .i64 q.2.paint.first.b,AV.int .i64 q.2.paint.first.a,AV.int .i64 q.2.paint.last.r,AV.int .i64 q.2.paint.last.g,AV.int .i64 q.2.paint.last.b,AV.int .i64 q.2.paint.last.a,AV.int .i64 q.2.paint.from_.x,AV.int .i64 q.2.paint.from_.y,AV.int .i64 q.2.paint.to.x,AV.int .i64 q.2.paint.to.y,AV.int .i64 q.2.mode,AV.int .i64 q.2.fade,AV.fsl (List.map (AV.int .i64) q.2.clip.verbs),AV.fsl (List.map ePoint q.2.clip.points)]],[])
noncomputable def laws_eqNode_v (q:(TNode)×(TNode)) (r:(Bool)):AV×List Ob:=(AV.bool r,[])
noncomputable def laws_eqNode_x:List AV→List Ob→Option (AV×List Ob):=xOf laws_eqNode_e (fun q=>laws_eqNode q.1 q.2) laws_eqNode_v
theorem laws_eqNode_i:∀ a b,laws_eqNode_e a = laws_eqNode_e b→a = b:=by rintro ⟨⟨x0,x1,x2,⟨x3,x4,x5,x6,x7,x8⟩,⟨x9,x10⟩,x11,x12,x13,⟨x14,⟨x15,x16,x17,x18⟩,⟨x19,x20,x21,x22⟩,⟨x23,x24⟩,⟨x25,x26⟩⟩,x27,x28,⟨x29,x30⟩⟩,⟨x31,x32,x33,⟨x34,x35,x36,x37,x38,x39⟩,⟨x40,x41⟩,x42,x43,x44,⟨x45,⟨x46,x47,x48,x49⟩,⟨x50,x51,x52,x53⟩,⟨x54,x55⟩,⟨x56,x57⟩⟩,x58,x59,⟨x60,x61⟩⟩⟩ ⟨⟨y0,y1,y2,⟨y3,y4,y5,y6,y7,y8⟩,⟨y9,y10⟩,y11,y12,y13,⟨y14,⟨y15,y16,y17,y18⟩,⟨y19,y20,y21,y22⟩,⟨y23,y24⟩,⟨y25,y26⟩⟩,y27,y28,⟨y29,y30⟩⟩,⟨y31,y32,y33,⟨y34,y35,y36,y37,y38,y39⟩,⟨y40,y41⟩,y42,y43,y44,⟨y45,⟨y46,y47,y48,y49⟩,⟨y50,y51,y52,y53⟩,⟨y54,y55⟩,⟨y56,y57⟩⟩,y58,y59,⟨y60,y61⟩⟩⟩ h;simp [laws_eqNode_e] at h;simp [h]
@[simp] theorem laws_eqNode_k (z0:Int) (z1:Int) (z2:Bool) (z3:Int) (z4:Int) (z5:Int) (z6:Int) (z7:Int) (z8:Int) (z9:List Int) (z10:List TPoint) (z11:Bool) (z12:Int) (z13:List Int) (z14:Int) (z15:Int) (z16:Int) (z17:Int) (z18:Int) (z19:Int) (z20:Int) (z21:Int) (z22:Int) (z23:Int) (z24:Int) (z25:Int) (z26:Int) (z27:Int) (z28:Int) (z29:List Int) (z30:List TPoint) (z31:Int) (z32:Int) (z33:Bool) (z34:Int) (z35:Int) (z36:Int) (z37:Int) (z38:Int) (z39:Int) (z40:List Int) (z41:List TPoint) (z42:Bool) (z43:Int) (z44:List Int) (z45:Int) (z46:Int) (z47:Int) (z48:Int) (z49:Int) (z50:Int) (z51:Int) (z52:Int) (z53:Int) (z54:Int) (z55:Int) (z56:Int) (z57:Int) (z58:Int) (z59:Int) (z60:List Int) (z61:List TPoint):laws_eqNode_x [AV.agg [AV.int .i64 z0,AV.int .i64 z1,AV.bool z2,AV.int .i64 z3,AV.int .i64 z4,AV.int .i64 z5,AV.int .i64 z6,AV.int .i64 z7,AV.int .i64 z8,AV.fsl (List.map (AV.int .i64) z9),AV.fsl (List.map ePoint z10),AV.bool z11,AV.int .i64 z12,AV.fsl (List.map (AV.int .i64) z13),AV.int .i64 z14,AV.int .i64 z15,AV.int .i64 z16,AV.int .i64 z17,AV.int .i64 z18,AV.int .i64 z19,AV.int .i64 z20,AV.int .i64 z21,AV.int .i64 z22,AV.int .i64 z23,AV.int .i64 z24,AV.int .i64 z25,AV.int .i64 z26,AV.int .i64 z27,AV.int .i64 z28,AV.fsl (List.map (AV.int .i64) z29),AV.fsl (List.map ePoint z30)],AV.agg [AV.int .i64 z31,AV.int .i64 z32,AV.bool z33,AV.int .i64 z34,AV.int .i64 z35,AV.int .i64 z36,AV.int .i64 z37,AV.int .i64 z38,AV.int .i64 z39,AV.fsl (List.map (AV.int .i64) z40),AV.fsl (List.map ePoint z41),AV.bool z42,AV.int .i64 z43,AV.fsl (List.map (AV.int .i64) z44),AV.int .i64 z45,AV.int .i64 z46,AV.int .i64 z47,AV.int .i64 z48,AV.int .i64 z49,AV.int .i64 z50,AV.int .i64 z51,AV.int .i64 z52,AV.int .i64 z53,AV.int .i64 z54,AV.int .i64 z55,AV.int .i64 z56,AV.int .i64 z57,AV.int .i64 z58,AV.int .i64 z59,AV.fsl (List.map (AV.int .i64) z60),AV.fsl (List.map ePoint z61)]] [] = mapR (laws_eqNode ⟨z0,z1,z2,⟨z3,z4,z5,z6,z7,z8⟩,⟨z9,z10⟩,z11,z12,z13,⟨z14,⟨z15,z16,z17,z18⟩,⟨z19,z20,z21,z22⟩,⟨z23,z24⟩,⟨z25,z26⟩⟩,z27,z28,⟨z29,z30⟩⟩ ⟨z31,z32,z33,⟨z34,z35,z36,z37,z38,z39⟩,⟨z40,z41⟩,z42,z43,z44,⟨z45,⟨z46,z47,z48,z49⟩,⟨z50,z51,z52,z53⟩,⟨z54,z55⟩,⟨z56,z57⟩⟩,z58,z59,⟨z60,z61⟩⟩) (fun r=>(AV.bool r,[])) :=
 xOf_eq laws_eqNode_i (⟨z0,z1,z2,⟨z3,z4,z5,z6,z7,z8⟩,⟨z9,z10⟩,z11,z12,z13,⟨z14,⟨z15,z16,z17,z18⟩,⟨z19,z20,z21,z22⟩,⟨z23,z24⟩,⟨z25,z26⟩⟩,z27,z28,⟨z29,z30⟩⟩,⟨z31,z32,z33,⟨z34,z35,z36,z37,z38,z39⟩,⟨z40,z41⟩,z42,z43,z44,⟨z45,⟨z46,z47,z48,z49⟩,⟨z50,z51,z52,z53⟩,⟨z54,z55⟩,⟨z56,z57⟩⟩,z58,z59,⟨z60,z61⟩⟩)
noncomputable def laws_eqNodeS_l0 (a0:List TNode) (a1:List TNode):((Int))→Option (((Int)) ⊕ ((Unit) ⊕ (Unit))):=fun x4 =>
  cnd (ile (List.length a0:Int) x4) (
   some (.inr (.inl ()))) (
   bnd (idx a0 x4) fun v5 =>
   bnd (idx a1 x4) fun v6 =>
   bnd (laws_eqNode v5 v6) fun v7 =>
   cnd v7 (
    some (.inl (IntKind.i64.wrap (x4 + 1)))) (
    some (.inr (.inr ()))))
noncomputable def laws_eqNodeS_l0_S (a0:List TNode) (a1:List TNode):((Int))→St:=fun x4=>⟨[(0,AV.fsl (List.map eNode a0)),(1,AV.fsl (List.map eNode a1)),(5,AV.int .i64 x4)],[],0⟩
noncomputable def laws_eqNodeS_l0_X (a0:List TNode) (a1:List TNode):((Unit) ⊕ (Unit))→Ex×St:=fun q=>match q with
 | .inl _=>((.exit 0),⟨[],[],0⟩)
 | .inr _=>(.ret,⟨[(4,AV.bool false)],[],0⟩)
noncomputable def laws_eqNodeS (a0:List TNode) (a1:List TNode):Option ((Bool)) :=
  cnd (ieq (List.length a0:Int) (List.length a1:Int)) (
   bnd (loopI (laws_eqNodeS_l0 a0 a1) 0) fun q=>match q with
   | .inl () =>
    some true
   | .inr () =>
    some false) (
   some false)
noncomputable def laws_eqNodeS_e (q:(List TNode)×(List TNode)):List AV×List Ob:=([AV.fsl (List.map eNode q.1),AV.fsl (List.map eNode q.2)],[])
noncomputable def laws_eqNodeS_v (q:(List TNode)×(List TNode)) (r:(Bool)):AV×List Ob:=(AV.bool r,[])
noncomputable def laws_eqNodeS_x:List AV→List Ob→Option (AV×List Ob):=xOf laws_eqNodeS_e (fun q=>laws_eqNodeS q.1 q.2) laws_eqNodeS_v
theorem laws_eqNodeS_i:∀ a b,laws_eqNodeS_e a = laws_eqNodeS_e b→a = b:=by rintro ⟨x0,x1⟩ ⟨y0,y1⟩ h;simp [laws_eqNodeS_e] at h;simp [h]
@[simp] theorem laws_eqNodeS_k (z0:List TNode) (z1:List TNode):laws_eqNodeS_x [AV.fsl (List.map eNode z0),AV.fsl (List.map eNode z1)] [] = mapR (laws_eqNodeS z0 z1) (fun r=>(AV.bool r,[])) :=
 xOf_eq laws_eqNodeS_i (z0,z1)
noncomputable def laws_eqScene (a0:TScene) (a1:TScene):Option ((Bool)) :=
  bnd (laws_eqNodeS a0.nodes a1.nodes) fun v1 =>
  cnd v1 (
   some true) (
   some false)
noncomputable def laws_eqScene_e (q:(TScene)×(TScene)):List AV×List Ob:=([AV.agg [AV.fsl (List.map eNode q.1.nodes)],AV.agg [AV.fsl (List.map eNode q.2.nodes)]],[])
noncomputable def laws_eqScene_v (q:(TScene)×(TScene)) (r:(Bool)):AV×List Ob:=(AV.bool r,[])
noncomputable def laws_eqScene_x:List AV→List Ob→Option (AV×List Ob):=xOf laws_eqScene_e (fun q=>laws_eqScene q.1 q.2) laws_eqScene_v
theorem laws_eqScene_i:∀ a b,laws_eqScene_e a = laws_eqScene_e b→a = b:=by rintro ⟨⟨x0⟩,⟨x1⟩⟩ ⟨⟨y0⟩,⟨y1⟩⟩ h;simp [laws_eqScene_e] at h;simp [h]
@[simp] theorem laws_eqScene_k (z0:List TNode) (z1:List TNode):laws_eqScene_x [AV.agg [AV.fsl (List.map eNode z0)],AV.agg [AV.fsl (List.map eNode z1)]] [] = mapR (laws_eqScene ⟨z0⟩ ⟨z1⟩) (fun r=>(AV.bool r,[])) :=
 xOf_eq laws_eqScene_i (⟨z0⟩,⟨z1⟩)
noncomputable def laws_markIntS_l0 :((Int)×(Int)×(List Int))→Option (((Int)×(Int)×(List Int)) ⊕ ((List Int)×(Int))):=fun (x3,x4,x5) =>
  cnd (ile (List.length x5:Int) x4) (
   some (.inr (x5,x3))) (
   bnd (idx x5 x4) fun v6 =>
   nam ((List.set x5 (Int.toNat x4) x3):List Int) fun l7 =>
   some (.inl ((IntKind.i64.wrap (x3 + 1)),(IntKind.i64.wrap (x4 + 1)),l7)))
noncomputable def laws_markIntS_l0_S :((Int)×(Int)×(List Int))→St:=fun (x3,x4,x5)=>⟨[(0,AV.osl 0 0 (List.length x5) (List.length x5)),(1,AV.int .i64 x3),(5,AV.int .i64 x4)],[(0,Ob.arr 1 (List.map (AV.int .i64) x5) false)],1⟩
noncomputable def laws_markIntS_l0_X :((List Int)×(Int))→Ex×St:=fun (y8,y9)=>((.exit 0),⟨[(1,AV.int .i64 y9)],[(0,Ob.arr 1 (List.map (AV.int .i64) y8) false)],1⟩)
noncomputable def laws_markIntS (a0:Int) (a1:List Int):Option ((Int)×(List Int)) :=
 bnd (loopI laws_markIntS_l0 (a0,0,a1)) fun (y8,y9) =>
 some (y9,y8)
noncomputable def laws_markIntS_e (q:(Int)×(List Int)):List AV×List Ob:=([AV.osl 0 0 (List.length q.2) (List.length q.2),AV.int .i64 q.1],[Ob.arr 1 (List.map (AV.int .i64) q.2) false])
noncomputable def laws_markIntS_v (q:(Int)×(List Int)) (r:(Int)×(List Int)):AV×List Ob:=(AV.int .i64 r.1,[Ob.arr 1 (List.map (AV.int .i64) r.2) false])
noncomputable def laws_markIntS_x:List AV→List Ob→Option (AV×List Ob):=xOf laws_markIntS_e (fun q=>laws_markIntS q.1 q.2) laws_markIntS_v
theorem laws_markIntS_i:∀ a b,laws_markIntS_e a = laws_markIntS_e b→a = b:=by rintro ⟨x0,x1⟩ ⟨y0,y1⟩ h;simp [laws_markIntS_e] at h;simp [h]
@[simp] theorem laws_markIntS_k (z0:Int) (z1:List Int):laws_markIntS_x [AV.osl 0 0 (List.length z1) (List.length z1),AV.int .i64 z0] [Ob.arr 1 (List.map (AV.int .i64) z1) false] = mapR (laws_markIntS z0 z1) (fun r=>(AV.int .i64 r.1,[Ob.arr 1 (List.map (AV.int .i64) r.2) false])) :=
 xOf_eq laws_markIntS_i (z0,z1)
theorem laws_markIntS_n {a0:Int} {a1:List Int} {r0:Int} {r1:List Int} (h:laws_markIntS a0 a1 = some (r0,r1)):List.length a1 = List.length r1:=by
 unfold laws_markIntS at h;replace h:HS _ _:=h
 obtain ⟨q,e1,h⟩:=HS.bnd h
 replace e1:=loopI_pres (P:=fun s=>List.length a1 = List.length s.2.2) (Q:=fun s=>List.length a1 = List.length s.1) e1 (by
  rintro ⟨x3,x4,x5⟩ o hp h;dsimp only at hp;unfold laws_markIntS_l0 at h;replace h:HS _ _:=h
  rcases HS.cnd h with h | h
  ·skip
   have h:=HS.some h
   first | (cases h;simp_all;done) | (subst h;simp_all;done) | (simp only [Prod.mk.injEq] at h;simp_all;done)
  ·skip
   obtain ⟨v6,e2,h⟩:=HS.bnd h
   clear e2
   obtain ⟨l7,e3,h⟩:=HS.nam h;replace e3:=congrArg List.length e3;simp only [List.length_set] at e3
   have h:=HS.some h
   first | (cases h;simp_all;done) | (subst h;simp_all;done) | (simp only [Prod.mk.injEq] at h;simp_all;done)) (by simp)
 obtain ⟨y8,y9⟩:=q
 dsimp only at h e1
 have h:=HS.some h
 first | (cases h;simp_all;done) | (subst h;simp_all;done) | (simp only [Prod.mk.injEq] at h;simp_all;done)
noncomputable def laws_markPointS_l0 :((Int)×(Int)×(List TPoint))→Option (((Int)×(Int)×(List TPoint)) ⊕ ((List TPoint)×(Int))):=fun (x5,x6,x7) =>
  cnd (ile (List.length x7:Int) x6) (
   some (.inr (x7,x5))) (
   bnd (idx x7 x6) fun v8 =>
   nam ((List.set x7 (Int.toNat x6) (TPoint.mk x5 v8.y)):List TPoint) fun l9 =>
   bnd (idx l9 x6) fun v10 =>
   nam ((List.set l9 (Int.toNat x6) (TPoint.mk v10.x (IntKind.i64.wrap (x5 + 1)))):List TPoint) fun l11 =>
   some (.inl ((IntKind.i64.wrap ((IntKind.i64.wrap (x5 + 1)) + 1)),(IntKind.i64.wrap (x6 + 1)),l11)))
noncomputable def laws_markPointS_l0_S :((Int)×(Int)×(List TPoint))→St:=fun (x5,x6,x7)=>⟨[(0,AV.osl 0 0 (List.length x7) (List.length x7)),(1,AV.int .i64 x5),(5,AV.int .i64 x6)],[(0,Ob.arr 2 (List.map ePoint x7) false)],1⟩
noncomputable def laws_markPointS_l0_X :((List TPoint)×(Int))→Ex×St:=fun (y12,y13)=>((.exit 0),⟨[(1,AV.int .i64 y13)],[(0,Ob.arr 2 (List.map ePoint y12) false)],1⟩)
noncomputable def laws_markPointS (a0:Int) (a1:List TPoint):Option ((Int)×(List TPoint)) :=
 bnd (loopI laws_markPointS_l0 (a0,0,a1)) fun (y12,y13) =>
 some (y13,y12)
noncomputable def laws_markPointS_e (q:(Int)×(List TPoint)):List AV×List Ob:=([AV.osl 0 0 (List.length q.2) (List.length q.2),AV.int .i64 q.1],[Ob.arr 2 (List.map ePoint q.2) false])
noncomputable def laws_markPointS_v (q:(Int)×(List TPoint)) (r:(Int)×(List TPoint)):AV×List Ob:=(AV.int .i64 r.1,[Ob.arr 2 (List.map ePoint r.2) false])
noncomputable def laws_markPointS_x:List AV→List Ob→Option (AV×List Ob):=xOf laws_markPointS_e (fun q=>laws_markPointS q.1 q.2) laws_markPointS_v
theorem laws_markPointS_i:∀ a b,laws_markPointS_e a = laws_markPointS_e b→a = b:=by rintro ⟨x0,x1⟩ ⟨y0,y1⟩ h;simp [laws_markPointS_e] at h;simp [h]
@[simp] theorem laws_markPointS_k (z0:Int) (z1:List TPoint):laws_markPointS_x [AV.osl 0 0 (List.length z1) (List.length z1),AV.int .i64 z0] [Ob.arr 2 (List.map ePoint z1) false] = mapR (laws_markPointS z0 z1) (fun r=>(AV.int .i64 r.1,[Ob.arr 2 (List.map ePoint r.2) false])) :=
 xOf_eq laws_markPointS_i (z0,z1)
theorem laws_markPointS_n {a0:Int} {a1:List TPoint} {r0:Int} {r1:List TPoint} (h:laws_markPointS a0 a1 = some (r0,r1)):List.length a1 = List.length r1:=by
 unfold laws_markPointS at h;replace h:HS _ _:=h
 obtain ⟨q,e1,h⟩:=HS.bnd h
 replace e1:=loopI_pres (P:=fun s=>List.length a1 = List.length s.2.2) (Q:=fun s=>List.length a1 = List.length s.1) e1 (by
  rintro ⟨x5,x6,x7⟩ o hp h;dsimp only at hp;unfold laws_markPointS_l0 at h;replace h:HS _ _:=h
  rcases HS.cnd h with h | h
  ·skip
   have h:=HS.some h
   first | (cases h;simp_all;done) | (subst h;simp_all;done) | (simp only [Prod.mk.injEq] at h;simp_all;done)
  ·skip
   obtain ⟨v8,e2,h⟩:=HS.bnd h
   clear e2
   obtain ⟨l9,e3,h⟩:=HS.nam h;replace e3:=congrArg List.length e3;simp only [List.length_set] at e3
   obtain ⟨v10,e4,h⟩:=HS.bnd h
   clear e4
   obtain ⟨l11,e5,h⟩:=HS.nam h;replace e5:=congrArg List.length e5;simp only [List.length_set] at e5
   have h:=HS.some h
   first | (cases h;simp_all;done) | (subst h;simp_all;done) | (simp only [Prod.mk.injEq] at h;simp_all;done)) (by simp)
 obtain ⟨y12,y13⟩:=q
 dsimp only at h e1
 have h:=HS.some h
 first | (cases h;simp_all;done) | (subst h;simp_all;done) | (simp only [Prod.mk.injEq] at h;simp_all;done)
noncomputable def laws_markNodeS_l0 :((Int)×(Int)×(List TNode))→Option (((Int)×(Int)×(List TNode)) ⊕ ((List TNode)×(Int))):=fun (x17,x18,x19) =>
  cnd (ile (List.length x19:Int) x18) (
   some (.inr (x19,x17))) (
   bnd (idx x19 x18) fun v20 =>
   bnd (laws_markIntS (IntKind.i64.wrap ((IntKind.i64.wrap ((IntKind.i64.wrap ((IntKind.i64.wrap ((IntKind.i64.wrap ((IntKind.i64.wrap ((IntKind.i64.wrap ((IntKind.i64.wrap ((IntKind.i64.wrap (x17 + 1)) + 1)) + 1)) + 1)) + 1)) + 1)) + 1)) + 1)) + 1)) v20.path.verbs) fun (w22,w23) =>
   bnd (laws_markPointS w22 v20.path.points) fun (w25,w26) =>
   bnd (laws_markIntS (IntKind.i64.wrap ((IntKind.i64.wrap (w25 + 1)) + 1)) v20.dashes) fun (w28,w29) =>
   bnd (laws_markIntS (IntKind.i64.wrap ((IntKind.i64.wrap ((IntKind.i64.wrap ((IntKind.i64.wrap ((IntKind.i64.wrap ((IntKind.i64.wrap ((IntKind.i64.wrap ((IntKind.i64.wrap ((IntKind.i64.wrap ((IntKind.i64.wrap ((IntKind.i64.wrap ((IntKind.i64.wrap ((IntKind.i64.wrap ((IntKind.i64.wrap ((IntKind.i64.wrap (w28 + 1)) + 1)) + 1)) + 1)) + 1)) + 1)) + 1)) + 1)) + 1)) + 1)) + 1)) + 1)) + 1)) + 1)) + 1)) v20.clip.verbs) fun (w31,w32) =>
   bnd (laws_markPointS w31 v20.clip.points) fun (w34,w35) =>
   some (.inl (w34,(IntKind.i64.wrap (x18 + 1)),(List.set x19 (Int.toNat x18) (TNode.mk x17 (IntKind.i64.wrap (x17 + 1)) (ieq (Int.tmod (IntKind.i64.wrap ((IntKind.i64.wrap (x17 + 1)) + 1)) 3) 0) (TMat.mk (IntKind.i64.wrap ((IntKind.i64.wrap ((IntKind.i64.wrap (x17 + 1)) + 1)) + 1)) (IntKind.i64.wrap ((IntKind.i64.wrap ((IntKind.i64.wrap ((IntKind.i64.wrap (x17 + 1)) + 1)) + 1)) + 1)) (IntKind.i64.wrap ((IntKind.i64.wrap ((IntKind.i64.wrap ((IntKind.i64.wrap ((IntKind.i64.wrap (x17 + 1)) + 1)) + 1)) + 1)) + 1)) (IntKind.i64.wrap ((IntKind.i64.wrap ((IntKind.i64.wrap ((IntKind.i64.wrap ((IntKind.i64.wrap ((IntKind.i64.wrap (x17 + 1)) + 1)) + 1)) + 1)) + 1)) + 1)) (IntKind.i64.wrap ((IntKind.i64.wrap ((IntKind.i64.wrap ((IntKind.i64.wrap ((IntKind.i64.wrap ((IntKind.i64.wrap ((IntKind.i64.wrap (x17 + 1)) + 1)) + 1)) + 1)) + 1)) + 1)) + 1)) (IntKind.i64.wrap ((IntKind.i64.wrap ((IntKind.i64.wrap ((IntKind.i64.wrap ((IntKind.i64.wrap ((IntKind.i64.wrap ((IntKind.i64.wrap ((IntKind.i64.wrap (x17 + 1)) + 1)) + 1)) + 1)) + 1)) + 1)) + 1)) + 1))) (TPath.mk w23 w26) (ieq (Int.tmod w25 3) 0) (IntKind.i64.wrap (w25 + 1)) w29 (TPaint.mk w28 (TColor.mk (IntKind.i64.wrap (w28 + 1)) (IntKind.i64.wrap ((IntKind.i64.wrap (w28 + 1)) + 1)) (IntKind.i64.wrap ((IntKind.i64.wrap ((IntKind.i64.wrap (w28 + 1)) + 1)) + 1)) (IntKind.i64.wrap ((IntKind.i64.wrap ((IntKind.i64.wrap ((IntKind.i64.wrap (w28 + 1)) + 1)) + 1)) + 1))) (TColor.mk (IntKind.i64.wrap ((IntKind.i64.wrap ((IntKind.i64.wrap ((IntKind.i64.wrap ((IntKind.i64.wrap (w28 + 1)) + 1)) + 1)) + 1)) + 1)) (IntKind.i64.wrap ((IntKind.i64.wrap ((IntKind.i64.wrap ((IntKind.i64.wrap ((IntKind.i64.wrap ((IntKind.i64.wrap (w28 + 1)) + 1)) + 1)) + 1)) + 1)) + 1)) (IntKind.i64.wrap ((IntKind.i64.wrap ((IntKind.i64.wrap ((IntKind.i64.wrap ((IntKind.i64.wrap ((IntKind.i64.wrap ((IntKind.i64.wrap (w28 + 1)) + 1)) + 1)) + 1)) + 1)) + 1)) + 1)) (IntKind.i64.wrap ((IntKind.i64.wrap ((IntKind.i64.wrap ((IntKind.i64.wrap ((IntKind.i64.wrap ((IntKind.i64.wrap ((IntKind.i64.wrap ((IntKind.i64.wrap (w28 + 1)) + 1)) + 1)) + 1)) + 1)) + 1)) + 1)) + 1))) (TPoint.mk (IntKind.i64.wrap ((IntKind.i64.wrap ((IntKind.i64.wrap ((IntKind.i64.wrap ((IntKind.i64.wrap ((IntKind.i64.wrap ((IntKind.i64.wrap ((IntKind.i64.wrap ((IntKind.i64.wrap (w28 + 1)) + 1)) + 1)) + 1)) + 1)) + 1)) + 1)) + 1)) + 1)) (IntKind.i64.wrap ((IntKind.i64.wrap ((IntKind.i64.wrap ((IntKind.i64.wrap ((IntKind.i64.wrap ((IntKind.i64.wrap ((IntKind.i64.wrap ((IntKind.i64.wrap ((IntKind.i64.wrap ((IntKind.i64.wrap (w28 + 1)) + 1)) + 1)) + 1)) + 1)) + 1)) + 1)) + 1)) + 1)) + 1))) (TPoint.mk (IntKind.i64.wrap ((IntKind.i64.wrap ((IntKind.i64.wrap ((IntKind.i64.wrap ((IntKind.i64.wrap ((IntKind.i64.wrap ((IntKind.i64.wrap ((IntKind.i64.wrap ((IntKind.i64.wrap ((IntKind.i64.wrap ((IntKind.i64.wrap (w28 + 1)) + 1)) + 1)) + 1)) + 1)) + 1)) + 1)) + 1)) + 1)) + 1)) + 1)) (IntKind.i64.wrap ((IntKind.i64.wrap ((IntKind.i64.wrap ((IntKind.i64.wrap ((IntKind.i64.wrap ((IntKind.i64.wrap ((IntKind.i64.wrap ((IntKind.i64.wrap ((IntKind.i64.wrap ((IntKind.i64.wrap ((IntKind.i64.wrap ((IntKind.i64.wrap (w28 + 1)) + 1)) + 1)) + 1)) + 1)) + 1)) + 1)) + 1)) + 1)) + 1)) + 1)) + 1)))) (IntKind.i64.wrap ((IntKind.i64.wrap ((IntKind.i64.wrap ((IntKind.i64.wrap ((IntKind.i64.wrap ((IntKind.i64.wrap ((IntKind.i64.wrap ((IntKind.i64.wrap ((IntKind.i64.wrap ((IntKind.i64.wrap ((IntKind.i64.wrap ((IntKind.i64.wrap ((IntKind.i64.wrap (w28 + 1)) + 1)) + 1)) + 1)) + 1)) + 1)) + 1)) + 1)) + 1)) + 1)) + 1)) + 1)) + 1)) (IntKind.i64.wrap ((IntKind.i64.wrap ((IntKind.i64.wrap ((IntKind.i64.wrap ((IntKind.i64.wrap ((IntKind.i64.wrap ((IntKind.i64.wrap ((IntKind.i64.wrap ((IntKind.i64.wrap ((IntKind.i64.wrap ((IntKind.i64.wrap ((IntKind.i64.wrap ((IntKind.i64.wrap ((IntKind.i64.wrap (w28 + 1)) + 1)) + 1)) + 1)) + 1)) + 1)) + 1)) + 1)) + 1)) + 1)) + 1)) + 1)) + 1)) + 1)) (TPath.mk w32 w35))))))
noncomputable def laws_markNodeS_l0_S :((Int)×(Int)×(List TNode))→St:=fun (x17,x18,x19)=>⟨[(0,AV.osl 0 0 (List.length x19) (List.length x19)),(1,AV.int .i64 x17),(5,AV.int .i64 x18)],[(0,Ob.nar 31 (List.map eNode x19) [0,0,0,0,0,0,0,0,0,1,2,0,0,1,0,0,0,0,0,0,0,0,0,0,0,0,0,0,0,1,2])],1⟩
noncomputable def laws_markNodeS_l0_X :((List TNode)×(Int))→Ex×St:=fun (y36,y37)=>((.exit 0),⟨[(1,AV.int .i64 y37)],[(0,Ob.nar 31 (List.map eNode y36) [0,0,0,0,0,0,0,0,0,1,2,0,0,1,0,0,0,0,0,0,0,0,0,0,0,0,0,0,0,1,2])],1⟩)
noncomputable def laws_markNodeS (a0:Int) (a1:List TNode):Option ((Int)×(List TNode)) :=
 bnd (loopI laws_markNodeS_l0 (a0,0,a1)) fun (y36,y37) =>
 some (y37,y36)
noncomputable def laws_markNodeS_e (q:(Int)×(List TNode)):List AV×List Ob:=([AV.osl 0 0 (List.length q.2) (List.length q.2),AV.int .i64 q.1],[Ob.nar 31 (List.map eNode q.2) [0,0,0,0,0,0,0,0,0,1,2,0,0,1,0,0,0,0,0,0,0,0,0,0,0,0,0,0,0,1,2]])
noncomputable def laws_markNodeS_v (q:(Int)×(List TNode)) (r:(Int)×(List TNode)):AV×List Ob:=(AV.int .i64 r.1,[Ob.nar 31 (List.map eNode r.2) [0,0,0,0,0,0,0,0,0,1,2,0,0,1,0,0,0,0,0,0,0,0,0,0,0,0,0,0,0,1,2]])
noncomputable def laws_markNodeS_x:List AV→List Ob→Option (AV×List Ob):=xOf laws_markNodeS_e (fun q=>laws_markNodeS q.1 q.2) laws_markNodeS_v
theorem laws_markNodeS_i:∀ a b,laws_markNodeS_e a = laws_markNodeS_e b→a = b:=by rintro ⟨x0,x1⟩ ⟨y0,y1⟩ h;simp [laws_markNodeS_e] at h;simp [h]
@[simp] theorem laws_markNodeS_k (z0:Int) (z1:List TNode):laws_markNodeS_x [AV.osl 0 0 (List.length z1) (List.length z1),AV.int .i64 z0] [Ob.nar 31 (List.map eNode z1) [0,0,0,0,0,0,0,0,0,1,2,0,0,1,0,0,0,0,0,0,0,0,0,0,0,0,0,0,0,1,2]] = mapR (laws_markNodeS z0 z1) (fun r=>(AV.int .i64 r.1,[Ob.nar 31 (List.map eNode r.2) [0,0,0,0,0,0,0,0,0,1,2,0,0,1,0,0,0,0,0,0,0,0,0,0,0,0,0,0,0,1,2]])) :=
 xOf_eq laws_markNodeS_i (z0,z1)
theorem laws_markNodeS_n {a0:Int} {a1:List TNode} {r0:Int} {r1:List TNode} (h:laws_markNodeS a0 a1 = some (r0,r1)):List.length a1 = List.length r1:=by
 unfold laws_markNodeS at h;replace h:HS _ _:=h
 obtain ⟨q,e1,h⟩:=HS.bnd h
 replace e1:=loopI_pres (P:=fun s=>List.length a1 = List.length s.2.2) (Q:=fun s=>List.length a1 = List.length s.1) e1 (by
  rintro ⟨x17,x18,x19⟩ o hp h;dsimp only at hp;unfold laws_markNodeS_l0 at h;replace h:HS _ _:=h
  rcases HS.cnd h with h | h
  ·skip
   have h:=HS.some h
   first | (cases h;simp_all;done) | (subst h;simp_all;done) | (simp only [Prod.mk.injEq] at h;simp_all;done)
  ·skip
   obtain ⟨v20,e2,h⟩:=HS.bnd h
   clear e2
   obtain ⟨⟨w22,w23⟩,e3,h⟩:=HS.bnd h
   dsimp only at h
   replace e3:=laws_markIntS_n e3
   obtain ⟨⟨w25,w26⟩,e4,h⟩:=HS.bnd h
   dsimp only at h
   replace e4:=laws_markPointS_n e4
   obtain ⟨⟨w28,w29⟩,e5,h⟩:=HS.bnd h
   dsimp only at h
   replace e5:=laws_markIntS_n e5
   obtain ⟨⟨w31,w32⟩,e6,h⟩:=HS.bnd h
   dsimp only at h
   replace e6:=laws_markIntS_n e6
   obtain ⟨⟨w34,w35⟩,e7,h⟩:=HS.bnd h
   dsimp only at h
   replace e7:=laws_markPointS_n e7
   have h:=HS.some h
   first | (cases h;simp_all;done) | (subst h;simp_all;done) | (simp only [Prod.mk.injEq] at h;simp_all;done)) (by simp)
 obtain ⟨y36,y37⟩:=q
 dsimp only at h e1
 have h:=HS.some h
 first | (cases h;simp_all;done) | (subst h;simp_all;done) | (simp only [Prod.mk.injEq] at h;simp_all;done)
noncomputable def laws_markScene (a0:Int) (a1:List TNode):Option ((Int)×(List TNode)) :=
 bnd (laws_markNodeS a0 a1) fun (w2,w3) =>
 some (w2,w3)
noncomputable def laws_markScene_e (q:(Int)×(List TNode)):List AV×List Ob:=([AV.agg [AV.osl 0 0 (List.length q.2) (List.length q.2)],AV.int .i64 q.1],[Ob.nar 31 (List.map eNode q.2) [0,0,0,0,0,0,0,0,0,1,2,0,0,1,0,0,0,0,0,0,0,0,0,0,0,0,0,0,0,1,2]])
noncomputable def laws_markScene_v (q:(Int)×(List TNode)) (r:(Int)×(List TNode)):AV×List Ob:=(AV.int .i64 r.1,[Ob.nar 31 (List.map eNode r.2) [0,0,0,0,0,0,0,0,0,1,2,0,0,1,0,0,0,0,0,0,0,0,0,0,0,0,0,0,0,1,2]])
noncomputable def laws_markScene_x:List AV→List Ob→Option (AV×List Ob):=xOf laws_markScene_e (fun q=>laws_markScene q.1 q.2) laws_markScene_v
theorem laws_markScene_i:∀ a b,laws_markScene_e a = laws_markScene_e b→a = b:=by rintro ⟨x0,x1⟩ ⟨y0,y1⟩ h;simp [laws_markScene_e] at h;simp [h]
@[simp] theorem laws_markScene_k (z0:Int) (z1:List TNode):laws_markScene_x [AV.agg [AV.osl 0 0 (List.length z1) (List.length z1)],AV.int .i64 z0] [Ob.nar 31 (List.map eNode z1) [0,0,0,0,0,0,0,0,0,1,2,0,0,1,0,0,0,0,0,0,0,0,0,0,0,0,0,0,0,1,2]] = mapR (laws_markScene z0 z1) (fun r=>(AV.int .i64 r.1,[Ob.nar 31 (List.map eNode r.2) [0,0,0,0,0,0,0,0,0,1,2,0,0,1,0,0,0,0,0,0,0,0,0,0,0,0,0,0,0,1,2]])) :=
 xOf_eq laws_markScene_i (z0,z1)
theorem laws_markScene_n {a0:Int} {a1:List TNode} {r0:Int} {r1:List TNode} (h:laws_markScene a0 a1 = some (r0,r1)):List.length a1 = List.length r1:=by
 unfold laws_markScene at h;replace h:HS _ _:=h
 obtain ⟨⟨w2,w3⟩,e1,h⟩:=HS.bnd h
 dsimp only at h
 replace e1:=laws_markNodeS_n e1
 have h:=HS.some h
 first | (cases h;simp_all;done) | (subst h;simp_all;done) | (simp only [Prod.mk.injEq] at h;simp_all;done)
noncomputable def laws_heldIntS_l0 (a0:List Int):((Int)×(Int))→Option (((Int)×(Int)) ⊕ (((Int)) ⊕ (Unit))):=fun (x2,x3) =>
  cnd (ile (List.length a0:Int) x3) (
   some (.inr (.inl x2))) (
   bnd (idx a0 x3) fun v4 =>
   cnd (ieq v4 x2) (
    some (.inl ((IntKind.i64.wrap (x2 + 1)),(IntKind.i64.wrap (x3 + 1))))) (
    some (.inr (.inr ()))))
noncomputable def laws_heldIntS_l0_S (a0:List Int):((Int)×(Int))→St:=fun (x2,x3)=>⟨[(0,AV.fsl (List.map (AV.int .i64) a0)),(1,AV.int .i64 x2),(5,AV.int .i64 x3)],[],0⟩
noncomputable def laws_heldIntS_l0_X (a0:List Int):(((Int)) ⊕ (Unit))→Ex×St:=fun q=>match q with
 | .inl y5=>((.exit 0),⟨[(1,AV.int .i64 y5)],[],0⟩)
 | .inr _=>(.ret,⟨[(4,AV.int .i64 (-1))],[],0⟩)
noncomputable def laws_heldIntS (a0:List Int) (a1:Int):Option ((Int)) :=
  bnd (loopI (laws_heldIntS_l0 a0) (a1,0)) fun q=>match q with
  | .inl y5 =>
   some y5
  | .inr () =>
   some (-1)
noncomputable def laws_heldIntS_e (q:(List Int)×(Int)):List AV×List Ob:=([AV.fsl (List.map (AV.int .i64) q.1),AV.int .i64 q.2],[])
noncomputable def laws_heldIntS_v (q:(List Int)×(Int)) (r:(Int)):AV×List Ob:=(AV.int .i64 r,[])
noncomputable def laws_heldIntS_x:List AV→List Ob→Option (AV×List Ob):=xOf laws_heldIntS_e (fun q=>laws_heldIntS q.1 q.2) laws_heldIntS_v
theorem laws_heldIntS_i:∀ a b,laws_heldIntS_e a = laws_heldIntS_e b→a = b:=by rintro ⟨x0,x1⟩ ⟨y0,y1⟩ h;simp [laws_heldIntS_e] at h;simp [h]
@[simp] theorem laws_heldIntS_k (z0:List Int) (z1:Int):laws_heldIntS_x [AV.fsl (List.map (AV.int .i64) z0),AV.int .i64 z1] [] = mapR (laws_heldIntS z0 z1) (fun r=>(AV.int .i64 r,[])) :=
 xOf_eq laws_heldIntS_i (z0,z1)
noncomputable def laws_heldPointS_l0 (a0:List TPoint):((Int)×(Int))→Option (((Int)×(Int)) ⊕ (((Int)) ⊕ (Unit))):=fun (x2,x3) =>
  cnd (ile (List.length a0:Int) x3) (
   some (.inr (.inl x2))) (
   bnd (idx a0 x3) fun v4 =>
   cnd (ieq v4.x x2) (
    cnd (ieq v4.y (IntKind.i64.wrap (x2 + 1))) (
     some (.inl ((IntKind.i64.wrap ((IntKind.i64.wrap (x2 + 1)) + 1)),(IntKind.i64.wrap (x3 + 1))))) (
     some (.inr (.inr ())))) (
    some (.inr (.inr ()))))
noncomputable def laws_heldPointS_l0_S (a0:List TPoint):((Int)×(Int))→St:=fun (x2,x3)=>⟨[(0,AV.fsl (List.map ePoint a0)),(1,AV.int .i64 x2),(5,AV.int .i64 x3)],[],0⟩
noncomputable def laws_heldPointS_l0_X (a0:List TPoint):(((Int)) ⊕ (Unit))→Ex×St:=fun q=>match q with
 | .inl y5=>((.exit 0),⟨[(1,AV.int .i64 y5)],[],0⟩)
 | .inr _=>(.ret,⟨[(4,AV.int .i64 (-1))],[],0⟩)
noncomputable def laws_heldPointS (a0:List TPoint) (a1:Int):Option ((Int)) :=
  bnd (loopI (laws_heldPointS_l0 a0) (a1,0)) fun q=>match q with
  | .inl y5 =>
   some y5
  | .inr () =>
   some (-1)
noncomputable def laws_heldPointS_e (q:(List TPoint)×(Int)):List AV×List Ob:=([AV.fsl (List.map ePoint q.1),AV.int .i64 q.2],[])
noncomputable def laws_heldPointS_v (q:(List TPoint)×(Int)) (r:(Int)):AV×List Ob:=(AV.int .i64 r,[])
noncomputable def laws_heldPointS_x:List AV→List Ob→Option (AV×List Ob):=xOf laws_heldPointS_e (fun q=>laws_heldPointS q.1 q.2) laws_heldPointS_v
theorem laws_heldPointS_i:∀ a b,laws_heldPointS_e a = laws_heldPointS_e b→a = b:=by rintro ⟨x0,x1⟩ ⟨y0,y1⟩ h;simp [laws_heldPointS_e] at h;simp [h]
@[simp] theorem laws_heldPointS_k (z0:List TPoint) (z1:Int):laws_heldPointS_x [AV.fsl (List.map ePoint z0),AV.int .i64 z1] [] = mapR (laws_heldPointS z0 z1) (fun r=>(AV.int .i64 r,[])) :=
 xOf_eq laws_heldPointS_i (z0,z1)
noncomputable def laws_heldNodeS_l0 (a0:List TNode):((Int)×(Int))→Option (((Int)×(Int)) ⊕ (((Int)) ⊕ (Unit))):=fun (x7,x8) =>
  cnd (ile (List.length a0:Int) x8) (
   some (.inr (.inl x7))) (
   bnd (idx a0 x8) fun v9 =>
   cnd (ieq v9.id x7) (
    cnd (ieq v9.parent (IntKind.i64.wrap (x7 + 1))) (
     cnd (andB (decide (v9.group = (ieq (Int.tmod (IntKind.i64.wrap ((IntKind.i64.wrap (x7 + 1)) + 1)) 3) 0))) true) (
      cnd (ieq v9.mat.a (IntKind.i64.wrap ((IntKind.i64.wrap ((IntKind.i64.wrap (x7 + 1)) + 1)) + 1))) (
       cnd (ieq v9.mat.b (IntKind.i64.wrap ((IntKind.i64.wrap ((IntKind.i64.wrap ((IntKind.i64.wrap (x7 + 1)) + 1)) + 1)) + 1))) (
        cnd (ieq v9.mat.c (IntKind.i64.wrap ((IntKind.i64.wrap ((IntKind.i64.wrap ((IntKind.i64.wrap ((IntKind.i64.wrap (x7 + 1)) + 1)) + 1)) + 1)) + 1))) (
         cnd (ieq v9.mat.d (IntKind.i64.wrap ((IntKind.i64.wrap ((IntKind.i64.wrap ((IntKind.i64.wrap ((IntKind.i64.wrap ((IntKind.i64.wrap (x7 + 1)) + 1)) + 1)) + 1)) + 1)) + 1))) (
          cnd (ieq v9.mat.e (IntKind.i64.wrap ((IntKind.i64.wrap ((IntKind.i64.wrap ((IntKind.i64.wrap ((IntKind.i64.wrap ((IntKind.i64.wrap ((IntKind.i64.wrap (x7 + 1)) + 1)) + 1)) + 1)) + 1)) + 1)) + 1))) (
           cnd (ieq v9.mat.f (IntKind.i64.wrap ((IntKind.i64.wrap ((IntKind.i64.wrap ((IntKind.i64.wrap ((IntKind.i64.wrap ((IntKind.i64.wrap ((IntKind.i64.wrap ((IntKind.i64.wrap (x7 + 1)) + 1)) + 1)) + 1)) + 1)) + 1)) + 1)) + 1))) (
            bnd (laws_heldIntS v9.path.verbs (IntKind.i64.wrap ((IntKind.i64.wrap ((IntKind.i64.wrap ((IntKind.i64.wrap ((IntKind.i64.wrap ((IntKind.i64.wrap ((IntKind.i64.wrap ((IntKind.i64.wrap ((IntKind.i64.wrap (x7 + 1)) + 1)) + 1)) + 1)) + 1)) + 1)) + 1)) + 1)) + 1))) fun v10 =>
            cnd (ile 0 v10) (
             bnd (laws_heldPointS v9.path.points v10) fun v11 =>
             cnd (ile 0 v11) (
              cnd (andB (decide (v9.even = (ieq (Int.tmod v11 3) 0))) true) (
               cnd (ieq v9.width (IntKind.i64.wrap (v11 + 1))) (
                bnd (laws_heldIntS v9.dashes (IntKind.i64.wrap ((IntKind.i64.wrap (v11 + 1)) + 1))) fun v12 =>
                cnd (ile 0 v12) (
                 cnd (ieq v9.paint.kind v12) (
                  cnd (ieq v9.paint.first.r (IntKind.i64.wrap (v12 + 1))) (
                   cnd (ieq v9.paint.first.g (IntKind.i64.wrap ((IntKind.i64.wrap (v12 + 1)) + 1))) (
                    cnd (ieq v9.paint.first.b (IntKind.i64.wrap ((IntKind.i64.wrap ((IntKind.i64.wrap (v12 + 1)) + 1)) + 1))) (
                     cnd (ieq v9.paint.first.a (IntKind.i64.wrap ((IntKind.i64.wrap ((IntKind.i64.wrap ((IntKind.i64.wrap (v12 + 1)) + 1)) + 1)) + 1))) (
                      cnd (ieq v9.paint.last.r (IntKind.i64.wrap ((IntKind.i64.wrap ((IntKind.i64.wrap ((IntKind.i64.wrap ((IntKind.i64.wrap (v12 + 1)) + 1)) + 1)) + 1)) + 1))) (
                       cnd (ieq v9.paint.last.g (IntKind.i64.wrap ((IntKind.i64.wrap ((IntKind.i64.wrap ((IntKind.i64.wrap ((IntKind.i64.wrap ((IntKind.i64.wrap (v12 + 1)) + 1)) + 1)) + 1)) + 1)) + 1))) (
                        cnd (ieq v9.paint.last.b (IntKind.i64.wrap ((IntKind.i64.wrap ((IntKind.i64.wrap ((IntKind.i64.wrap ((IntKind.i64.wrap ((IntKind.i64.wrap ((IntKind.i64.wrap (v12 + 1)) + 1)) + 1)) + 1)) + 1)) + 1)) + 1))) (
                         cnd (ieq v9.paint.last.a (IntKind.i64.wrap ((IntKind.i64.wrap ((IntKind.i64.wrap ((IntKind.i64.wrap ((IntKind.i64.wrap ((IntKind.i64.wrap ((IntKind.i64.wrap ((IntKind.i64.wrap (v12 + 1)) + 1)) + 1)) + 1)) + 1)) + 1)) + 1)) + 1))) (
                          cnd (ieq v9.paint.from_.x (IntKind.i64.wrap ((IntKind.i64.wrap ((IntKind.i64.wrap ((IntKind.i64.wrap ((IntKind.i64.wrap ((IntKind.i64.wrap ((IntKind.i64.wrap ((IntKind.i64.wrap ((IntKind.i64.wrap (v12 + 1)) + 1)) + 1)) + 1)) + 1)) + 1)) + 1)) + 1)) + 1))) (
                           cnd (ieq v9.paint.from_.y (IntKind.i64.wrap ((IntKind.i64.wrap ((IntKind.i64.wrap ((IntKind.i64.wrap ((IntKind.i64.wrap ((IntKind.i64.wrap ((IntKind.i64.wrap ((IntKind.i64.wrap ((IntKind.i64.wrap ((IntKind.i64.wrap (v12 + 1)) + 1)) + 1)) + 1)) + 1)) + 1)) + 1)) + 1)) + 1)) + 1))) (
                            cnd (ieq v9.paint.to.x (IntKind.i64.wrap ((IntKind.i64.wrap ((IntKind.i64.wrap ((IntKind.i64.wrap ((IntKind.i64.wrap ((IntKind.i64.wrap ((IntKind.i64.wrap ((IntKind.i64.wrap ((IntKind.i64.wrap ((IntKind.i64.wrap ((IntKind.i64.wrap (v12 + 1)) + 1)) + 1)) + 1)) + 1)) + 1)) + 1)) + 1)) + 1)) + 1)) + 1))) (
                             cnd (ieq v9.paint.to.y (IntKind.i64.wrap ((IntKind.i64.wrap ((IntKind.i64.wrap ((IntKind.i64.wrap ((IntKind.i64.wrap ((IntKind.i64.wrap ((IntKind.i64.wrap ((IntKind.i64.wrap ((IntKind.i64.wrap ((IntKind.i64.wrap ((IntKind.i64.wrap ((IntKind.i64.wrap (v12 + 1)) + 1)) + 1)) + 1)) + 1)) + 1)) + 1)) + 1)) + 1)) + 1)) + 1)) + 1))) (
                              cnd (ieq v9.mode (IntKind.i64.wrap ((IntKind.i64.wrap ((IntKind.i64.wrap ((IntKind.i64.wrap ((IntKind.i64.wrap ((IntKind.i64.wrap ((IntKind.i64.wrap ((IntKind.i64.wrap ((IntKind.i64.wrap ((IntKind.i64.wrap ((IntKind.i64.wrap ((IntKind.i64.wrap ((IntKind.i64.wrap (v12 + 1)) + 1)) + 1)) + 1)) + 1)) + 1)) + 1)) + 1)) + 1)) + 1)) + 1)) + 1)) + 1))) (
                               cnd (ieq v9.fade (IntKind.i64.wrap ((IntKind.i64.wrap ((IntKind.i64.wrap ((IntKind.i64.wrap ((IntKind.i64.wrap ((IntKind.i64.wrap ((IntKind.i64.wrap ((IntKind.i64.wrap ((IntKind.i64.wrap ((IntKind.i64.wrap ((IntKind.i64.wrap ((IntKind.i64.wrap ((IntKind.i64.wrap ((IntKind.i64.wrap (v12 + 1)) + 1)) + 1)) + 1)) + 1)) + 1)) + 1)) + 1)) + 1)) + 1)) + 1)) + 1)) + 1)) + 1))) (
                                bnd (laws_heldIntS v9.clip.verbs (IntKind.i64.wrap ((IntKind.i64.wrap ((IntKind.i64.wrap ((IntKind.i64.wrap ((IntKind.i64.wrap ((IntKind.i64.wrap ((IntKind.i64.wrap ((IntKind.i64.wrap ((IntKind.i64.wrap ((IntKind.i64.wrap ((IntKind.i64.wrap ((IntKind.i64.wrap ((IntKind.i64.wrap ((IntKind.i64.wrap ((IntKind.i64.wrap (v12 + 1)) + 1)) + 1)) + 1)) + 1)) + 1)) + 1)) + 1)) + 1)) + 1)) + 1)) + 1)) + 1)) + 1)) + 1))) fun v13 =>
                                cnd (ile 0 v13) (
                                 bnd (laws_heldPointS v9.clip.points v13) fun v14 =>
                                 cnd (ile 0 v14) (
                                  some (.inl (v14,(IntKind.i64.wrap (x8 + 1))))) (
                                  some (.inr (.inr ())))) (
                                 some (.inr (.inr ())))) (
                                some (.inr (.inr ())))) (
                               some (.inr (.inr ())))) (
                              some (.inr (.inr ())))) (
                             some (.inr (.inr ())))) (
                            some (.inr (.inr ())))) (
                           some (.inr (.inr ())))) (
                          some (.inr (.inr ())))) (
                         some (.inr (.inr ())))) (
                        some (.inr (.inr ())))) (
                       some (.inr (.inr ())))) (
                      some (.inr (.inr ())))) (
                     some (.inr (.inr ())))) (
                    some (.inr (.inr ())))) (
                   some (.inr (.inr ())))) (
                  some (.inr (.inr ())))) (
                 some (.inr (.inr ())))) (
                some (.inr (.inr ())))) (
               some (.inr (.inr ())))) (
              some (.inr (.inr ())))) (
             some (.inr (.inr ())))) (
            some (.inr (.inr ())))) (
           some (.inr (.inr ())))) (
          some (.inr (.inr ())))) (
         some (.inr (.inr ())))) (
        some (.inr (.inr ())))) (
       some (.inr (.inr ())))) (
      some (.inr (.inr ())))) (
     some (.inr (.inr ())))) (
    some (.inr (.inr ()))))
noncomputable def laws_heldNodeS_l0_S (a0:List TNode):((Int)×(Int))→St:=fun (x7,x8)=>⟨[(0,AV.fsl (List.map eNode a0)),(1,AV.int .i64 x7),(5,AV.int .i64 x8)],[],0⟩
noncomputable def laws_heldNodeS_l0_X (a0:List TNode):(((Int)) ⊕ (Unit))→Ex×St:=fun q=>match q with
 | .inl y15=>((.exit 0),⟨[(1,AV.int .i64 y15)],[],0⟩)
 | .inr _=>(.ret,⟨[(4,AV.int .i64 (-1))],[],0⟩)
noncomputable def laws_heldNodeS (a0:List TNode) (a1:Int):Option ((Int)) :=
  bnd (loopI (laws_heldNodeS_l0 a0) (a1,0)) fun q=>match q with
  | .inl y15 =>
   some y15
  | .inr () =>
   some (-1)
noncomputable def laws_heldNodeS_e (q:(List TNode)×(Int)):List AV×List Ob:=([AV.fsl (List.map eNode q.1),AV.int .i64 q.2],[])
noncomputable def laws_heldNodeS_v (q:(List TNode)×(Int)) (r:(Int)):AV×List Ob:=(AV.int .i64 r,[])
noncomputable def laws_heldNodeS_x:List AV→List Ob→Option (AV×List Ob):=xOf laws_heldNodeS_e (fun q=>laws_heldNodeS q.1 q.2) laws_heldNodeS_v
theorem laws_heldNodeS_i:∀ a b,laws_heldNodeS_e a = laws_heldNodeS_e b→a = b:=by rintro ⟨x0,x1⟩ ⟨y0,y1⟩ h;simp [laws_heldNodeS_e] at h;simp [h]
@[simp] theorem laws_heldNodeS_k (z0:List TNode) (z1:Int):laws_heldNodeS_x [AV.fsl (List.map eNode z0),AV.int .i64 z1] [] = mapR (laws_heldNodeS z0 z1) (fun r=>(AV.int .i64 r,[])) :=
 xOf_eq laws_heldNodeS_i (z0,z1)
noncomputable def laws_heldScene (a0:TScene) (a1:Int):Option ((Int)) :=
  bnd (laws_heldNodeS a0.nodes a1) fun v1 =>
  cnd (ile 0 v1) (
   some v1) (
   some (-1))
noncomputable def laws_heldScene_e (q:(TScene)×(Int)):List AV×List Ob:=([AV.agg [AV.fsl (List.map eNode q.1.nodes)],AV.int .i64 q.2],[])
noncomputable def laws_heldScene_v (q:(TScene)×(Int)) (r:(Int)):AV×List Ob:=(AV.int .i64 r,[])
noncomputable def laws_heldScene_x:List AV→List Ob→Option (AV×List Ob):=xOf laws_heldScene_e (fun q=>laws_heldScene q.1 q.2) laws_heldScene_v
theorem laws_heldScene_i:∀ a b,laws_heldScene_e a = laws_heldScene_e b→a = b:=by rintro ⟨⟨x0⟩,x1⟩ ⟨⟨y0⟩,y1⟩ h;simp [laws_heldScene_e] at h;simp [h]
@[simp] theorem laws_heldScene_k (z0:List TNode) (z1:Int):laws_heldScene_x [AV.agg [AV.fsl (List.map eNode z0)],AV.int .i64 z1] [] = mapR (laws_heldScene ⟨z0⟩ z1) (fun r=>(AV.int .i64 r,[])) :=
 xOf_eq laws_heldScene_i (⟨z0⟩,z1)
noncomputable def laws_FnExactPlaceNode (a0:TScene) (a1:Int) (a2:Int) (a3:Int):Option ((Bool)) :=
  bnd (laws_szScene a0 1048576) fun v1 =>
  cnd (ile 0 v1) (
   bnd (laws_toScene a0) fun v2 =>
   bnd (spec_PlaceNode (TScene.mk v2) a1 a2 a3) fun (w4,w5) =>
   bnd (impl_PlaceNode (TScene.mk v2) a1 a2 a3) fun (w7,w8) =>
   bnd (laws_eqScene (TScene.mk w8) w4) fun v9 =>
   cnd v9 (
    cnd (ieq w7 w5) (
     bnd (laws_eqScene (TScene.mk v2) (TScene.mk v2)) fun v10 =>
     cnd v10 (
      bnd (laws_markScene 1 v2) fun (w12,w13) =>
      cnd (ile 0 w12) (
       bnd (laws_markScene 1 w8) fun (w15,w16) =>
       bnd (laws_heldScene (TScene.mk w16) 1) fun v17 =>
       cnd (ile 0 v17) (
        cnd (ieq v17 w15) (
         some true) (
         some false)) (
        some false)) (
       some false)) (
      some false)) (
     some false)) (
    some false)) (
   some true)
noncomputable def laws_FnExactPlaceNode_e (q:(TScene)×(Int)×(Int)×(Int)):List AV×List Ob:=([AV.agg [AV.fsl (List.map eNode q.1.nodes)],AV.int .i64 q.2.1,AV.int .i64 q.2.2.1,AV.int .i64 q.2.2.2],[])
noncomputable def laws_FnExactPlaceNode_v (q:(TScene)×(Int)×(Int)×(Int)) (r:(Bool)):AV×List Ob:=(AV.bool r,[])
noncomputable def laws_FnExactPlaceNode_x:List AV→List Ob→Option (AV×List Ob):=xOf laws_FnExactPlaceNode_e (fun q=>laws_FnExactPlaceNode q.1 q.2.1 q.2.2.1 q.2.2.2) laws_FnExactPlaceNode_v
theorem laws_FnExactPlaceNode_i:∀ a b,laws_FnExactPlaceNode_e a = laws_FnExactPlaceNode_e b→a = b:=by rintro ⟨⟨x0⟩,x1,x2,x3⟩ ⟨⟨y0⟩,y1,y2,y3⟩ h;simp [laws_FnExactPlaceNode_e] at h;simp [h]
@[simp] theorem laws_FnExactPlaceNode_k (z0:List TNode) (z1:Int) (z2:Int) (z3:Int):laws_FnExactPlaceNode_x [AV.agg [AV.fsl (List.map eNode z0)],AV.int .i64 z1,AV.int .i64 z2,AV.int .i64 z3] [] = mapR (laws_FnExactPlaceNode ⟨z0⟩ z1 z2 z3) (fun r=>(AV.bool r,[])) :=
 xOf_eq laws_FnExactPlaceNode_i (⟨z0⟩,z1,z2,z3)
end Go.Proofs.Ytapchldnmkfkoab.Am
