import Derived.Test.YtapchldnmkfkoabDoorAmRsTy
set_option linter.unusedVariables false
set_option linter.unusedSimpArgs false
set_option linter.unusedSectionVars false
namespace Go.Proofs.YtapchldnmkfkoabDoor.Am
open Go Go.Proofs
set_option maxRecDepth 100000
set_option linter.unusedSimpArgs false
set_option linter.unusedVariables false
set_option maxHeartbeats 4000000
noncomputable def spec_l24Lines_l0 (a0 : List UInt8) : ((Int) × (Int) × (List (List UInt8))) → Option (((Int) × (Int) × (List (List UInt8))) ⊕ ((List (List UInt8)) × (Int))) := fun (x3,x4,x5) =>
  cnd (ile (List.length a0 : Int) x4) (
   some (.inr (x5,x3))) (
   bnd (idx a0 x4) fun b6 =>
   cnd (ieq (b6.toNat : Int) 10) (
    bnd (slc a0 x3 x4) fun v7 =>
    chkP ((List.length x5 + 1) * 16 ≤ 17592186044416) (
    nam ((x5 ++ [v7]) : List (List UInt8)) fun l8 =>
    some (.inl ((IntKind.i64.wrap (x4 + 1)),(IntKind.i64.wrap (x4 + 1)),l8)))) (
    some (.inl (x3,(IntKind.i64.wrap (x4 + 1)),x5))))
noncomputable def spec_l24Lines_l0_S (a0 : List UInt8) : ((Int) × (Int) × (List (List UInt8))) → St := fun (x3,x4,x5) => ⟨[(0,AV.str (bs a0)),(3,AV.osl 0 0 (List.length x5) (List.length x5)),(4,AV.int .i64 x3),(5,AV.int .i64 x4)],[(0,Ob.arr 1 (List.map eS x5) false)],1⟩
noncomputable def spec_l24Lines_l0_X (a0 : List UInt8) : ((List (List UInt8)) × (Int)) → Ex × St := fun (y9,y10) => ((.exit 0),⟨[(0,AV.str (bs a0)),(3,AV.osl 0 0 (List.length y9) (List.length y9)),(4,AV.int .i64 y10)],[(0,Ob.arr 1 (List.map eS y9) false)],1⟩)
noncomputable def spec_l24Lines (a0 : List UInt8) : Option ((List (List UInt8))) :=
  bnd (loopI (spec_l24Lines_l0 a0) (0,0,[])) fun (y9,y10) =>
  cnd (ile (List.length a0 : Int) y10) (
   some y9) (
   bnd (slc a0 y10 (List.length a0 : Int)) fun v11 =>
   chkP ((List.length y9 + 1) * 16 ≤ 17592186044416) (
   nam ((y9 ++ [v11]) : List (List UInt8)) fun l12 =>
   some l12))
noncomputable def spec_l24Lines_e (q : (List UInt8)) : List AV × List Ob := ([AV.str (bs q)],[])
noncomputable def spec_l24Lines_v (q : (List UInt8)) (r : (List (List UInt8))) : AV × List Ob := (AV.fsl (List.map eS r),[])
noncomputable def spec_l24Lines_x : List AV → List Ob → Option (AV × List Ob) := xOf spec_l24Lines_e (fun q => spec_l24Lines q) spec_l24Lines_v
theorem spec_l24Lines_i : ∀ a b,spec_l24Lines_e a = spec_l24Lines_e b → a = b := by rintro x0 y0 h; simp [spec_l24Lines_e] at h; simp [h]
@[simp] theorem spec_l24Lines_k (z0 : List UInt8) : spec_l24Lines_x [AV.str (bs z0)] [] = mapR (spec_l24Lines z0) (fun r => (AV.fsl (List.map eS r),[])) :=
  xOf_eq spec_l24Lines_i z0
noncomputable def spec_PartsOf_l0 (a0 : List UInt8) : ((Int) × (Int) × (List (List UInt8))) → Option (((Int) × (Int) × (List (List UInt8))) ⊕ ((Unit) ⊕ ((List (List UInt8))))) := fun (x2,x3,x7) =>
  cnd (ile x3 (List.length a0 : Int)) (
   cnd (ile (List.length a0 : Int) x3) (
    cnd (ile x3 x2) (
     some (.inl ((IntKind.i64.wrap (x3 + 1)),(IntKind.i64.wrap (x3 + 1)),x7))) (
     bnd (slc a0 x2 x3) fun v8 =>
     chkP ((List.length x7 + 1) * 16 ≤ 17592186044416) (
     nam ((x7 ++ [v8]) : List (List UInt8)) fun l9 =>
     some (.inl ((IntKind.i64.wrap (x3 + 1)),(IntKind.i64.wrap (x3 + 1)),l9))))) (
    bnd (idx a0 x3) fun b10 =>
    cnd (ile 32 (b10.toNat : Int)) (
     cnd (ile (b10.toNat : Int) 126) (
      cnd (ieq (b10.toNat : Int) 32) (
       cnd (ile x3 x2) (
        some (.inl ((IntKind.i64.wrap (x3 + 1)),(IntKind.i64.wrap (x3 + 1)),x7))) (
        bnd (slc a0 x2 x3) fun v11 =>
        chkP ((List.length x7 + 1) * 16 ≤ 17592186044416) (
        nam ((x7 ++ [v11]) : List (List UInt8)) fun l12 =>
        some (.inl ((IntKind.i64.wrap (x3 + 1)),(IntKind.i64.wrap (x3 + 1)),l12))))) (
       some (.inl (x2,(IntKind.i64.wrap (x3 + 1)),x7)))) (
      some (.inr (.inl ())))) (
     some (.inr (.inl ()))))) (
   some (.inr (.inr x7)))
noncomputable def spec_PartsOf_l0_S (a0 : List UInt8) : ((Int) × (Int) × (List (List UInt8))) → St := fun (x2,x3,x7) => ⟨[(0,AV.str (bs a0)),(4,AV.osl 0 0 (List.length x7) (List.length x7)),(5,AV.int .i64 x2),(6,AV.int .i64 x3)],[(0,Ob.arr 1 (List.map eS x7) false)],1⟩
noncomputable def spec_PartsOf_l0_X (a0 : List UInt8) : ((Unit) ⊕ ((List (List UInt8)))) → Ex × St := fun q => match q with
  | .inl _ => (.ret,⟨[(2,AV.osl 0 0 0 0),(3,AV.bool false)],[(0,Ob.arr 1 (List.map eS []) false)],1⟩)
  | .inr y13 => ((.exit 0),⟨[(4,AV.osl 0 0 (List.length y13) (List.length y13))],[(0,Ob.arr 1 (List.map eS y13) false)],1⟩)
noncomputable def spec_PartsOf (a0 : List UInt8) : Option ((List (List UInt8)) × (Bool)) :=
  cnd (ile (List.length a0 : Int) 600) (
   bnd (loopI (spec_PartsOf_l0 a0) (0,0,[])) fun q => match q with
   | .inl () =>
    some ([],false)
   | .inr y13 =>
    cnd (ile (List.length y13 : Int) 10) (
     some (y13,true)) (
     some ([],false))) (
   some ([],false))
noncomputable def spec_PartsOf_e (q : (List UInt8)) : List AV × List Ob := ([AV.str (bs q)],[])
noncomputable def spec_PartsOf_v (q : (List UInt8)) (r : (List (List UInt8)) × (Bool)) : AV × List Ob := (AV.tup [AV.fsl (List.map eS r.1),AV.bool r.2],[])
noncomputable def spec_PartsOf_x : List AV → List Ob → Option (AV × List Ob) := xOf spec_PartsOf_e (fun q => spec_PartsOf q) spec_PartsOf_v
theorem spec_PartsOf_i : ∀ a b,spec_PartsOf_e a = spec_PartsOf_e b → a = b := by rintro x0 y0 h; simp [spec_PartsOf_e] at h; simp [h]
@[simp] theorem spec_PartsOf_k (z0 : List UInt8) : spec_PartsOf_x [AV.str (bs z0)] [] = mapR (spec_PartsOf z0) (fun r => (AV.tup [AV.fsl (List.map eS r.1),AV.bool r.2],[])) :=
  xOf_eq spec_PartsOf_i z0
noncomputable def spec_l01Figure (a0 : Int) : Option ((Int)) :=
  cnd (ile 10 a0) (
   some (IntKind.u8.wrap (IntKind.i64.wrap ((IntKind.i64.wrap (97 + a0)) - 10)))) (
   some (IntKind.u8.wrap (IntKind.i64.wrap (48 + a0))))
noncomputable def spec_l01Figure_e (q : (Int)) : List AV × List Ob := ([AV.int .i64 q],[])
noncomputable def spec_l01Figure_v (q : (Int)) (r : (Int)) : AV × List Ob := (AV.int .u8 r,[])
noncomputable def spec_l01Figure_x : List AV → List Ob → Option (AV × List Ob) := xOf spec_l01Figure_e (fun q => spec_l01Figure q) spec_l01Figure_v
theorem spec_l01Figure_i : ∀ a b,spec_l01Figure_e a = spec_l01Figure_e b → a = b := by rintro x0 y0 h; simp [spec_l01Figure_e] at h; simp [h]
@[simp] theorem spec_l01Figure_k (z0 : Int) : spec_l01Figure_x [AV.int .i64 z0] [] = mapR (spec_l01Figure z0) (fun r => (AV.int .u8 r,[])) :=
  xOf_eq spec_l01Figure_i z0
noncomputable def spec_Decimal_l0 (a0 : Int) : ((Int) × (List UInt8)) → Option (((Int) × (List UInt8)) ⊕ ((List UInt8))) := fun (x3,x4) =>
  cnd (ieq x3 0) (
   some (.inr x4)) (
   cnd (ile 0 (Int.tmod x3 10)) (
    bnd (spec_l01Figure (Int.tmod x3 10)) fun v5 =>
    chkP (((List.length (toBs [v5]) + List.length x4 : Nat) : Int) ≤ 9223372036854775807) (
    some (.inl ((IntKind.i64.wrap (Int.tdiv x3 10)),((toBs [v5]) ++ x4))))) (
    bnd (spec_l01Figure (IntKind.i64.wrap (0 - (Int.tmod x3 10)))) fun v6 =>
    chkP (((List.length (toBs [v6]) + List.length x4 : Nat) : Int) ≤ 9223372036854775807) (
    some (.inl ((IntKind.i64.wrap (Int.tdiv x3 10)),((toBs [v6]) ++ x4))))))
noncomputable def spec_Decimal_l0_S (a0 : Int) : ((Int) × (List UInt8)) → St := fun (x3,x4) => ⟨[(0,AV.int .i64 x3),(3,AV.bool (!(ile 0 a0))),(4,AV.str (bs x4))],[],0⟩
noncomputable def spec_Decimal_l0_X (a0 : Int) : ((List UInt8)) → Ex × St := fun y7 => ((.exit 0),⟨[(3,AV.bool (!(ile 0 a0))),(4,AV.str (bs y7))],[],0⟩)
noncomputable def spec_Decimal (a0 : Int) : Option ((List UInt8)) :=
  cnd (ieq a0 0) (
   some [48]) (
   bnd (loopI (spec_Decimal_l0 a0) (a0,[])) fun y7 =>
   cnd (ile 0 a0) (
    some y7) (
    chkP (((List.length [45] + List.length y7 : Nat) : Int) ≤ 9223372036854775807) (
    some ([45] ++ y7))))
noncomputable def spec_Decimal_e (q : (Int)) : List AV × List Ob := ([AV.int .i64 q],[])
noncomputable def spec_Decimal_v (q : (Int)) (r : (List UInt8)) : AV × List Ob := (AV.str (bs r),[])
noncomputable def spec_Decimal_x : List AV → List Ob → Option (AV × List Ob) := xOf spec_Decimal_e (fun q => spec_Decimal q) spec_Decimal_v
theorem spec_Decimal_i : ∀ a b,spec_Decimal_e a = spec_Decimal_e b → a = b := by rintro x0 y0 h; simp [spec_Decimal_e] at h; simp [h]
@[simp] theorem spec_Decimal_k (z0 : Int) : spec_Decimal_x [AV.int .i64 z0] [] = mapR (spec_Decimal z0) (fun r => (AV.str (bs r),[])) :=
  xOf_eq spec_Decimal_i z0
noncomputable def spec_ReadDecimal_l0 (a0 : List UInt8) : ((Int) × (Int)) → Option (((Int) × (Int)) ⊕ (((Int)) ⊕ (Unit))) := fun (x2,x3) =>
  cnd (ile (List.length a0 : Int) x3) (
   some (.inr (.inl x2))) (
   bnd (idx a0 x3) fun b4 =>
   cnd (ile 48 (b4.toNat : Int)) (
    cnd (ile (b4.toNat : Int) 57) (
     some (.inl ((IntKind.i64.wrap ((IntKind.i64.wrap ((IntKind.i64.wrap (10 * x2)) + (IntKind.i64.wrap (b4.toNat : Int)))) - 48)),(IntKind.i64.wrap (x3 + 1))))) (
     some (.inr (.inr ())))) (
    some (.inr (.inr ()))))
noncomputable def spec_ReadDecimal_l0_S (a0 : List UInt8) : ((Int) × (Int)) → St := fun (x2,x3) => ⟨[(0,AV.str (bs a0)),(4,AV.int .i64 x2),(5,AV.int .i64 x3)],[],0⟩
noncomputable def spec_ReadDecimal_l0_X (a0 : List UInt8) : (((Int)) ⊕ (Unit)) → Ex × St := fun q => match q with
  | .inl y5 => ((.exit 0),⟨[(0,AV.str (bs a0)),(4,AV.int .i64 y5)],[],0⟩)
  | .inr _ => (.ret,⟨[(2,AV.int .i64 0),(3,AV.bool false)],[],0⟩)
noncomputable def spec_ReadDecimal (a0 : List UInt8) : Option ((Int) × (Bool)) :=
  cnd (ile (List.length a0 : Int) 10) (
   bnd (loopI (spec_ReadDecimal_l0 a0) (0,0)) fun q => match q with
   | .inl y5 =>
    cnd (ile y5 1000000000) (
     bnd (spec_Decimal y5) fun v6 =>
     cnd (sq' v6 a0) (
      some (y5,true)) (
      some (0,false))) (
     some (0,false))
   | .inr () =>
    some (0,false)) (
   some (0,false))
noncomputable def spec_ReadDecimal_e (q : (List UInt8)) : List AV × List Ob := ([AV.str (bs q)],[])
noncomputable def spec_ReadDecimal_v (q : (List UInt8)) (r : (Int) × (Bool)) : AV × List Ob := (AV.tup [AV.int .i64 r.1,AV.bool r.2],[])
noncomputable def spec_ReadDecimal_x : List AV → List Ob → Option (AV × List Ob) := xOf spec_ReadDecimal_e (fun q => spec_ReadDecimal q) spec_ReadDecimal_v
theorem spec_ReadDecimal_i : ∀ a b,spec_ReadDecimal_e a = spec_ReadDecimal_e b → a = b := by rintro x0 y0 h; simp [spec_ReadDecimal_e] at h; simp [h]
@[simp] theorem spec_ReadDecimal_k (z0 : List UInt8) : spec_ReadDecimal_x [AV.str (bs z0)] [] = mapR (spec_ReadDecimal z0) (fun r => (AV.tup [AV.int .i64 r.1,AV.bool r.2],[])) :=
  xOf_eq spec_ReadDecimal_i z0
noncomputable def spec_l24Nums_l0 (a0 : List (List UInt8)) (a1 : Int) (a2 : Int) : ((Int) × (List Int)) → Option (((Int) × (List Int)) ⊕ (((List Int)) ⊕ (Unit))) := fun (x5,x6) =>
  cnd (ile (IntKind.i64.wrap (a1 + a2)) x5) (
   some (.inr (.inl x6))) (
   bnd (idx a0 x5) fun v7 =>
   bnd (spec_ReadDecimal v7) fun (w9,w10) =>
   cnd w10 (
    chkP ((List.length x6 + 1) * 8 ≤ 17592186044416) (
    nam ((x6 ++ [w9]) : List Int) fun l11 =>
    some (.inl ((IntKind.i64.wrap (x5 + 1)),l11)))) (
    some (.inr (.inr ()))))
noncomputable def spec_l24Nums_l0_S (a0 : List (List UInt8)) (a1 : Int) (a2 : Int) : ((Int) × (List Int)) → St := fun (x5,x6) => ⟨[(0,AV.fsl (List.map eS a0)),(1,AV.int .i64 a1),(2,AV.int .i64 a2),(8,AV.osl 0 0 (List.length x6) (List.length x6)),(9,AV.int .i64 x5)],[(0,Ob.arr 1 (List.map (AV.int .i64) x6) false)],1⟩
noncomputable def spec_l24Nums_l0_X (a0 : List (List UInt8)) (a1 : Int) (a2 : Int) : (((List Int)) ⊕ (Unit)) → Ex × St := fun q => match q with
  | .inl y12 => ((.exit 0),⟨[(8,AV.osl 0 0 (List.length y12) (List.length y12))],[(0,Ob.arr 1 (List.map (AV.int .i64) y12) false)],1⟩)
  | .inr _ => (.ret,⟨[(6,AV.osl 0 0 0 0),(7,AV.bool false)],[(0,Ob.arr 1 (List.map (AV.int .i64) []) false)],1⟩)
noncomputable def spec_l24Nums (a0 : List (List UInt8)) (a1 : Int) (a2 : Int) : Option ((List Int) × (Bool)) :=
  bnd (loopI (spec_l24Nums_l0 a0 a1 a2) (a1,[])) fun q => match q with
  | .inl y12 =>
   some (y12,true)
  | .inr () =>
   some ([],false)
noncomputable def spec_l24Nums_e (q : (List (List UInt8)) × (Int) × (Int)) : List AV × List Ob := ([AV.fsl (List.map eS q.1),AV.int .i64 q.2.1,AV.int .i64 q.2.2],[])
noncomputable def spec_l24Nums_v (q : (List (List UInt8)) × (Int) × (Int)) (r : (List Int) × (Bool)) : AV × List Ob := (AV.tup [AV.fsl (List.map (AV.int .i64) r.1),AV.bool r.2],[])
noncomputable def spec_l24Nums_x : List AV → List Ob → Option (AV × List Ob) := xOf spec_l24Nums_e (fun q => spec_l24Nums q.1 q.2.1 q.2.2) spec_l24Nums_v
theorem spec_l24Nums_i : ∀ a b,spec_l24Nums_e a = spec_l24Nums_e b → a = b := by rintro ⟨x0,x1,x2⟩ ⟨y0,y1,y2⟩ h; simp [spec_l24Nums_e] at h; simp [h]
@[simp] theorem spec_l24Nums_k (z0 : List (List UInt8)) (z1 : Int) (z2 : Int) : spec_l24Nums_x [AV.fsl (List.map eS z0),AV.int .i64 z1,AV.int .i64 z2] [] = mapR (spec_l24Nums z0 z1 z2) (fun r => (AV.tup [AV.fsl (List.map (AV.int .i64) r.1),AV.bool r.2],[])) :=
  xOf_eq spec_l24Nums_i (z0,z1,z2)
noncomputable def spec_Still  : Option ((TMat)) :=
  some (TMat.mk 65536 0 0 65536 0 0)
noncomputable def spec_Still_e (q : Unit) : List AV × List Ob := ([],[])
noncomputable def spec_Still_v (q : Unit) (r : (TMat)) : AV × List Ob := (AV.agg [AV.int .i64 r.a,AV.int .i64 r.b,AV.int .i64 r.c,AV.int .i64 r.d,AV.int .i64 r.e,AV.int .i64 r.f],[])
noncomputable def spec_Still_x : List AV → List Ob → Option (AV × List Ob) := xOf spec_Still_e (fun q => spec_Still) spec_Still_v
theorem spec_Still_i : ∀ a b,spec_Still_e a = spec_Still_e b → a = b := by intros; rfl
@[simp] theorem spec_Still_k  : spec_Still_x [] [] = mapR (spec_Still) (fun r => (AV.agg [AV.int .i64 r.a,AV.int .i64 r.b,AV.int .i64 r.c,AV.int .i64 r.d,AV.int .i64 r.e,AV.int .i64 r.f],[])) :=
  xOf_eq spec_Still_i ()
noncomputable def spec_Shift (a0 : Int) (a1 : Int) : Option ((TMat)) :=
  some (TMat.mk 65536 0 0 65536 a0 a1)
noncomputable def spec_Shift_e (q : (Int) × (Int)) : List AV × List Ob := ([AV.int .i64 q.1,AV.int .i64 q.2],[])
noncomputable def spec_Shift_v (q : (Int) × (Int)) (r : (TMat)) : AV × List Ob := (AV.agg [AV.int .i64 r.a,AV.int .i64 r.b,AV.int .i64 r.c,AV.int .i64 r.d,AV.int .i64 r.e,AV.int .i64 r.f],[])
noncomputable def spec_Shift_x : List AV → List Ob → Option (AV × List Ob) := xOf spec_Shift_e (fun q => spec_Shift q.1 q.2) spec_Shift_v
theorem spec_Shift_i : ∀ a b,spec_Shift_e a = spec_Shift_e b → a = b := by rintro ⟨x0,x1⟩ ⟨y0,y1⟩ h; simp [spec_Shift_e] at h; simp [h]
@[simp] theorem spec_Shift_k (z0 : Int) (z1 : Int) : spec_Shift_x [AV.int .i64 z0,AV.int .i64 z1] [] = mapR (spec_Shift z0 z1) (fun r => (AV.agg [AV.int .i64 r.a,AV.int .i64 r.b,AV.int .i64 r.c,AV.int .i64 r.d,AV.int .i64 r.e,AV.int .i64 r.f],[])) :=
  xOf_eq spec_Shift_i (z0,z1)
noncomputable def spec_l01Value (a0 : Int) : Option ((Int)) :=
  cnd (ile 48 a0) (
   cnd (ile a0 57) (
    some (IntKind.i64.wrap ((IntKind.i64.wrap a0) - 48))) (
    cnd (ile 97 a0) (
     cnd (ile a0 102) (
      some (IntKind.i64.wrap ((IntKind.i64.wrap ((IntKind.i64.wrap a0) - 97)) + 10))) (
      some (-1))) (
     some (-1)))) (
   cnd (ile 97 a0) (
    cnd (ile a0 102) (
     some (IntKind.i64.wrap ((IntKind.i64.wrap ((IntKind.i64.wrap a0) - 97)) + 10))) (
     some (-1))) (
    some (-1)))
noncomputable def spec_l01Value_e (q : (Int)) : List AV × List Ob := ([AV.int .u8 q],[])
noncomputable def spec_l01Value_v (q : (Int)) (r : (Int)) : AV × List Ob := (AV.int .i64 r,[])
noncomputable def spec_l01Value_x : List AV → List Ob → Option (AV × List Ob) := xOf spec_l01Value_e (fun q => spec_l01Value q) spec_l01Value_v
theorem spec_l01Value_i : ∀ a b,spec_l01Value_e a = spec_l01Value_e b → a = b := by rintro x0 y0 h; simp [spec_l01Value_e] at h; simp [h]
@[simp] theorem spec_l01Value_k (z0 : Int) : spec_l01Value_x [AV.int .u8 z0] [] = mapR (spec_l01Value z0) (fun r => (AV.int .i64 r,[])) :=
  xOf_eq spec_l01Value_i z0
noncomputable def spec_Unhex_l0 (a0 : List UInt8) : ((Int) × (List Int)) → Option (((Int) × (List Int)) ⊕ (((List Int)) ⊕ (Unit))) := fun (x5,x6) =>
  cnd (ile (List.length a0 : Int) x5) (
   some (.inr (.inl x6))) (
   bnd (idx a0 x5) fun b7 =>
   bnd (spec_l01Value (b7.toNat : Int)) fun v8 =>
   bnd (idx a0 (IntKind.i64.wrap (x5 + 1))) fun b9 =>
   bnd (spec_l01Value (b9.toNat : Int)) fun v10 =>
   cnd (ile 0 v8) (
    cnd (ile 0 v10) (
     chkP ((List.length x6 + 1) * 1 ≤ 17592186044416) (
     nam ((x6 ++ [(IntKind.u8.wrap (IntKind.i64.wrap ((IntKind.i64.wrap (16 * v8)) + v10)))]) : List Int) fun l11 =>
     some (.inl ((IntKind.i64.wrap (x5 + 2)),l11)))) (
     some (.inr (.inr ())))) (
    some (.inr (.inr ()))))
noncomputable def spec_Unhex_l0_S (a0 : List UInt8) : ((Int) × (List Int)) → St := fun (x5,x6) => ⟨[(0,AV.str (bs a0)),(4,AV.osl 0 0 (List.length x6) (List.length x6)),(5,AV.int .i64 x5)],[(0,Ob.arr 1 (List.map (AV.int .u8) x6) false)],1⟩
noncomputable def spec_Unhex_l0_X (a0 : List UInt8) : (((List Int)) ⊕ (Unit)) → Ex × St := fun q => match q with
  | .inl y12 => ((.exit 0),⟨[(4,AV.osl 0 0 (List.length y12) (List.length y12))],[(0,Ob.arr 1 (List.map (AV.int .u8) y12) false)],1⟩)
  | .inr _ => (.ret,⟨[(2,AV.str (bs [])),(3,AV.bool false)],[],0⟩)
noncomputable def spec_Unhex (a0 : List UInt8) : Option ((List UInt8) × (Bool)) :=
  cnd (ile (List.length a0 : Int) 40000) (
   cnd (ieq (Int.tmod (List.length a0 : Int) 2) 0) (
    bnd (loopI (spec_Unhex_l0 a0) (0,[])) fun q => match q with
    | .inl y12 =>
     some ((toBs y12),true)
    | .inr () =>
     some ([],false)) (
    some ([],false))) (
   some ([],false))
noncomputable def spec_Unhex_e (q : (List UInt8)) : List AV × List Ob := ([AV.str (bs q)],[])
noncomputable def spec_Unhex_v (q : (List UInt8)) (r : (List UInt8) × (Bool)) : AV × List Ob := (AV.tup [AV.str (bs r.1),AV.bool r.2],[])
noncomputable def spec_Unhex_x : List AV → List Ob → Option (AV × List Ob) := xOf spec_Unhex_e (fun q => spec_Unhex q) spec_Unhex_v
theorem spec_Unhex_i : ∀ a b,spec_Unhex_e a = spec_Unhex_e b → a = b := by rintro x0 y0 h; simp [spec_Unhex_e] at h; simp [h]
@[simp] theorem spec_Unhex_k (z0 : List UInt8) : spec_Unhex_x [AV.str (bs z0)] [] = mapR (spec_Unhex z0) (fun r => (AV.tup [AV.str (bs r.1),AV.bool r.2],[])) :=
  xOf_eq spec_Unhex_i z0
noncomputable def spec_l24Plain (a0 : List UInt8) : Option ((TPaint) × (Bool)) :=
  bnd (spec_Unhex a0) fun (w2,w3) =>
  cnd w3 (
   cnd (ieq (List.length w2 : Int) 4) (
    bnd (idx w2 0) fun b4 =>
    bnd (idx w2 1) fun b5 =>
    bnd (idx w2 2) fun b6 =>
    bnd (idx w2 3) fun b7 =>
    some ((TPaint.mk 1 (TColor.mk (IntKind.i64.wrap (b4.toNat : Int)) (IntKind.i64.wrap (b5.toNat : Int)) (IntKind.i64.wrap (b6.toNat : Int)) (IntKind.i64.wrap (b7.toNat : Int))) (TColor.mk 0 0 0 0) (TPoint.mk 0 0) (TPoint.mk 0 0)),true)) (
    some ((TPaint.mk 0 (TColor.mk 0 0 0 0) (TColor.mk 0 0 0 0) (TPoint.mk 0 0) (TPoint.mk 0 0)),false))) (
   some ((TPaint.mk 0 (TColor.mk 0 0 0 0) (TColor.mk 0 0 0 0) (TPoint.mk 0 0) (TPoint.mk 0 0)),false))
noncomputable def spec_l24Plain_e (q : (List UInt8)) : List AV × List Ob := ([AV.str (bs q)],[])
noncomputable def spec_l24Plain_v (q : (List UInt8)) (r : (TPaint) × (Bool)) : AV × List Ob := (AV.tup [AV.agg [AV.int .i64 r.1.kind,AV.int .i64 r.1.first.r,AV.int .i64 r.1.first.g,AV.int .i64 r.1.first.b,AV.int .i64 r.1.first.a,AV.int .i64 r.1.last.r,AV.int .i64 r.1.last.g,AV.int .i64 r.1.last.b,AV.int .i64 r.1.last.a,AV.int .i64 r.1.from_.x,AV.int .i64 r.1.from_.y,AV.int .i64 r.1.to.x,AV.int .i64 r.1.to.y],AV.bool r.2],[])
noncomputable def spec_l24Plain_x : List AV → List Ob → Option (AV × List Ob) := xOf spec_l24Plain_e (fun q => spec_l24Plain q) spec_l24Plain_v
theorem spec_l24Plain_i : ∀ a b,spec_l24Plain_e a = spec_l24Plain_e b → a = b := by rintro x0 y0 h; simp [spec_l24Plain_e] at h; simp [h]
@[simp] theorem spec_l24Plain_k (z0 : List UInt8) : spec_l24Plain_x [AV.str (bs z0)] [] = mapR (spec_l24Plain z0) (fun r => (AV.tup [AV.agg [AV.int .i64 r.1.kind,AV.int .i64 r.1.first.r,AV.int .i64 r.1.first.g,AV.int .i64 r.1.first.b,AV.int .i64 r.1.first.a,AV.int .i64 r.1.last.r,AV.int .i64 r.1.last.g,AV.int .i64 r.1.last.b,AV.int .i64 r.1.last.a,AV.int .i64 r.1.from_.x,AV.int .i64 r.1.from_.y,AV.int .i64 r.1.to.x,AV.int .i64 r.1.to.y],AV.bool r.2],[])) :=
  xOf_eq spec_l24Plain_i z0
noncomputable def spec_Empty (a0 : TBox) : Option ((Bool)) :=
  cnd (ile a0.x1 a0.x0) (
   some true) (
   some (ile a0.y1 a0.y0))
noncomputable def spec_Empty_e (q : (TBox)) : List AV × List Ob := ([AV.agg [AV.int .i64 q.x0,AV.int .i64 q.y0,AV.int .i64 q.x1,AV.int .i64 q.y1]],[])
noncomputable def spec_Empty_v (q : (TBox)) (r : (Bool)) : AV × List Ob := (AV.bool r,[])
noncomputable def spec_Empty_x : List AV → List Ob → Option (AV × List Ob) := xOf spec_Empty_e (fun q => spec_Empty q) spec_Empty_v
theorem spec_Empty_i : ∀ a b,spec_Empty_e a = spec_Empty_e b → a = b := by rintro ⟨x0,x1,x2,x3⟩ ⟨y0,y1,y2,y3⟩ h; simp [spec_Empty_e] at h; simp [h]
@[simp] theorem spec_Empty_k (z0 : Int) (z1 : Int) (z2 : Int) (z3 : Int) : spec_Empty_x [AV.agg [AV.int .i64 z0,AV.int .i64 z1,AV.int .i64 z2,AV.int .i64 z3]] [] = mapR (spec_Empty ⟨z0,z1,z2,z3⟩) (fun r => (AV.bool r,[])) :=
  xOf_eq spec_Empty_i ⟨z0,z1,z2,z3⟩
noncomputable def spec_l01In (a0 : Int) (a1 : Int) (a2 : Int) : Option ((Bool)) :=
  cnd (ile a1 a0) (
   some (ile a0 a2)) (
   some false)
noncomputable def spec_l01In_e (q : (Int) × (Int) × (Int)) : List AV × List Ob := ([AV.int .i64 q.1,AV.int .i64 q.2.1,AV.int .i64 q.2.2],[])
noncomputable def spec_l01In_v (q : (Int) × (Int) × (Int)) (r : (Bool)) : AV × List Ob := (AV.bool r,[])
noncomputable def spec_l01In_x : List AV → List Ob → Option (AV × List Ob) := xOf spec_l01In_e (fun q => spec_l01In q.1 q.2.1 q.2.2) spec_l01In_v
theorem spec_l01In_i : ∀ a b,spec_l01In_e a = spec_l01In_e b → a = b := by rintro ⟨x0,x1,x2⟩ ⟨y0,y1,y2⟩ h; simp [spec_l01In_e] at h; simp [h]
@[simp] theorem spec_l01In_k (z0 : Int) (z1 : Int) (z2 : Int) : spec_l01In_x [AV.int .i64 z0,AV.int .i64 z1,AV.int .i64 z2] [] = mapR (spec_l01In z0 z1 z2) (fun r => (AV.bool r,[])) :=
  xOf_eq spec_l01In_i (z0,z1,z2)
noncomputable def spec_PointOk (a0 : TPoint) : Option ((Bool)) :=
  bnd (spec_l01In a0.x (-8388608) 8388608) fun v1 =>
  cnd v1 (
   bnd (spec_l01In a0.y (-8388608) 8388608) fun v2 =>
   some v2) (
   some false)
noncomputable def spec_PointOk_e (q : (TPoint)) : List AV × List Ob := ([AV.agg [AV.int .i64 q.x,AV.int .i64 q.y]],[])
noncomputable def spec_PointOk_v (q : (TPoint)) (r : (Bool)) : AV × List Ob := (AV.bool r,[])
noncomputable def spec_PointOk_x : List AV → List Ob → Option (AV × List Ob) := xOf spec_PointOk_e (fun q => spec_PointOk q) spec_PointOk_v
theorem spec_PointOk_i : ∀ a b,spec_PointOk_e a = spec_PointOk_e b → a = b := by rintro ⟨x0,x1⟩ ⟨y0,y1⟩ h; simp [spec_PointOk_e] at h; simp [h]
@[simp] theorem spec_PointOk_k (z0 : Int) (z1 : Int) : spec_PointOk_x [AV.agg [AV.int .i64 z0,AV.int .i64 z1]] [] = mapR (spec_PointOk ⟨z0,z1⟩) (fun r => (AV.bool r,[])) :=
  xOf_eq spec_PointOk_i ⟨z0,z1⟩
noncomputable def spec_RectPath (a0 : TBox) : Option ((List Int) × (List TPoint)) :=
  bnd (spec_Empty a0) fun v1 =>
  cnd v1 (
   some ([],[])) (
   bnd (spec_PointOk (TPoint.mk ((TPoint.mk a0.x0 a0.y0).x) ((TPoint.mk a0.x0 a0.y0).y))) fun v2 =>
   cnd v2 (
    bnd (spec_PointOk (TPoint.mk ((TPoint.mk a0.x1 a0.y1).x) ((TPoint.mk a0.x1 a0.y1).y))) fun v3 =>
    cnd v3 (
     some ([1,2,2,2,5],[(TPoint.mk a0.x0 a0.y0),(TPoint.mk a0.x1 a0.y0),(TPoint.mk a0.x1 a0.y1),(TPoint.mk a0.x0 a0.y1)])) (
     some ([],[]))) (
    some ([],[])))
noncomputable def spec_RectPath_e (q : (TBox)) : List AV × List Ob := ([AV.agg [AV.int .i64 q.x0,AV.int .i64 q.y0,AV.int .i64 q.x1,AV.int .i64 q.y1]],[])
noncomputable def spec_RectPath_v (q : (TBox)) (r : (List Int) × (List TPoint)) : AV × List Ob := (AV.agg [AV.osl 0 0 (List.length r.1) (List.length r.1),AV.osl 1 0 (List.length r.2) (List.length r.2)],[Ob.arr 1 (List.map (AV.int .i64) r.1) false,Ob.arr 2 (List.map ePoint r.2) false])
noncomputable def spec_RectPath_x : List AV → List Ob → Option (AV × List Ob) := xOf spec_RectPath_e (fun q => spec_RectPath q) spec_RectPath_v
theorem spec_RectPath_i : ∀ a b,spec_RectPath_e a = spec_RectPath_e b → a = b := by rintro ⟨x0,x1,x2,x3⟩ ⟨y0,y1,y2,y3⟩ h; simp [spec_RectPath_e] at h; simp [h]
@[simp] theorem spec_RectPath_k (z0 : Int) (z1 : Int) (z2 : Int) (z3 : Int) : spec_RectPath_x [AV.agg [AV.int .i64 z0,AV.int .i64 z1,AV.int .i64 z2,AV.int .i64 z3]] [] = mapR (spec_RectPath ⟨z0,z1,z2,z3⟩) (fun r => (AV.agg [AV.osl 0 0 (List.length r.1) (List.length r.1),AV.osl 1 0 (List.length r.2) (List.length r.2)],[Ob.arr 1 (List.map (AV.int .i64) r.1) false,Ob.arr 2 (List.map ePoint r.2) false])) :=
  xOf_eq spec_RectPath_i ⟨z0,z1,z2,z3⟩
noncomputable def spec_l24Create_l0 (a0 : List (List UInt8)) : ((Int)) → Option (((Int)) ⊕ ((Unit) ⊕ ((Int) × (Int) × (Int) × (Int) × (Int) × (Int) × (Int) × (Int) × (Int) × (Bool) × (Bool) × (List Int) × (List TPoint) × (Int) × (Int) × (Int) × (Int) × (Int) × (Int) × (Int) × (Int) × (Int) × (Int) × (Int) × (Int) × (Int) × (Int) × (Int) × (Int)))) := fun x12 =>
  cnd (ile 3 x12) (
   some (.inr (.inl ()))) (
   bnd (idx a0 0) fun v13 =>
   bnd (idx [[103,114,111,117,112],[114,101,99,116],[108,105,110,101]] x12) fun v14 =>
   cnd (sq' v13 v14) (
    bnd (idx [6,8,9] x12) fun v15 =>
    cnd (ieq (List.length a0 : Int) v15) (
     bnd (idx [5,6,7] x12) fun v16 =>
     bnd (spec_l24Nums a0 1 v16) fun (w18,w19) =>
     cnd w19 (
      bnd (idx w18 0) fun v20 =>
      bnd (idx w18 1) fun v21 =>
      bnd spec_Still fun v22 =>
      cnd (ieq x12 0) (
       bnd (idx w18 2) fun v23 =>
       bnd (idx w18 3) fun v24 =>
       bnd (spec_Shift v23 v24) fun v25 =>
       bnd (idx w18 4) fun v26 =>
       some (.inr (.inr (v20,v21,v25.a,v25.b,v25.c,v25.d,v25.e,v25.f,v26,true,true,[],[],0,0,0,0,0,0,0,0,0,0,0,0,0,0,1,1)))) (
       bnd (idx a0 (IntKind.i64.wrap (v15 - 1))) fun v27 =>
       bnd (spec_l24Plain v27) fun (w29,w30) =>
       cnd (ieq x12 1) (
        bnd (idx w18 2) fun v31 =>
        bnd (idx w18 3) fun v32 =>
        bnd (idx w18 4) fun v33 =>
        bnd (idx w18 5) fun v34 =>
        bnd (spec_RectPath (TBox.mk v31 v32 v33 v34)) fun (w36,w37) =>
        some (.inr (.inr (v20,v21,v22.a,v22.b,v22.c,v22.d,v22.e,v22.f,255,w30,false,w36,w37,w29.kind,w29.first.r,w29.first.g,w29.first.b,w29.first.a,w29.last.r,w29.last.g,w29.last.b,w29.last.a,w29.from_.x,w29.from_.y,w29.to.x,w29.to.y,0,1,1)))) (
        bnd (idx w18 2) fun v38 =>
        bnd (idx w18 3) fun v39 =>
        bnd (idx w18 4) fun v40 =>
        bnd (idx w18 5) fun v41 =>
        bnd (idx w18 6) fun v42 =>
        some (.inr (.inr (v20,v21,v22.a,v22.b,v22.c,v22.d,v22.e,v22.f,255,w30,false,[1,2],[(TPoint.mk v38 v39),(TPoint.mk v40 v41)],w29.kind,w29.first.r,w29.first.g,w29.first.b,w29.first.a,w29.last.r,w29.last.g,w29.last.b,w29.last.a,w29.from_.x,w29.from_.y,w29.to.x,w29.to.y,v42,1,1)))))) (
      some (.inr (.inr (0,0,0,0,0,0,0,0,0,false,false,[],[],0,0,0,0,0,0,0,0,0,0,0,0,0,0,0,0))))) (
     some (.inl (IntKind.i64.wrap (x12 + 1))))) (
    some (.inl (IntKind.i64.wrap (x12 + 1)))))
noncomputable def spec_l24Create_l0_S (a0 : List (List UInt8)) : ((Int)) → St := fun x12 => ⟨[(0,AV.fsl (List.map eS a0)),(2,AV.optr 0 0 37),(4,AV.osl 1 0 (List.length [[103,114,111,117,112],[114,101,99,116],[108,105,110,101]]) (List.length [[103,114,111,117,112],[114,101,99,116],[108,105,110,101]])),(5,AV.osl 2 0 (List.length [6,8,9]) (List.length [6,8,9])),(6,AV.osl 3 0 (List.length [5,6,7]) (List.length [5,6,7])),(7,AV.int .i64 x12)],[(0,Ob.box [AV.int .i64 0,AV.int .i64 0,AV.int .i64 0,AV.bool false,AV.int .i64 0,AV.int .i64 0,AV.int .i64 0,AV.int .i64 0,AV.int .i64 0,AV.int .i64 0,AV.nilsl,AV.nilsl,AV.bool false,AV.int .i64 0,AV.nilsl,AV.int .i64 0,AV.int .i64 0,AV.int .i64 0,AV.int .i64 0,AV.int .i64 0,AV.int .i64 0,AV.int .i64 0,AV.int .i64 0,AV.int .i64 0,AV.int .i64 0,AV.int .i64 0,AV.int .i64 0,AV.int .i64 0,AV.int .i64 0,AV.int .i64 0,AV.nilsl,AV.nilsl,AV.int .i64 0,AV.int .i64 0,AV.int .i64 0,AV.int .i64 0,AV.int .i64 0]),(1,Ob.arr 1 (List.map eS [[103,114,111,117,112],[114,101,99,116],[108,105,110,101]]) false),(2,Ob.arr 1 (List.map (AV.int .i64) [6,8,9]) false),(3,Ob.arr 1 (List.map (AV.int .i64) [5,6,7]) false)],4⟩
noncomputable def spec_l24Create_l0_X (a0 : List (List UInt8)) : ((Unit) ⊕ ((Int) × (Int) × (Int) × (Int) × (Int) × (Int) × (Int) × (Int) × (Int) × (Bool) × (Bool) × (List Int) × (List TPoint) × (Int) × (Int) × (Int) × (Int) × (Int) × (Int) × (Int) × (Int) × (Int) × (Int) × (Int) × (Int) × (Int) × (Int) × (Int) × (Int))) → Ex × St := fun q => match q with
  | .inl _ => ((.exit 0),⟨[(2,AV.optr 0 0 37)],[(0,Ob.box [AV.int .i64 0,AV.int .i64 0,AV.int .i64 0,AV.bool false,AV.int .i64 0,AV.int .i64 0,AV.int .i64 0,AV.int .i64 0,AV.int .i64 0,AV.int .i64 0,AV.nilsl,AV.nilsl,AV.bool false,AV.int .i64 0,AV.nilsl,AV.int .i64 0,AV.int .i64 0,AV.int .i64 0,AV.int .i64 0,AV.int .i64 0,AV.int .i64 0,AV.int .i64 0,AV.int .i64 0,AV.int .i64 0,AV.int .i64 0,AV.int .i64 0,AV.int .i64 0,AV.int .i64 0,AV.int .i64 0,AV.int .i64 0,AV.nilsl,AV.nilsl,AV.int .i64 0,AV.int .i64 0,AV.int .i64 0,AV.int .i64 0,AV.int .i64 0])],1⟩)
  | .inr (y43,y44,y45,y46,y47,y48,y49,y50,y51,y52,y53,y54,y55,y56,y57,y58,y59,y60,y61,y62,y63,y64,y65,y66,y67,y68,y69,y70,y71) => (.ret,⟨[(2,AV.optr 0 0 37),(3,AV.bool y52)],[(0,Ob.box [AV.int .i64 y70,AV.int .i64 y43,AV.int .i64 y44,AV.bool y53,AV.int .i64 y45,AV.int .i64 y46,AV.int .i64 y47,AV.int .i64 y48,AV.int .i64 y49,AV.int .i64 y50,AV.osl 1 0 (List.length y54) (List.length y54),AV.osl 2 0 (List.length y55) (List.length y55),AV.bool false,AV.int .i64 y69,AV.nilsl,AV.int .i64 y56,AV.int .i64 y57,AV.int .i64 y58,AV.int .i64 y59,AV.int .i64 y60,AV.int .i64 y61,AV.int .i64 y62,AV.int .i64 y63,AV.int .i64 y64,AV.int .i64 y65,AV.int .i64 y66,AV.int .i64 y67,AV.int .i64 y68,AV.int .i64 y71,AV.int .i64 y51,AV.nilsl,AV.nilsl,AV.int .i64 0,AV.int .i64 0,AV.int .i64 0,AV.int .i64 0,AV.int .i64 0]),(1,Ob.arr 1 (List.map (AV.int .i64) y54) false),(2,Ob.arr 2 (List.map ePoint y55) false)],3⟩)
noncomputable def spec_l24Create (a0 : List (List UInt8)) : Option ((TDeed) × (Bool)) :=
  bnd (loopI (spec_l24Create_l0 a0) 0) fun q => match q with
  | .inl () =>
   some ((TDeed.mk 0 (TNode.mk 0 0 false (TMat.mk 0 0 0 0 0 0) (TPath.mk [] []) false 0 [] (TPaint.mk 0 (TColor.mk 0 0 0 0) (TColor.mk 0 0 0 0) (TPoint.mk 0 0) (TPoint.mk 0 0)) 0 0 (TPath.mk [] [])) 0 0 0 0 0),false)
  | .inr (y43,y44,y45,y46,y47,y48,y49,y50,y51,y52,y53,y54,y55,y56,y57,y58,y59,y60,y61,y62,y63,y64,y65,y66,y67,y68,y69,y70,y71) =>
   some ((TDeed.mk y70 (TNode.mk y43 y44 y53 (TMat.mk y45 y46 y47 y48 y49 y50) (TPath.mk y54 y55) false y69 [] (TPaint.mk y56 (TColor.mk y57 y58 y59 y60) (TColor.mk y61 y62 y63 y64) (TPoint.mk y65 y66) (TPoint.mk y67 y68)) y71 y51 (TPath.mk [] [])) 0 0 0 0 0),y52)
noncomputable def spec_l24Create_e (q : (List (List UInt8))) : List AV × List Ob := ([AV.fsl (List.map eS q)],[])
noncomputable def spec_l24Create_v (q : (List (List UInt8))) (r : (TDeed) × (Bool)) : AV × List Ob := (AV.tup [AV.agg [AV.int .i64 r.1.kind,AV.int .i64 r.1.node.id,AV.int .i64 r.1.node.parent,AV.bool r.1.node.group,AV.int .i64 r.1.node.mat.a,AV.int .i64 r.1.node.mat.b,AV.int .i64 r.1.node.mat.c,AV.int .i64 r.1.node.mat.d,AV.int .i64 r.1.node.mat.e,AV.int .i64 r.1.node.mat.f,AV.fsl (List.map (AV.int .i64) r.1.node.path.verbs),AV.fsl (List.map ePoint r.1.node.path.points),AV.bool r.1.node.even,AV.int .i64 r.1.node.width,AV.fsl (List.map (AV.int .i64) r.1.node.dashes),AV.int .i64 r.1.node.paint.kind,AV.int .i64 r.1.node.paint.first.r,AV.int .i64 r.1.node.paint.first.g,AV.int .i64 r.1.node.paint.first.b,AV.int .i64 r.1.node.paint.first.a,AV.int .i64 r.1.node.paint.last.r,AV.int .i64 r.1.node.paint.last.g,AV.int .i64 r.1.node.paint.last.b,AV.int .i64 r.1.node.paint.last.a,AV.int .i64 r.1.node.paint.from_.x,AV.int .i64 r.1.node.paint.from_.y,AV.int .i64 r.1.node.paint.to.x,AV.int .i64 r.1.node.paint.to.y,AV.int .i64 r.1.node.mode,AV.int .i64 r.1.node.fade,AV.fsl (List.map (AV.int .i64) r.1.node.clip.verbs),AV.fsl (List.map ePoint r.1.node.clip.points),AV.int .i64 r.1.id,AV.int .i64 r.1.parent,AV.int .i64 r.1.behind,AV.int .i64 r.1.x,AV.int .i64 r.1.y],AV.bool r.2],[])
noncomputable def spec_l24Create_x : List AV → List Ob → Option (AV × List Ob) := xOf spec_l24Create_e (fun q => spec_l24Create q) spec_l24Create_v
theorem spec_l24Create_i : ∀ a b,spec_l24Create_e a = spec_l24Create_e b → a = b := by rintro x0 y0 h; simp [spec_l24Create_e] at h; simp [h]
@[simp] theorem spec_l24Create_k (z0 : List (List UInt8)) : spec_l24Create_x [AV.fsl (List.map eS z0)] [] = mapR (spec_l24Create z0) (fun r => (AV.tup [AV.agg [AV.int .i64 r.1.kind,AV.int .i64 r.1.node.id,AV.int .i64 r.1.node.parent,AV.bool r.1.node.group,AV.int .i64 r.1.node.mat.a,AV.int .i64 r.1.node.mat.b,AV.int .i64 r.1.node.mat.c,AV.int .i64 r.1.node.mat.d,AV.int .i64 r.1.node.mat.e,AV.int .i64 r.1.node.mat.f,AV.fsl (List.map (AV.int .i64) r.1.node.path.verbs),AV.fsl (List.map ePoint r.1.node.path.points),AV.bool r.1.node.even,AV.int .i64 r.1.node.width,AV.fsl (List.map (AV.int .i64) r.1.node.dashes),AV.int .i64 r.1.node.paint.kind,AV.int .i64 r.1.node.paint.first.r,AV.int .i64 r.1.node.paint.first.g,AV.int .i64 r.1.node.paint.first.b,AV.int .i64 r.1.node.paint.first.a,AV.int .i64 r.1.node.paint.last.r,AV.int .i64 r.1.node.paint.last.g,AV.int .i64 r.1.node.paint.last.b,AV.int .i64 r.1.node.paint.last.a,AV.int .i64 r.1.node.paint.from_.x,AV.int .i64 r.1.node.paint.from_.y,AV.int .i64 r.1.node.paint.to.x,AV.int .i64 r.1.node.paint.to.y,AV.int .i64 r.1.node.mode,AV.int .i64 r.1.node.fade,AV.fsl (List.map (AV.int .i64) r.1.node.clip.verbs),AV.fsl (List.map ePoint r.1.node.clip.points),AV.int .i64 r.1.id,AV.int .i64 r.1.parent,AV.int .i64 r.1.behind,AV.int .i64 r.1.x,AV.int .i64 r.1.y],AV.bool r.2],[])) :=
  xOf_eq spec_l24Create_i z0
noncomputable def spec_l24Deed_l0 (a0 : List (List UInt8)) : ((Int)) → Option (((Int)) ⊕ ((Unit) ⊕ ((Int) × (Int) × (Int) × (Int) × (Int) × (Int) × (Bool)))) := fun x16 =>
  cnd (ile (List.length [[100,114,111,112],[112,108,97,99,101],[112,97,105,110,116],[104,105,116],[115,105,122,101]] : Int) x16) (
   some (.inr (.inl ()))) (
   bnd (idx a0 0) fun v17 =>
   bnd (idx [[100,114,111,112],[112,108,97,99,101],[112,97,105,110,116],[104,105,116],[115,105,122,101]] x16) fun v18 =>
   cnd (sq' v17 v18) (
    bnd (idx [1,3,0,2,2] x16) fun v19 =>
    cnd (ieq (List.length a0 : Int) (IntKind.i64.wrap (v19 + 1))) (
     bnd (spec_l24Nums a0 1 v19) fun (w21,w22) =>
     cnd w22 (
      bnd (idx [2,3,5,6,7] x16) fun v23 =>
      cnd (ieq v23 2) (
       bnd (idx w21 0) fun v24 =>
       some (.inr (.inr (v23,v24,0,0,0,0,true)))) (
       cnd (ieq v23 3) (
        bnd (idx w21 0) fun v25 =>
        bnd (idx w21 1) fun v26 =>
        bnd (idx w21 2) fun v27 =>
        some (.inr (.inr (v23,v25,v26,v27,0,0,true)))) (
        cnd (ieq v23 6) (
         bnd (idx w21 0) fun v28 =>
         bnd (idx w21 1) fun v29 =>
         some (.inr (.inr (v23,0,0,0,v28,v29,true)))) (
         cnd (ieq v23 7) (
          bnd (idx w21 0) fun v30 =>
          bnd (idx w21 1) fun v31 =>
          some (.inr (.inr (v23,0,0,0,v30,v31,true)))) (
          some (.inr (.inr (v23,0,0,0,0,0,true)))))))) (
      some (.inr (.inr (0,0,0,0,0,0,false))))) (
     some (.inl (IntKind.i64.wrap (x16 + 1))))) (
    some (.inl (IntKind.i64.wrap (x16 + 1)))))
noncomputable def spec_l24Deed_l0_S (a0 : List (List UInt8)) : ((Int)) → St := fun x16 => ⟨[(0,AV.fsl (List.map eS a0)),(2,AV.optr 0 0 37),(4,AV.osl 1 0 (List.length [[100,114,111,112],[112,108,97,99,101],[112,97,105,110,116],[104,105,116],[115,105,122,101]]) (List.length [[100,114,111,112],[112,108,97,99,101],[112,97,105,110,116],[104,105,116],[115,105,122,101]])),(5,AV.osl 2 0 (List.length [2,3,5,6,7]) (List.length [2,3,5,6,7])),(6,AV.osl 3 0 (List.length [1,3,0,2,2]) (List.length [1,3,0,2,2])),(7,AV.int .i64 x16)],[(0,Ob.box [AV.int .i64 0,AV.int .i64 0,AV.int .i64 0,AV.bool false,AV.int .i64 0,AV.int .i64 0,AV.int .i64 0,AV.int .i64 0,AV.int .i64 0,AV.int .i64 0,AV.nilsl,AV.nilsl,AV.bool false,AV.int .i64 0,AV.nilsl,AV.int .i64 0,AV.int .i64 0,AV.int .i64 0,AV.int .i64 0,AV.int .i64 0,AV.int .i64 0,AV.int .i64 0,AV.int .i64 0,AV.int .i64 0,AV.int .i64 0,AV.int .i64 0,AV.int .i64 0,AV.int .i64 0,AV.int .i64 0,AV.int .i64 0,AV.nilsl,AV.nilsl,AV.int .i64 0,AV.int .i64 0,AV.int .i64 0,AV.int .i64 0,AV.int .i64 0]),(1,Ob.arr 1 (List.map eS [[100,114,111,112],[112,108,97,99,101],[112,97,105,110,116],[104,105,116],[115,105,122,101]]) false),(2,Ob.arr 1 (List.map (AV.int .i64) [2,3,5,6,7]) false),(3,Ob.arr 1 (List.map (AV.int .i64) [1,3,0,2,2]) false)],4⟩
noncomputable def spec_l24Deed_l0_X (a0 : List (List UInt8)) : ((Unit) ⊕ ((Int) × (Int) × (Int) × (Int) × (Int) × (Int) × (Bool))) → Ex × St := fun q => match q with
  | .inl _ => ((.exit 0),⟨[(2,AV.optr 0 0 37)],[(0,Ob.box [AV.int .i64 0,AV.int .i64 0,AV.int .i64 0,AV.bool false,AV.int .i64 0,AV.int .i64 0,AV.int .i64 0,AV.int .i64 0,AV.int .i64 0,AV.int .i64 0,AV.nilsl,AV.nilsl,AV.bool false,AV.int .i64 0,AV.nilsl,AV.int .i64 0,AV.int .i64 0,AV.int .i64 0,AV.int .i64 0,AV.int .i64 0,AV.int .i64 0,AV.int .i64 0,AV.int .i64 0,AV.int .i64 0,AV.int .i64 0,AV.int .i64 0,AV.int .i64 0,AV.int .i64 0,AV.int .i64 0,AV.int .i64 0,AV.nilsl,AV.nilsl,AV.int .i64 0,AV.int .i64 0,AV.int .i64 0,AV.int .i64 0,AV.int .i64 0])],1⟩)
  | .inr (y32,y33,y34,y35,y36,y37,y38) => (.ret,⟨[(2,AV.optr 0 0 37),(3,AV.bool y38)],[(0,Ob.box [AV.int .i64 y32,AV.int .i64 0,AV.int .i64 0,AV.bool false,AV.int .i64 0,AV.int .i64 0,AV.int .i64 0,AV.int .i64 0,AV.int .i64 0,AV.int .i64 0,AV.nilsl,AV.nilsl,AV.bool false,AV.int .i64 0,AV.nilsl,AV.int .i64 0,AV.int .i64 0,AV.int .i64 0,AV.int .i64 0,AV.int .i64 0,AV.int .i64 0,AV.int .i64 0,AV.int .i64 0,AV.int .i64 0,AV.int .i64 0,AV.int .i64 0,AV.int .i64 0,AV.int .i64 0,AV.int .i64 0,AV.int .i64 0,AV.nilsl,AV.nilsl,AV.int .i64 y33,AV.int .i64 y34,AV.int .i64 y35,AV.int .i64 y36,AV.int .i64 y37])],1⟩)
noncomputable def spec_l24Deed (a0 : List (List UInt8)) : Option ((TDeed) × (Bool)) :=
  bnd (idx a0 0) fun v1 =>
  cnd (sq' v1 [103,114,111,117,112]) (
   bnd (spec_l24Create a0) fun (w3,w4) =>
   some (w3,w4)) (
   cnd (sq' v1 [114,101,99,116]) (
    bnd (spec_l24Create a0) fun (w6,w7) =>
    some (w6,w7)) (
    cnd (sq' v1 [108,105,110,101]) (
     bnd (spec_l24Create a0) fun (w9,w10) =>
     some (w9,w10)) (
     bnd (loopI (spec_l24Deed_l0 a0) 0) fun q => match q with
     | .inl () =>
      some ((TDeed.mk 0 (TNode.mk 0 0 false (TMat.mk 0 0 0 0 0 0) (TPath.mk [] []) false 0 [] (TPaint.mk 0 (TColor.mk 0 0 0 0) (TColor.mk 0 0 0 0) (TPoint.mk 0 0) (TPoint.mk 0 0)) 0 0 (TPath.mk [] [])) 0 0 0 0 0),false)
     | .inr (y32,y33,y34,y35,y36,y37,y38) =>
      some ((TDeed.mk y32 (TNode.mk 0 0 false (TMat.mk 0 0 0 0 0 0) (TPath.mk [] []) false 0 [] (TPaint.mk 0 (TColor.mk 0 0 0 0) (TColor.mk 0 0 0 0) (TPoint.mk 0 0) (TPoint.mk 0 0)) 0 0 (TPath.mk [] [])) y33 y34 y35 y36 y37),y38))))
noncomputable def spec_l24Deed_e (q : (List (List UInt8))) : List AV × List Ob := ([AV.fsl (List.map eS q)],[])
noncomputable def spec_l24Deed_v (q : (List (List UInt8))) (r : (TDeed) × (Bool)) : AV × List Ob := (AV.tup [AV.agg [AV.int .i64 r.1.kind,AV.int .i64 r.1.node.id,AV.int .i64 r.1.node.parent,AV.bool r.1.node.group,AV.int .i64 r.1.node.mat.a,AV.int .i64 r.1.node.mat.b,AV.int .i64 r.1.node.mat.c,AV.int .i64 r.1.node.mat.d,AV.int .i64 r.1.node.mat.e,AV.int .i64 r.1.node.mat.f,AV.fsl (List.map (AV.int .i64) r.1.node.path.verbs),AV.fsl (List.map ePoint r.1.node.path.points),AV.bool r.1.node.even,AV.int .i64 r.1.node.width,AV.fsl (List.map (AV.int .i64) r.1.node.dashes),AV.int .i64 r.1.node.paint.kind,AV.int .i64 r.1.node.paint.first.r,AV.int .i64 r.1.node.paint.first.g,AV.int .i64 r.1.node.paint.first.b,AV.int .i64 r.1.node.paint.first.a,AV.int .i64 r.1.node.paint.last.r,AV.int .i64 r.1.node.paint.last.g,AV.int .i64 r.1.node.paint.last.b,AV.int .i64 r.1.node.paint.last.a,AV.int .i64 r.1.node.paint.from_.x,AV.int .i64 r.1.node.paint.from_.y,AV.int .i64 r.1.node.paint.to.x,AV.int .i64 r.1.node.paint.to.y,AV.int .i64 r.1.node.mode,AV.int .i64 r.1.node.fade,AV.fsl (List.map (AV.int .i64) r.1.node.clip.verbs),AV.fsl (List.map ePoint r.1.node.clip.points),AV.int .i64 r.1.id,AV.int .i64 r.1.parent,AV.int .i64 r.1.behind,AV.int .i64 r.1.x,AV.int .i64 r.1.y],AV.bool r.2],[])
noncomputable def spec_l24Deed_x : List AV → List Ob → Option (AV × List Ob) := xOf spec_l24Deed_e (fun q => spec_l24Deed q) spec_l24Deed_v
theorem spec_l24Deed_i : ∀ a b,spec_l24Deed_e a = spec_l24Deed_e b → a = b := by rintro x0 y0 h; simp [spec_l24Deed_e] at h; simp [h]
@[simp] theorem spec_l24Deed_k (z0 : List (List UInt8)) : spec_l24Deed_x [AV.fsl (List.map eS z0)] [] = mapR (spec_l24Deed z0) (fun r => (AV.tup [AV.agg [AV.int .i64 r.1.kind,AV.int .i64 r.1.node.id,AV.int .i64 r.1.node.parent,AV.bool r.1.node.group,AV.int .i64 r.1.node.mat.a,AV.int .i64 r.1.node.mat.b,AV.int .i64 r.1.node.mat.c,AV.int .i64 r.1.node.mat.d,AV.int .i64 r.1.node.mat.e,AV.int .i64 r.1.node.mat.f,AV.fsl (List.map (AV.int .i64) r.1.node.path.verbs),AV.fsl (List.map ePoint r.1.node.path.points),AV.bool r.1.node.even,AV.int .i64 r.1.node.width,AV.fsl (List.map (AV.int .i64) r.1.node.dashes),AV.int .i64 r.1.node.paint.kind,AV.int .i64 r.1.node.paint.first.r,AV.int .i64 r.1.node.paint.first.g,AV.int .i64 r.1.node.paint.first.b,AV.int .i64 r.1.node.paint.first.a,AV.int .i64 r.1.node.paint.last.r,AV.int .i64 r.1.node.paint.last.g,AV.int .i64 r.1.node.paint.last.b,AV.int .i64 r.1.node.paint.last.a,AV.int .i64 r.1.node.paint.from_.x,AV.int .i64 r.1.node.paint.from_.y,AV.int .i64 r.1.node.paint.to.x,AV.int .i64 r.1.node.paint.to.y,AV.int .i64 r.1.node.mode,AV.int .i64 r.1.node.fade,AV.fsl (List.map (AV.int .i64) r.1.node.clip.verbs),AV.fsl (List.map ePoint r.1.node.clip.points),AV.int .i64 r.1.id,AV.int .i64 r.1.parent,AV.int .i64 r.1.behind,AV.int .i64 r.1.x,AV.int .i64 r.1.y],AV.bool r.2],[])) :=
  xOf_eq spec_l24Deed_i z0
noncomputable def spec_SurfaceNew (a0 : Int) (a1 : Int) : Option ((TSurface) × (Bool)) :=
  bnd (spec_l01In a0 1 12) fun v1 =>
  cnd v1 (
   bnd (spec_l01In a1 1 12) fun v2 =>
   cnd v2 (
    chkP (0 ≤ (IntKind.i64.wrap (a0 * a1)) ∧ (IntKind.i64.wrap (a0 * a1)) ≤ (IntKind.i64.wrap (a0 * a1)) ∧ (IntKind.i64.wrap (a0 * a1)) ≤ 17592186044416 ∧ (IntKind.i64.wrap (a0 * a1)) * 32 ≤ 17592186044416) (
    nam ((List.replicate (Int.toNat (IntKind.i64.wrap (a0 * a1))) (TColor.mk 0 0 0 0)) : List TColor) fun l3 =>
    some ((TSurface.mk a0 a1 l3),true))) (
    some ((TSurface.mk 0 0 []),false))) (
   some ((TSurface.mk 0 0 []),false))
noncomputable def spec_SurfaceNew_e (q : (Int) × (Int)) : List AV × List Ob := ([AV.int .i64 q.1,AV.int .i64 q.2],[])
noncomputable def spec_SurfaceNew_v (q : (Int) × (Int)) (r : (TSurface) × (Bool)) : AV × List Ob := (AV.tup [AV.agg [AV.int .i64 r.1.w,AV.int .i64 r.1.h,AV.fsl (List.map eColor r.1.pix)],AV.bool r.2],[])
noncomputable def spec_SurfaceNew_x : List AV → List Ob → Option (AV × List Ob) := xOf spec_SurfaceNew_e (fun q => spec_SurfaceNew q.1 q.2) spec_SurfaceNew_v
theorem spec_SurfaceNew_i : ∀ a b,spec_SurfaceNew_e a = spec_SurfaceNew_e b → a = b := by rintro ⟨x0,x1⟩ ⟨y0,y1⟩ h; simp [spec_SurfaceNew_e] at h; simp [h]
@[simp] theorem spec_SurfaceNew_k (z0 : Int) (z1 : Int) : spec_SurfaceNew_x [AV.int .i64 z0,AV.int .i64 z1] [] = mapR (spec_SurfaceNew z0 z1) (fun r => (AV.tup [AV.agg [AV.int .i64 r.1.w,AV.int .i64 r.1.h,AV.fsl (List.map eColor r.1.pix)],AV.bool r.2],[])) :=
  xOf_eq spec_SurfaceNew_i (z0,z1)
noncomputable def spec_TileCount (a0 : Int) (a1 : Int) : Option ((Int)) :=
  bnd (spec_l01In a0 1 12) fun v1 =>
  cnd v1 (
   bnd (spec_l01In a1 1 12) fun v2 =>
   cnd v2 (
    some (IntKind.i64.wrap ((IntKind.i64.wrap (Int.tdiv (IntKind.i64.wrap (a0 + 3)) 4)) * (IntKind.i64.wrap (Int.tdiv (IntKind.i64.wrap (a1 + 3)) 4))))) (
    some 0)) (
   some 0)
noncomputable def spec_TileCount_e (q : (Int) × (Int)) : List AV × List Ob := ([AV.int .i64 q.1,AV.int .i64 q.2],[])
noncomputable def spec_TileCount_v (q : (Int) × (Int)) (r : (Int)) : AV × List Ob := (AV.int .i64 r,[])
noncomputable def spec_TileCount_x : List AV → List Ob → Option (AV × List Ob) := xOf spec_TileCount_e (fun q => spec_TileCount q.1 q.2) spec_TileCount_v
theorem spec_TileCount_i : ∀ a b,spec_TileCount_e a = spec_TileCount_e b → a = b := by rintro ⟨x0,x1⟩ ⟨y0,y1⟩ h; simp [spec_TileCount_e] at h; simp [h]
@[simp] theorem spec_TileCount_k (z0 : Int) (z1 : Int) : spec_TileCount_x [AV.int .i64 z0,AV.int .i64 z1] [] = mapR (spec_TileCount z0 z1) (fun r => (AV.int .i64 r,[])) :=
  xOf_eq spec_TileCount_i (z0,z1)
noncomputable def spec_EngineNew (a0 : Int) (a1 : Int) : Option ((TEngine) × (Bool)) :=
  bnd (spec_SurfaceNew a0 a1) fun (w2,w3) =>
  cnd w3 (
   bnd (spec_TileCount a0 a1) fun v4 =>
   chkP (0 ≤ v4 ∧ v4 ≤ v4 ∧ v4 ≤ 17592186044416 ∧ v4 * 8 ≤ 17592186044416) (
   nam ((List.replicate (Int.toNat v4) 0) : List Int) fun l5 =>
   some ((TEngine.mk (TScene.mk []) w2 [] l5 (TCache.mk 4 []) 0),true))) (
   some ((TEngine.mk (TScene.mk []) (TSurface.mk 0 0 []) [] [] (TCache.mk 0 []) 0),false))
noncomputable def spec_EngineNew_e (q : (Int) × (Int)) : List AV × List Ob := ([AV.int .i64 q.1,AV.int .i64 q.2],[])
noncomputable def spec_EngineNew_v (q : (Int) × (Int)) (r : (TEngine) × (Bool)) : AV × List Ob := (AV.tup [AV.agg [AV.fsl (List.map eNode r.1.scene.nodes),AV.int .i64 r.1.frame.w,AV.int .i64 r.1.frame.h,AV.fsl (List.map eColor r.1.frame.pix),AV.fsl (List.map eBox r.1.dirty),AV.fsl (List.map (AV.int .i64) r.1.stamps),AV.int .i64 r.1.cache.most,AV.fsl (List.map eKept r.1.cache.list),AV.int .i64 r.1.painted],AV.bool r.2],[])
noncomputable def spec_EngineNew_x : List AV → List Ob → Option (AV × List Ob) := xOf spec_EngineNew_e (fun q => spec_EngineNew q.1 q.2) spec_EngineNew_v
theorem spec_EngineNew_i : ∀ a b,spec_EngineNew_e a = spec_EngineNew_e b → a = b := by rintro ⟨x0,x1⟩ ⟨y0,y1⟩ h; simp [spec_EngineNew_e] at h; simp [h]
@[simp] theorem spec_EngineNew_k (z0 : Int) (z1 : Int) : spec_EngineNew_x [AV.int .i64 z0,AV.int .i64 z1] [] = mapR (spec_EngineNew z0 z1) (fun r => (AV.tup [AV.agg [AV.fsl (List.map eNode r.1.scene.nodes),AV.int .i64 r.1.frame.w,AV.int .i64 r.1.frame.h,AV.fsl (List.map eColor r.1.frame.pix),AV.fsl (List.map eBox r.1.dirty),AV.fsl (List.map (AV.int .i64) r.1.stamps),AV.int .i64 r.1.cache.most,AV.fsl (List.map eKept r.1.cache.list),AV.int .i64 r.1.painted],AV.bool r.2],[])) :=
  xOf_eq spec_EngineNew_i (z0,z1)
noncomputable def spec_ReadScript_l0 (v1 : List (List UInt8)) : ((Int) × (Int) × (Int) × (List TDeed)) → Option (((Int) × (Int) × (Int) × (List TDeed)) ⊕ (((List TDeed) × (Int) × (Int)) ⊕ ((Int)))) := fun (x14,x15,x16,x29) =>
  cnd (ile (List.length v1 : Int) x14) (
   some (.inr (.inl (x29,x15,x16)))) (
   bnd (idx v1 x14) fun v30 =>
   bnd (spec_PartsOf v30) fun (w32,w33) =>
   cnd w33 (
    cnd (ieq (List.length w32 : Int) 0) (
     some (.inl ((IntKind.i64.wrap (x14 + 1)),x15,x16,x29))) (
     bnd (idx w32 0) fun v34 =>
     bnd (idx v34 0) fun b35 =>
     cnd (ieq (b35.toNat : Int) 35) (
      some (.inl ((IntKind.i64.wrap (x14 + 1)),x15,x16,x29))) (
      bnd (spec_l24Deed w32) fun (w37,w38) =>
      cnd (ieq x15 0) (
       bnd (spec_EngineNew w37.x w37.y) fun (w40,w41) =>
       cnd w38 (
        cnd (ieq w37.kind 7) (
         cnd w41 (
          some (.inl ((IntKind.i64.wrap (x14 + 1)),w37.x,w37.y,x29))) (
          some (.inr (.inr (IntKind.i64.wrap (x14 + 1)))))) (
         some (.inr (.inr (IntKind.i64.wrap (x14 + 1)))))) (
        some (.inr (.inr (IntKind.i64.wrap (x14 + 1)))))) (
       cnd w38 (
        cnd (ieq (List.length x29 : Int) 40) (
         some (.inr (.inr (IntKind.i64.wrap (x14 + 1))))) (
         chkP ((List.length x29 + 1) * 376 ≤ 17592186044416) (
         nam ((x29 ++ [w37]) : List TDeed) fun l42 =>
         some (.inl ((IntKind.i64.wrap (x14 + 1)),x15,x16,l42))))) (
        some (.inr (.inr (IntKind.i64.wrap (x14 + 1))))))))) (
    some (.inr (.inr (IntKind.i64.wrap (x14 + 1))))))
noncomputable def spec_ReadScript_l0_S (v1 : List (List UInt8)) : ((Int) × (Int) × (Int) × (List TDeed)) → St := fun (x14,x15,x16,x29) => ⟨[(6,AV.osl 0 0 0 0),(7,AV.fsl (List.map eS v1)),(8,AV.int .i64 x15),(9,AV.int .i64 x16),(10,AV.osl 1 0 (List.length x29) (List.length x29)),(11,AV.int .i64 x14)],[(0,Ob.arr 37 (List.map eDeed []) false),(1,Ob.arr 37 (List.map eDeed x29) false)],2⟩
noncomputable def spec_ReadScript_l0_X (v1 : List (List UInt8)) : (((List TDeed) × (Int) × (Int)) ⊕ ((Int))) → Ex × St := fun q => match q with
  | .inl (y43,y44,y45) => ((.exit 0),⟨[(6,AV.osl 0 0 0 0),(8,AV.int .i64 y44),(9,AV.int .i64 y45),(10,AV.osl 1 0 (List.length y43) (List.length y43))],[(0,Ob.arr 37 (List.map eDeed []) false),(1,Ob.arr 37 (List.map eDeed y43) false)],2⟩)
  | .inr y46 => (.ret,⟨[(2,AV.int .i64 0),(3,AV.int .i64 0),(4,AV.osl 0 0 0 0),(5,AV.int .i64 y46)],[(0,Ob.arr 37 (List.map eDeed []) false)],1⟩)
noncomputable def spec_ReadScript (a0 : List UInt8) : Option ((Int) × (Int) × (List TDeed) × (Int)) :=
  cnd (ile (List.length a0 : Int) 4000) (
   bnd (spec_l24Lines a0) fun v1 =>
   cnd (ile (List.length v1 : Int) 60) (
    bnd (loopI (spec_ReadScript_l0 v1) (0,0,0,[])) fun q => match q with
    | .inl (y43,y44,y45) =>
     cnd (ieq y44 0) (
      some (0,0,[],1)) (
      some (y44,y45,y43,0))
    | .inr y46 =>
     some (0,0,[],y46)) (
    some (0,0,[],(-1)))) (
   some (0,0,[],(-1)))
noncomputable def spec_ReadScript_e (q : (List UInt8)) : List AV × List Ob := ([AV.str (bs q)],[])
noncomputable def spec_ReadScript_v (q : (List UInt8)) (r : (Int) × (Int) × (List TDeed) × (Int)) : AV × List Ob := (AV.tup [AV.int .i64 r.1,AV.int .i64 r.2.1,AV.fsl (List.map eDeed r.2.2.1),AV.int .i64 r.2.2.2],[])
noncomputable def spec_ReadScript_x : List AV → List Ob → Option (AV × List Ob) := xOf spec_ReadScript_e (fun q => spec_ReadScript q) spec_ReadScript_v
theorem spec_ReadScript_i : ∀ a b,spec_ReadScript_e a = spec_ReadScript_e b → a = b := by rintro x0 y0 h; simp [spec_ReadScript_e] at h; simp [h]
@[simp] theorem spec_ReadScript_k (z0 : List UInt8) : spec_ReadScript_x [AV.str (bs z0)] [] = mapR (spec_ReadScript z0) (fun r => (AV.tup [AV.int .i64 r.1,AV.int .i64 r.2.1,AV.fsl (List.map eDeed r.2.2.1),AV.int .i64 r.2.2.2],[])) :=
  xOf_eq spec_ReadScript_i z0
noncomputable def strings_TrimSuffix (a0 : List UInt8) (a1 : List UInt8) : Option ((List UInt8)) :=
  chkP (List.length a0 ≤ 1048576) (
  some (trmL a0 a1))
noncomputable def strings_TrimSuffix_e (q : (List UInt8) × (List UInt8)) : List AV × List Ob := ([AV.str (bs q.1),AV.str (bs q.2)],[])
noncomputable def strings_TrimSuffix_v (q : (List UInt8) × (List UInt8)) (r : (List UInt8)) : AV × List Ob := (AV.str (bs r),[])
noncomputable def strings_TrimSuffix_x : List AV → List Ob → Option (AV × List Ob) := xOf strings_TrimSuffix_e (fun q => strings_TrimSuffix q.1 q.2) strings_TrimSuffix_v
theorem strings_TrimSuffix_i : ∀ a b,strings_TrimSuffix_e a = strings_TrimSuffix_e b → a = b := by rintro ⟨x0,x1⟩ ⟨y0,y1⟩ h; simp [strings_TrimSuffix_e] at h; simp [h]
@[simp] theorem strings_TrimSuffix_k (z0 : List UInt8) (z1 : List UInt8) : strings_TrimSuffix_x [AV.str (bs z0),AV.str (bs z1)] [] = mapR (strings_TrimSuffix z0 z1) (fun r => (AV.str (bs r),[])) :=
  xOf_eq strings_TrimSuffix_i (z0,z1)
noncomputable def strings_Split (a0 : List UInt8) (a1 : List UInt8) : Option ((List (List UInt8))) :=
  chkP (List.length a0 ≤ 1048576 ∧ List.length a1 = 1) (
  some (splL a0 a1))
noncomputable def strings_Split_e (q : (List UInt8) × (List UInt8)) : List AV × List Ob := ([AV.str (bs q.1),AV.str (bs q.2)],[])
noncomputable def strings_Split_v (q : (List UInt8) × (List UInt8)) (r : (List (List UInt8))) : AV × List Ob := (AV.fsl (List.map eS r),[])
noncomputable def strings_Split_x : List AV → List Ob → Option (AV × List Ob) := xOf strings_Split_e (fun q => strings_Split q.1 q.2) strings_Split_v
theorem strings_Split_i : ∀ a b,strings_Split_e a = strings_Split_e b → a = b := by rintro ⟨x0,x1⟩ ⟨y0,y1⟩ h; simp [strings_Split_e] at h; simp [h]
@[simp] theorem strings_Split_k (z0 : List UInt8) (z1 : List UInt8) : strings_Split_x [AV.str (bs z0),AV.str (bs z1)] [] = mapR (strings_Split z0 z1) (fun r => (AV.fsl (List.map eS r),[])) :=
  xOf_eq strings_Split_i (z0,z1)
noncomputable def impl_scriptLines (a0 : List UInt8) : Option ((List (List UInt8))) :=
  cnd (sq' a0 []) (
   some []) (
   bnd (strings_TrimSuffix a0 [10]) fun v1 =>
   bnd (strings_Split v1 [10]) fun v2 =>
   some v2)
noncomputable def impl_scriptLines_e (q : (List UInt8)) : List AV × List Ob := ([AV.str (bs q)],[])
noncomputable def impl_scriptLines_v (q : (List UInt8)) (r : (List (List UInt8))) : AV × List Ob := (AV.fsl (List.map eS r),[])
noncomputable def impl_scriptLines_x : List AV → List Ob → Option (AV × List Ob) := xOf impl_scriptLines_e (fun q => impl_scriptLines q) impl_scriptLines_v
theorem impl_scriptLines_i : ∀ a b,impl_scriptLines_e a = impl_scriptLines_e b → a = b := by rintro x0 y0 h; simp [impl_scriptLines_e] at h; simp [h]
@[simp] theorem impl_scriptLines_k (z0 : List UInt8) : impl_scriptLines_x [AV.str (bs z0)] [] = mapR (impl_scriptLines z0) (fun r => (AV.fsl (List.map eS r),[])) :=
  xOf_eq impl_scriptLines_i z0
noncomputable def impl_PartsOf_l0 (a0 : List UInt8) : ((Int)) → Option (((Int)) ⊕ ((Unit) ⊕ (Unit))) := fun x2 =>
  cnd (ile (List.length a0 : Int) x2) (
   some (.inr (.inl ()))) (
   bnd (idx a0 x2) fun b3 =>
   cnd (ile 32 (b3.toNat : Int)) (
    cnd (ile (b3.toNat : Int) 126) (
     some (.inl (IntKind.i64.wrap (x2 + 1)))) (
     some (.inr (.inr ())))) (
    some (.inr (.inr ()))))
noncomputable def impl_PartsOf_l0_S (a0 : List UInt8) : ((Int)) → St := fun x2 => ⟨[(0,AV.str (bs a0)),(4,AV.int .i64 x2)],[],0⟩
noncomputable def impl_PartsOf_l0_X (a0 : List UInt8) : ((Unit) ⊕ (Unit)) → Ex × St := fun q => match q with
  | .inl _ => ((.exit 0),⟨[(0,AV.str (bs a0))],[],0⟩)
  | .inr _ => (.ret,⟨[(2,AV.nilsl),(3,AV.bool false)],[],0⟩)
noncomputable def impl_PartsOf_l1 (v4 : List (List UInt8)) : ((Int) × (List (List UInt8))) → Option (((Int) × (List (List UInt8))) ⊕ ((List (List UInt8)))) := fun (x6,x7) =>
  cnd (ile (List.length v4 : Int) x6) (
   some (.inr x7)) (
   bnd (idx v4 x6) fun v8 =>
   cnd (sq' v8 []) (
    some (.inl ((IntKind.i64.wrap (x6 + 1)),x7))) (
    chkP ((List.length x7 + 1) * 16 ≤ 17592186044416) (
    nam ((x7 ++ [v8]) : List (List UInt8)) fun l9 =>
    some (.inl ((IntKind.i64.wrap (x6 + 1)),l9)))))
noncomputable def impl_PartsOf_l1_S (v4 : List (List UInt8)) : ((Int) × (List (List UInt8))) → St := fun (x6,x7) => ⟨[(5,AV.osl 0 0 (List.length x7) (List.length x7)),(28,AV.fsl (List.map eS v4)),(29,AV.int .i64 (List.length v4 : Int)),(30,AV.int .i64 x6)],[(0,Ob.arr 1 (List.map eS x7) false)],1⟩
noncomputable def impl_PartsOf_l1_X (v4 : List (List UInt8)) : ((List (List UInt8))) → Ex × St := fun y10 => ((.exit 2),⟨[(5,AV.osl 0 0 (List.length y10) (List.length y10))],[(0,Ob.arr 1 (List.map eS y10) false)],1⟩)
noncomputable def impl_PartsOf (a0 : List UInt8) : Option ((List (List UInt8)) × (Bool)) :=
  cnd (ile (List.length a0 : Int) 600) (
   bnd (loopI (impl_PartsOf_l0 a0) 0) fun q => match q with
   | .inl () =>
    bnd (strings_Split a0 [32]) fun v4 =>
    bnd (loopI (impl_PartsOf_l1 v4) (0,[])) fun y10 =>
    cnd (ile (List.length y10 : Int) 10) (
     some (y10,true)) (
     some ([],false))
   | .inr () =>
    some ([],false)) (
   some ([],false))
noncomputable def impl_PartsOf_e (q : (List UInt8)) : List AV × List Ob := ([AV.str (bs q)],[])
noncomputable def impl_PartsOf_v (q : (List UInt8)) (r : (List (List UInt8)) × (Bool)) : AV × List Ob := (AV.tup [AV.fsl (List.map eS r.1),AV.bool r.2],[])
noncomputable def impl_PartsOf_x : List AV → List Ob → Option (AV × List Ob) := xOf impl_PartsOf_e (fun q => impl_PartsOf q) impl_PartsOf_v
theorem impl_PartsOf_i : ∀ a b,impl_PartsOf_e a = impl_PartsOf_e b → a = b := by rintro x0 y0 h; simp [impl_PartsOf_e] at h; simp [h]
@[simp] theorem impl_PartsOf_k (z0 : List UInt8) : impl_PartsOf_x [AV.str (bs z0)] [] = mapR (impl_PartsOf z0) (fun r => (AV.tup [AV.fsl (List.map eS r.1),AV.bool r.2],[])) :=
  xOf_eq impl_PartsOf_i z0
noncomputable def impl_lineReader_next (a0 : TLineReader) : Option ((List UInt8) × (TLineReader)) :=
  cnd (ieq (List.length a0.parts : Int) 0) (
   some ([],(TLineReader.mk a0.parts true))) (
   bnd (idx a0.parts 0) fun v1 =>
   bnd (slc a0.parts 1 (List.length a0.parts : Int)) fun v2 =>
   some (v1,(TLineReader.mk v2 a0.bad)))
noncomputable def impl_lineReader_next_e (q : (TLineReader)) : List AV × List Ob := ([AV.optr 0 0 2],[Ob.box [AV.fsl (List.map eS q.parts),AV.bool q.bad]])
noncomputable def impl_lineReader_next_v (q : (TLineReader)) (r : (List UInt8) × (TLineReader)) : AV × List Ob := (AV.str (bs r.1),[Ob.box [AV.fsl (List.map eS r.2.parts),AV.bool r.2.bad]])
noncomputable def impl_lineReader_next_x : List AV → List Ob → Option (AV × List Ob) := xOf impl_lineReader_next_e (fun q => impl_lineReader_next q) impl_lineReader_next_v
theorem impl_lineReader_next_i : ∀ a b,impl_lineReader_next_e a = impl_lineReader_next_e b → a = b := by rintro ⟨x0,x1⟩ ⟨y0,y1⟩ h; simp [impl_lineReader_next_e] at h; simp [h]
@[simp] theorem impl_lineReader_next_k (z0 : List (List UInt8)) (z1 : Bool) : impl_lineReader_next_x [AV.optr 0 0 2] [Ob.box [AV.fsl (List.map eS z0),AV.bool z1]] = mapR (impl_lineReader_next ⟨z0,z1⟩) (fun r => (AV.str (bs r.1),[Ob.box [AV.fsl (List.map eS r.2.parts),AV.bool r.2.bad]])) :=
  xOf_eq impl_lineReader_next_i ⟨z0,z1⟩
noncomputable def strconv_Itoa (a0 : Int) : Option ((List UInt8)) :=
  chkP (0 ≤ a0 ∧ a0 ≤ 1099511627776) (
  some (itoL a0))
noncomputable def strconv_Itoa_e (q : (Int)) : List AV × List Ob := ([AV.int .i64 q],[])
noncomputable def strconv_Itoa_v (q : (Int)) (r : (List UInt8)) : AV × List Ob := (AV.str (bs r),[])
noncomputable def strconv_Itoa_x : List AV → List Ob → Option (AV × List Ob) := xOf strconv_Itoa_e (fun q => strconv_Itoa q) strconv_Itoa_v
theorem strconv_Itoa_i : ∀ a b,strconv_Itoa_e a = strconv_Itoa_e b → a = b := by rintro x0 y0 h; simp [strconv_Itoa_e] at h; simp [h]
@[simp] theorem strconv_Itoa_k (z0 : Int) : strconv_Itoa_x [AV.int .i64 z0] [] = mapR (strconv_Itoa z0) (fun r => (AV.str (bs r),[])) :=
  xOf_eq strconv_Itoa_i z0
noncomputable def impl_Decimal (a0 : Int) : Option ((List UInt8)) :=
  bnd (strconv_Itoa a0) fun v1 =>
  some v1
noncomputable def impl_Decimal_e (q : (Int)) : List AV × List Ob := ([AV.int .i64 q],[])
noncomputable def impl_Decimal_v (q : (Int)) (r : (List UInt8)) : AV × List Ob := (AV.str (bs r),[])
noncomputable def impl_Decimal_x : List AV → List Ob → Option (AV × List Ob) := xOf impl_Decimal_e (fun q => impl_Decimal q) impl_Decimal_v
theorem impl_Decimal_i : ∀ a b,impl_Decimal_e a = impl_Decimal_e b → a = b := by rintro x0 y0 h; simp [impl_Decimal_e] at h; simp [h]
@[simp] theorem impl_Decimal_k (z0 : Int) : impl_Decimal_x [AV.int .i64 z0] [] = mapR (impl_Decimal z0) (fun r => (AV.str (bs r),[])) :=
  xOf_eq impl_Decimal_i z0
noncomputable def impl_ReadDecimal_l0 (a0 : List UInt8) : ((Int) × (Int)) → Option (((Int) × (Int)) ⊕ (((Int)) ⊕ (Unit))) := fun (x2,x3) =>
  cnd (ile (List.length a0 : Int) x3) (
   some (.inr (.inl x2))) (
   bnd (idx a0 x3) fun b4 =>
   cnd (ile 48 (b4.toNat : Int)) (
    cnd (ile (b4.toNat : Int) 57) (
     some (.inl ((IntKind.i64.wrap ((IntKind.i64.wrap (x2 * 10)) + (IntKind.i64.wrap (IntKind.u8.wrap ((b4.toNat : Int) - 48))))),(IntKind.i64.wrap (x3 + 1))))) (
     some (.inr (.inr ())))) (
    some (.inr (.inr ()))))
noncomputable def impl_ReadDecimal_l0_S (a0 : List UInt8) : ((Int) × (Int)) → St := fun (x2,x3) => ⟨[(0,AV.str (bs a0)),(4,AV.int .i64 x2),(5,AV.int .i64 x3)],[],0⟩
noncomputable def impl_ReadDecimal_l0_X (a0 : List UInt8) : (((Int)) ⊕ (Unit)) → Ex × St := fun q => match q with
  | .inl y5 => ((.exit 0),⟨[(0,AV.str (bs a0)),(4,AV.int .i64 y5)],[],0⟩)
  | .inr _ => (.ret,⟨[(2,AV.int .i64 0),(3,AV.bool false)],[],0⟩)
noncomputable def impl_ReadDecimal (a0 : List UInt8) : Option ((Int) × (Bool)) :=
  cnd (ieq (List.length a0 : Int) 0) (
   some (0,false)) (
   cnd (ile (List.length a0 : Int) 10) (
    bnd (loopI (impl_ReadDecimal_l0 a0) (0,0)) fun q => match q with
    | .inl y5 =>
     cnd (ile y5 1000000000) (
      bnd (impl_Decimal y5) fun v6 =>
      cnd (sq' v6 a0) (
       some (y5,true)) (
       some (0,false))) (
      some (0,false))
    | .inr () =>
     some (0,false)) (
    some (0,false)))
noncomputable def impl_ReadDecimal_e (q : (List UInt8)) : List AV × List Ob := ([AV.str (bs q)],[])
noncomputable def impl_ReadDecimal_v (q : (List UInt8)) (r : (Int) × (Bool)) : AV × List Ob := (AV.tup [AV.int .i64 r.1,AV.bool r.2],[])
noncomputable def impl_ReadDecimal_x : List AV → List Ob → Option (AV × List Ob) := xOf impl_ReadDecimal_e (fun q => impl_ReadDecimal q) impl_ReadDecimal_v
theorem impl_ReadDecimal_i : ∀ a b,impl_ReadDecimal_e a = impl_ReadDecimal_e b → a = b := by rintro x0 y0 h; simp [impl_ReadDecimal_e] at h; simp [h]
@[simp] theorem impl_ReadDecimal_k (z0 : List UInt8) : impl_ReadDecimal_x [AV.str (bs z0)] [] = mapR (impl_ReadDecimal z0) (fun r => (AV.tup [AV.int .i64 r.1,AV.bool r.2],[])) :=
  xOf_eq impl_ReadDecimal_i z0
noncomputable def impl_lineReader_number (a0 : TLineReader) : Option ((Int) × (TLineReader)) :=
  bnd (impl_lineReader_next a0) fun (w2,w3) =>
  bnd (impl_ReadDecimal w2) fun (w5,w6) =>
  cnd w3.bad (
   some (w5,(TLineReader.mk w3.parts true))) (
   some (w5,(TLineReader.mk w3.parts (!w6))))
noncomputable def impl_lineReader_number_e (q : (TLineReader)) : List AV × List Ob := ([AV.optr 0 0 2],[Ob.box [AV.fsl (List.map eS q.parts),AV.bool q.bad]])
noncomputable def impl_lineReader_number_v (q : (TLineReader)) (r : (Int) × (TLineReader)) : AV × List Ob := (AV.int .i64 r.1,[Ob.box [AV.fsl (List.map eS r.2.parts),AV.bool r.2.bad]])
noncomputable def impl_lineReader_number_x : List AV → List Ob → Option (AV × List Ob) := xOf impl_lineReader_number_e (fun q => impl_lineReader_number q) impl_lineReader_number_v
theorem impl_lineReader_number_i : ∀ a b,impl_lineReader_number_e a = impl_lineReader_number_e b → a = b := by rintro ⟨x0,x1⟩ ⟨y0,y1⟩ h; simp [impl_lineReader_number_e] at h; simp [h]
@[simp] theorem impl_lineReader_number_k (z0 : List (List UInt8)) (z1 : Bool) : impl_lineReader_number_x [AV.optr 0 0 2] [Ob.box [AV.fsl (List.map eS z0),AV.bool z1]] = mapR (impl_lineReader_number ⟨z0,z1⟩) (fun r => (AV.int .i64 r.1,[Ob.box [AV.fsl (List.map eS r.2.parts),AV.bool r.2.bad]])) :=
  xOf_eq impl_lineReader_number_i ⟨z0,z1⟩
noncomputable def impl_Still  : Option ((TMat)) :=
  some (TMat.mk 65536 0 0 65536 0 0)
noncomputable def impl_Still_e (q : Unit) : List AV × List Ob := ([],[])
noncomputable def impl_Still_v (q : Unit) (r : (TMat)) : AV × List Ob := (AV.agg [AV.int .i64 r.a,AV.int .i64 r.b,AV.int .i64 r.c,AV.int .i64 r.d,AV.int .i64 r.e,AV.int .i64 r.f],[])
noncomputable def impl_Still_x : List AV → List Ob → Option (AV × List Ob) := xOf impl_Still_e (fun q => impl_Still) impl_Still_v
theorem impl_Still_i : ∀ a b,impl_Still_e a = impl_Still_e b → a = b := by intros; rfl
@[simp] theorem impl_Still_k  : impl_Still_x [] [] = mapR (impl_Still) (fun r => (AV.agg [AV.int .i64 r.a,AV.int .i64 r.b,AV.int .i64 r.c,AV.int .i64 r.d,AV.int .i64 r.e,AV.int .i64 r.f],[])) :=
  xOf_eq impl_Still_i ()
noncomputable def impl_lineReader_box (a0 : TLineReader) : Option ((TBox) × (TLineReader)) :=
  bnd (impl_lineReader_number a0) fun (w2,w3) =>
  bnd (impl_lineReader_number w3) fun (w5,w6) =>
  bnd (impl_lineReader_number w6) fun (w8,w9) =>
  bnd (impl_lineReader_number w9) fun (w11,w12) =>
  some ((TBox.mk w2 w5 w8 w11),w12)
noncomputable def impl_lineReader_box_e (q : (TLineReader)) : List AV × List Ob := ([AV.optr 0 0 2],[Ob.box [AV.fsl (List.map eS q.parts),AV.bool q.bad]])
noncomputable def impl_lineReader_box_v (q : (TLineReader)) (r : (TBox) × (TLineReader)) : AV × List Ob := (AV.agg [AV.int .i64 r.1.x0,AV.int .i64 r.1.y0,AV.int .i64 r.1.x1,AV.int .i64 r.1.y1],[Ob.box [AV.fsl (List.map eS r.2.parts),AV.bool r.2.bad]])
noncomputable def impl_lineReader_box_x : List AV → List Ob → Option (AV × List Ob) := xOf impl_lineReader_box_e (fun q => impl_lineReader_box q) impl_lineReader_box_v
theorem impl_lineReader_box_i : ∀ a b,impl_lineReader_box_e a = impl_lineReader_box_e b → a = b := by rintro ⟨x0,x1⟩ ⟨y0,y1⟩ h; simp [impl_lineReader_box_e] at h; simp [h]
@[simp] theorem impl_lineReader_box_k (z0 : List (List UInt8)) (z1 : Bool) : impl_lineReader_box_x [AV.optr 0 0 2] [Ob.box [AV.fsl (List.map eS z0),AV.bool z1]] = mapR (impl_lineReader_box ⟨z0,z1⟩) (fun r => (AV.agg [AV.int .i64 r.1.x0,AV.int .i64 r.1.y0,AV.int .i64 r.1.x1,AV.int .i64 r.1.y1],[Ob.box [AV.fsl (List.map eS r.2.parts),AV.bool r.2.bad]])) :=
  xOf_eq impl_lineReader_box_i ⟨z0,z1⟩
noncomputable def impl_corners (a0 : TBox) : Option ((List TPoint)) :=
  some [(TPoint.mk a0.x0 a0.y0),(TPoint.mk a0.x1 a0.y0),(TPoint.mk a0.x1 a0.y1),(TPoint.mk a0.x0 a0.y1)]
noncomputable def impl_corners_e (q : (TBox)) : List AV × List Ob := ([AV.agg [AV.int .i64 q.x0,AV.int .i64 q.y0,AV.int .i64 q.x1,AV.int .i64 q.y1]],[])
noncomputable def impl_corners_v (q : (TBox)) (r : (List TPoint)) : AV × List Ob := (AV.osl 0 0 (List.length r) (List.length r),[Ob.arr 2 (List.map ePoint r) false])
noncomputable def impl_corners_x : List AV → List Ob → Option (AV × List Ob) := xOf impl_corners_e (fun q => impl_corners q) impl_corners_v
theorem impl_corners_i : ∀ a b,impl_corners_e a = impl_corners_e b → a = b := by rintro ⟨x0,x1,x2,x3⟩ ⟨y0,y1,y2,y3⟩ h; simp [impl_corners_e] at h; simp [h]
@[simp] theorem impl_corners_k (z0 : Int) (z1 : Int) (z2 : Int) (z3 : Int) : impl_corners_x [AV.agg [AV.int .i64 z0,AV.int .i64 z1,AV.int .i64 z2,AV.int .i64 z3]] [] = mapR (impl_corners ⟨z0,z1,z2,z3⟩) (fun r => (AV.osl 0 0 (List.length r) (List.length r),[Ob.arr 2 (List.map ePoint r) false])) :=
  xOf_eq impl_corners_i ⟨z0,z1,z2,z3⟩
noncomputable def impl_Empty (a0 : TBox) : Option ((Bool)) :=
  cnd (ile a0.x1 a0.x0) (
   some true) (
   some (ile a0.y1 a0.y0))
noncomputable def impl_Empty_e (q : (TBox)) : List AV × List Ob := ([AV.agg [AV.int .i64 q.x0,AV.int .i64 q.y0,AV.int .i64 q.x1,AV.int .i64 q.y1]],[])
noncomputable def impl_Empty_v (q : (TBox)) (r : (Bool)) : AV × List Ob := (AV.bool r,[])
noncomputable def impl_Empty_x : List AV → List Ob → Option (AV × List Ob) := xOf impl_Empty_e (fun q => impl_Empty q) impl_Empty_v
theorem impl_Empty_i : ∀ a b,impl_Empty_e a = impl_Empty_e b → a = b := by rintro ⟨x0,x1,x2,x3⟩ ⟨y0,y1,y2,y3⟩ h; simp [impl_Empty_e] at h; simp [h]
@[simp] theorem impl_Empty_k (z0 : Int) (z1 : Int) (z2 : Int) (z3 : Int) : impl_Empty_x [AV.agg [AV.int .i64 z0,AV.int .i64 z1,AV.int .i64 z2,AV.int .i64 z3]] [] = mapR (impl_Empty ⟨z0,z1,z2,z3⟩) (fun r => (AV.bool r,[])) :=
  xOf_eq impl_Empty_i ⟨z0,z1,z2,z3⟩
noncomputable def impl_inRange (a0 : Int) (a1 : Int) (a2 : Int) : Option ((Bool)) :=
  cnd (ile a1 a0) (
   some (ile a0 a2)) (
   some false)
noncomputable def impl_inRange_e (q : (Int) × (Int) × (Int)) : List AV × List Ob := ([AV.int .i64 q.1,AV.int .i64 q.2.1,AV.int .i64 q.2.2],[])
noncomputable def impl_inRange_v (q : (Int) × (Int) × (Int)) (r : (Bool)) : AV × List Ob := (AV.bool r,[])
noncomputable def impl_inRange_x : List AV → List Ob → Option (AV × List Ob) := xOf impl_inRange_e (fun q => impl_inRange q.1 q.2.1 q.2.2) impl_inRange_v
theorem impl_inRange_i : ∀ a b,impl_inRange_e a = impl_inRange_e b → a = b := by rintro ⟨x0,x1,x2⟩ ⟨y0,y1,y2⟩ h; simp [impl_inRange_e] at h; simp [h]
@[simp] theorem impl_inRange_k (z0 : Int) (z1 : Int) (z2 : Int) : impl_inRange_x [AV.int .i64 z0,AV.int .i64 z1,AV.int .i64 z2] [] = mapR (impl_inRange z0 z1 z2) (fun r => (AV.bool r,[])) :=
  xOf_eq impl_inRange_i (z0,z1,z2)
noncomputable def impl_isFar (a0 : Int) : Option ((Bool)) :=
  bnd (impl_inRange a0 (-8388608) 8388608) fun v1 =>
  some v1
noncomputable def impl_isFar_e (q : (Int)) : List AV × List Ob := ([AV.int .i64 q],[])
noncomputable def impl_isFar_v (q : (Int)) (r : (Bool)) : AV × List Ob := (AV.bool r,[])
noncomputable def impl_isFar_x : List AV → List Ob → Option (AV × List Ob) := xOf impl_isFar_e (fun q => impl_isFar q) impl_isFar_v
theorem impl_isFar_i : ∀ a b,impl_isFar_e a = impl_isFar_e b → a = b := by rintro x0 y0 h; simp [impl_isFar_e] at h; simp [h]
@[simp] theorem impl_isFar_k (z0 : Int) : impl_isFar_x [AV.int .i64 z0] [] = mapR (impl_isFar z0) (fun r => (AV.bool r,[])) :=
  xOf_eq impl_isFar_i z0
noncomputable def impl_PointOk (a0 : TPoint) : Option ((Bool)) :=
  bnd (impl_isFar a0.x) fun v1 =>
  cnd v1 (
   bnd (impl_isFar a0.y) fun v2 =>
   some v2) (
   some false)
noncomputable def impl_PointOk_e (q : (TPoint)) : List AV × List Ob := ([AV.agg [AV.int .i64 q.x,AV.int .i64 q.y]],[])
noncomputable def impl_PointOk_v (q : (TPoint)) (r : (Bool)) : AV × List Ob := (AV.bool r,[])
noncomputable def impl_PointOk_x : List AV → List Ob → Option (AV × List Ob) := xOf impl_PointOk_e (fun q => impl_PointOk q) impl_PointOk_v
theorem impl_PointOk_i : ∀ a b,impl_PointOk_e a = impl_PointOk_e b → a = b := by rintro ⟨x0,x1⟩ ⟨y0,y1⟩ h; simp [impl_PointOk_e] at h; simp [h]
@[simp] theorem impl_PointOk_k (z0 : Int) (z1 : Int) : impl_PointOk_x [AV.agg [AV.int .i64 z0,AV.int .i64 z1]] [] = mapR (impl_PointOk ⟨z0,z1⟩) (fun r => (AV.bool r,[])) :=
  xOf_eq impl_PointOk_i ⟨z0,z1⟩
noncomputable def impl_pointsOk_l0 (a0 : List TPoint) : ((Int)) → Option (((Int)) ⊕ ((Unit) ⊕ (Unit))) := fun x3 =>
  cnd (ile (List.length a0 : Int) x3) (
   some (.inr (.inl ()))) (
   bnd (idx a0 x3) fun v4 =>
   bnd (impl_PointOk v4) fun v5 =>
   cnd v5 (
    some (.inl (IntKind.i64.wrap (x3 + 1)))) (
    some (.inr (.inr ()))))
noncomputable def impl_pointsOk_l0_S (a0 : List TPoint) : ((Int)) → St := fun x3 => ⟨[(5,AV.fsl (List.map ePoint a0)),(6,AV.int .i64 (List.length a0 : Int)),(7,AV.int .i64 x3)],[],0⟩
noncomputable def impl_pointsOk_l0_X (a0 : List TPoint) : ((Unit) ⊕ (Unit)) → Ex × St := fun q => match q with
  | .inl _ => ((.exit 0),⟨[],[],0⟩)
  | .inr _ => (.ret,⟨[(2,AV.bool false)],[],0⟩)
noncomputable def impl_pointsOk (a0 : List TPoint) : Option ((Bool)) :=
  bnd (loopI (impl_pointsOk_l0 a0) 0) fun q => match q with
  | .inl () =>
   some true
  | .inr () =>
   some false
noncomputable def impl_pointsOk_e (q : (List TPoint)) : List AV × List Ob := ([AV.fsl (List.map ePoint q)],[])
noncomputable def impl_pointsOk_v (q : (List TPoint)) (r : (Bool)) : AV × List Ob := (AV.bool r,[])
noncomputable def impl_pointsOk_x : List AV → List Ob → Option (AV × List Ob) := xOf impl_pointsOk_e (fun q => impl_pointsOk q) impl_pointsOk_v
theorem impl_pointsOk_i : ∀ a b,impl_pointsOk_e a = impl_pointsOk_e b → a = b := by rintro x0 y0 h; simp [impl_pointsOk_e] at h; simp [h]
@[simp] theorem impl_pointsOk_k (z0 : List TPoint) : impl_pointsOk_x [AV.fsl (List.map ePoint z0)] [] = mapR (impl_pointsOk z0) (fun r => (AV.bool r,[])) :=
  xOf_eq impl_pointsOk_i z0
noncomputable def impl_RectPath (a0 : TBox) : Option ((List Int) × (List TPoint)) :=
  bnd (impl_corners a0) fun v1 =>
  bnd (impl_Empty a0) fun v2 =>
  cnd v2 (
   some ([],[])) (
   bnd (impl_pointsOk v1) fun v3 =>
   cnd v3 (
    some ([1,2,2,2,5],v1)) (
    some ([],[])))
noncomputable def impl_RectPath_e (q : (TBox)) : List AV × List Ob := ([AV.agg [AV.int .i64 q.x0,AV.int .i64 q.y0,AV.int .i64 q.x1,AV.int .i64 q.y1]],[])
noncomputable def impl_RectPath_v (q : (TBox)) (r : (List Int) × (List TPoint)) : AV × List Ob := (AV.agg [AV.osl 0 0 (List.length r.1) (List.length r.1),AV.osl 1 0 (List.length r.2) (List.length r.2)],[Ob.arr 1 (List.map (AV.int .i64) r.1) false,Ob.arr 2 (List.map ePoint r.2) false])
noncomputable def impl_RectPath_x : List AV → List Ob → Option (AV × List Ob) := xOf impl_RectPath_e (fun q => impl_RectPath q) impl_RectPath_v
theorem impl_RectPath_i : ∀ a b,impl_RectPath_e a = impl_RectPath_e b → a = b := by rintro ⟨x0,x1,x2,x3⟩ ⟨y0,y1,y2,y3⟩ h; simp [impl_RectPath_e] at h; simp [h]
@[simp] theorem impl_RectPath_k (z0 : Int) (z1 : Int) (z2 : Int) (z3 : Int) : impl_RectPath_x [AV.agg [AV.int .i64 z0,AV.int .i64 z1,AV.int .i64 z2,AV.int .i64 z3]] [] = mapR (impl_RectPath ⟨z0,z1,z2,z3⟩) (fun r => (AV.agg [AV.osl 0 0 (List.length r.1) (List.length r.1),AV.osl 1 0 (List.length r.2) (List.length r.2)],[Ob.arr 1 (List.map (AV.int .i64) r.1) false,Ob.arr 2 (List.map ePoint r.2) false])) :=
  xOf_eq impl_RectPath_i ⟨z0,z1,z2,z3⟩
noncomputable def strings_IndexByte (a0 : List UInt8) (a1 : Int) : Option ((Int)) :=
  some (ixbL a0 a1)
noncomputable def strings_IndexByte_e (q : (List UInt8) × (Int)) : List AV × List Ob := ([AV.str (bs q.1),AV.int .u8 q.2],[])
noncomputable def strings_IndexByte_v (q : (List UInt8) × (Int)) (r : (Int)) : AV × List Ob := (AV.int .i64 r,[])
noncomputable def strings_IndexByte_x : List AV → List Ob → Option (AV × List Ob) := xOf strings_IndexByte_e (fun q => strings_IndexByte q.1 q.2) strings_IndexByte_v
theorem strings_IndexByte_i : ∀ a b,strings_IndexByte_e a = strings_IndexByte_e b → a = b := by rintro ⟨x0,x1⟩ ⟨y0,y1⟩ h; simp [strings_IndexByte_e] at h; simp [h]
@[simp] theorem strings_IndexByte_k (z0 : List UInt8) (z1 : Int) : strings_IndexByte_x [AV.str (bs z0),AV.int .u8 z1] [] = mapR (strings_IndexByte z0 z1) (fun r => (AV.int .i64 r,[])) :=
  xOf_eq strings_IndexByte_i (z0,z1)
noncomputable def impl_Unhex_l0 (a0 : List UInt8) : ((Int) × (List Int)) → Option (((Int) × (List Int)) ⊕ (((List Int)) ⊕ (Unit))) := fun (x5,x6) =>
  cnd (ile (List.length a0 : Int) x5) (
   some (.inr (.inl x6))) (
   bnd (idx a0 x5) fun b7 =>
   bnd (strings_IndexByte [48,49,50,51,52,53,54,55,56,57,97,98,99,100,101,102] (b7.toNat : Int)) fun v8 =>
   bnd (idx a0 (IntKind.i64.wrap (x5 + 1))) fun b9 =>
   bnd (strings_IndexByte [48,49,50,51,52,53,54,55,56,57,97,98,99,100,101,102] (b9.toNat : Int)) fun v10 =>
   cnd (ile 0 v8) (
    cnd (ile 0 v10) (
     chkP ((List.length x6 + 1) * 1 ≤ 17592186044416) (
     nam ((x6 ++ [(IntKind.u8.wrap (orI .i64 (shlI .i64 v8 4) v10))]) : List Int) fun l11 =>
     some (.inl ((IntKind.i64.wrap (x5 + 2)),l11)))) (
     some (.inr (.inr ())))) (
    some (.inr (.inr ()))))
noncomputable def impl_Unhex_l0_S (a0 : List UInt8) : ((Int) × (List Int)) → St := fun (x5,x6) => ⟨[(0,AV.str (bs a0)),(4,AV.osl 0 0 (List.length x6) (List.length x6)),(5,AV.int .i64 x5)],[(0,Ob.arr 1 (List.map (AV.int .u8) x6) false)],1⟩
noncomputable def impl_Unhex_l0_X (a0 : List UInt8) : (((List Int)) ⊕ (Unit)) → Ex × St := fun q => match q with
  | .inl y12 => ((.exit 0),⟨[(4,AV.osl 0 0 (List.length y12) (List.length y12))],[(0,Ob.arr 1 (List.map (AV.int .u8) y12) false)],1⟩)
  | .inr _ => (.ret,⟨[(2,AV.str (bs [])),(3,AV.bool false)],[],0⟩)
noncomputable def impl_Unhex (a0 : List UInt8) : Option ((List UInt8) × (Bool)) :=
  cnd (ieq (Int.tmod (List.length a0 : Int) 2) 0) (
   cnd (ile (List.length a0 : Int) 40000) (
    chkP (0 ≤ (IntKind.i64.wrap (Int.tdiv (List.length a0 : Int) 2)) ∧ (IntKind.i64.wrap (Int.tdiv (List.length a0 : Int) 2)) ≤ 17592186044416 ∧ (IntKind.i64.wrap (Int.tdiv (List.length a0 : Int) 2)) * 1 ≤ 17592186044416) (
    bnd (loopI (impl_Unhex_l0 a0) (0,[])) fun q => match q with
    | .inl y12 =>
     some ((toBs y12),true)
    | .inr () =>
     some ([],false))) (
    some ([],false))) (
   some ([],false))
noncomputable def impl_Unhex_e (q : (List UInt8)) : List AV × List Ob := ([AV.str (bs q)],[])
noncomputable def impl_Unhex_v (q : (List UInt8)) (r : (List UInt8) × (Bool)) : AV × List Ob := (AV.tup [AV.str (bs r.1),AV.bool r.2],[])
noncomputable def impl_Unhex_x : List AV → List Ob → Option (AV × List Ob) := xOf impl_Unhex_e (fun q => impl_Unhex q) impl_Unhex_v
theorem impl_Unhex_i : ∀ a b,impl_Unhex_e a = impl_Unhex_e b → a = b := by rintro x0 y0 h; simp [impl_Unhex_e] at h; simp [h]
@[simp] theorem impl_Unhex_k (z0 : List UInt8) : impl_Unhex_x [AV.str (bs z0)] [] = mapR (impl_Unhex z0) (fun r => (AV.tup [AV.str (bs r.1),AV.bool r.2],[])) :=
  xOf_eq impl_Unhex_i z0
noncomputable def impl_lineReader_color (a0 : TLineReader) : Option ((TColor) × (TLineReader)) :=
  bnd (impl_lineReader_next a0) fun (w2,w3) =>
  bnd (impl_Unhex w2) fun (w5,w6) =>
  cnd w6 (
   cnd (ieq (List.length w5 : Int) 4) (
    bnd (idx w5 0) fun b7 =>
    bnd (idx w5 1) fun b8 =>
    bnd (idx w5 2) fun b9 =>
    bnd (idx w5 3) fun b10 =>
    some ((TColor.mk (IntKind.i64.wrap (b7.toNat : Int)) (IntKind.i64.wrap (b8.toNat : Int)) (IntKind.i64.wrap (b9.toNat : Int)) (IntKind.i64.wrap (b10.toNat : Int))),w3)) (
    some ((TColor.mk 0 0 0 0),(TLineReader.mk w3.parts true)))) (
   some ((TColor.mk 0 0 0 0),(TLineReader.mk w3.parts true)))
noncomputable def impl_lineReader_color_e (q : (TLineReader)) : List AV × List Ob := ([AV.optr 0 0 2],[Ob.box [AV.fsl (List.map eS q.parts),AV.bool q.bad]])
noncomputable def impl_lineReader_color_v (q : (TLineReader)) (r : (TColor) × (TLineReader)) : AV × List Ob := (AV.agg [AV.int .i64 r.1.r,AV.int .i64 r.1.g,AV.int .i64 r.1.b,AV.int .i64 r.1.a],[Ob.box [AV.fsl (List.map eS r.2.parts),AV.bool r.2.bad]])
noncomputable def impl_lineReader_color_x : List AV → List Ob → Option (AV × List Ob) := xOf impl_lineReader_color_e (fun q => impl_lineReader_color q) impl_lineReader_color_v
theorem impl_lineReader_color_i : ∀ a b,impl_lineReader_color_e a = impl_lineReader_color_e b → a = b := by rintro ⟨x0,x1⟩ ⟨y0,y1⟩ h; simp [impl_lineReader_color_e] at h; simp [h]
@[simp] theorem impl_lineReader_color_k (z0 : List (List UInt8)) (z1 : Bool) : impl_lineReader_color_x [AV.optr 0 0 2] [Ob.box [AV.fsl (List.map eS z0),AV.bool z1]] = mapR (impl_lineReader_color ⟨z0,z1⟩) (fun r => (AV.agg [AV.int .i64 r.1.r,AV.int .i64 r.1.g,AV.int .i64 r.1.b,AV.int .i64 r.1.a],[Ob.box [AV.fsl (List.map eS r.2.parts),AV.bool r.2.bad]])) :=
  xOf_eq impl_lineReader_color_i ⟨z0,z1⟩
noncomputable def impl_lineReader_created (a0 : List UInt8) (a1 : TLineReader) : Option ((Int) × (Int) × (Bool) × (TMat) × (Bool) × (Int) × (TPaint) × (Int) × (Int) × (TLineReader) × (List Int) × (List TPoint)) :=
  bnd (impl_lineReader_number a1) fun (w2,w3) =>
  bnd impl_Still fun v4 =>
  bnd (impl_lineReader_number w3) fun (w6,w7) =>
  cnd (sq' a0 [103,114,111,117,112]) (
   bnd (impl_lineReader_number w7) fun (w9,w10) =>
   bnd (impl_lineReader_number w10) fun (w12,w13) =>
   bnd (impl_lineReader_number w13) fun (w15,w16) =>
   some (w2,w6,true,(TMat.mk v4.a v4.b v4.c v4.d w9 w12),false,0,(TPaint.mk 0 (TColor.mk 0 0 0 0) (TColor.mk 0 0 0 0) (TPoint.mk 0 0) (TPoint.mk 0 0)),1,w15,w16,[],[])) (
   bnd (impl_lineReader_box w7) fun (w18,w19) =>
   bnd (impl_RectPath w18) fun (w21,w22) =>
   cnd (sq' a0 [108,105,110,101]) (
    bnd (impl_lineReader_number w19) fun (w24,w25) =>
    bnd (impl_lineReader_color w25) fun (w27,w28) =>
    some (w2,w6,false,v4,false,w24,(TPaint.mk 1 w27 (TColor.mk 0 0 0 0) (TPoint.mk 0 0) (TPoint.mk 0 0)),1,255,w28,[1,2],[(TPoint.mk w18.x0 w18.y0),(TPoint.mk w18.x1 w18.y1)])) (
    bnd (impl_lineReader_color w19) fun (w30,w31) =>
    some (w2,w6,false,v4,false,0,(TPaint.mk 1 w30 (TColor.mk 0 0 0 0) (TPoint.mk 0 0) (TPoint.mk 0 0)),1,255,w31,w21,w22)))
noncomputable def impl_lineReader_created_e (q : (List UInt8) × (TLineReader)) : List AV × List Ob := ([AV.optr 0 0 2,AV.str (bs q.1)],[Ob.box [AV.fsl (List.map eS q.2.parts),AV.bool q.2.bad]])
noncomputable def impl_lineReader_created_v (q : (List UInt8) × (TLineReader)) (r : (Int) × (Int) × (Bool) × (TMat) × (Bool) × (Int) × (TPaint) × (Int) × (Int) × (TLineReader) × (List Int) × (List TPoint)) : AV × List Ob := (AV.agg [AV.int .i64 r.1,AV.int .i64 r.2.1,AV.bool r.2.2.1,AV.int .i64 r.2.2.2.1.a,AV.int .i64 r.2.2.2.1.b,AV.int .i64 r.2.2.2.1.c,AV.int .i64 r.2.2.2.1.d,AV.int .i64 r.2.2.2.1.e,AV.int .i64 r.2.2.2.1.f,AV.osl 1 0 (List.length r.2.2.2.2.2.2.2.2.2.2.1) (List.length r.2.2.2.2.2.2.2.2.2.2.1),AV.osl 2 0 (List.length r.2.2.2.2.2.2.2.2.2.2.2) (List.length r.2.2.2.2.2.2.2.2.2.2.2),AV.bool r.2.2.2.2.1,AV.int .i64 r.2.2.2.2.2.1,AV.nilsl,AV.int .i64 r.2.2.2.2.2.2.1.kind,AV.int .i64 r.2.2.2.2.2.2.1.first.r,AV.int .i64 r.2.2.2.2.2.2.1.first.g,AV.int .i64 r.2.2.2.2.2.2.1.first.b,AV.int .i64 r.2.2.2.2.2.2.1.first.a,AV.int .i64 r.2.2.2.2.2.2.1.last.r,AV.int .i64 r.2.2.2.2.2.2.1.last.g,AV.int .i64 r.2.2.2.2.2.2.1.last.b,AV.int .i64 r.2.2.2.2.2.2.1.last.a,AV.int .i64 r.2.2.2.2.2.2.1.from_.x,AV.int .i64 r.2.2.2.2.2.2.1.from_.y,AV.int .i64 r.2.2.2.2.2.2.1.to.x,AV.int .i64 r.2.2.2.2.2.2.1.to.y,AV.int .i64 r.2.2.2.2.2.2.2.1,AV.int .i64 r.2.2.2.2.2.2.2.2.1,AV.nilsl,AV.nilsl],[Ob.box [AV.fsl (List.map eS r.2.2.2.2.2.2.2.2.2.1.parts),AV.bool r.2.2.2.2.2.2.2.2.2.1.bad],Ob.arr 1 (List.map (AV.int .i64) r.2.2.2.2.2.2.2.2.2.2.1) false,Ob.arr 2 (List.map ePoint r.2.2.2.2.2.2.2.2.2.2.2) false])
noncomputable def impl_lineReader_created_x : List AV → List Ob → Option (AV × List Ob) := xOf impl_lineReader_created_e (fun q => impl_lineReader_created q.1 q.2) impl_lineReader_created_v
theorem impl_lineReader_created_i : ∀ a b,impl_lineReader_created_e a = impl_lineReader_created_e b → a = b := by rintro ⟨x0,⟨x1,x2⟩⟩ ⟨y0,⟨y1,y2⟩⟩ h; simp [impl_lineReader_created_e] at h; simp [h]
@[simp] theorem impl_lineReader_created_k (z0 : List UInt8) (z1 : List (List UInt8)) (z2 : Bool) : impl_lineReader_created_x [AV.optr 0 0 2,AV.str (bs z0)] [Ob.box [AV.fsl (List.map eS z1),AV.bool z2]] = mapR (impl_lineReader_created z0 ⟨z1,z2⟩) (fun r => (AV.agg [AV.int .i64 r.1,AV.int .i64 r.2.1,AV.bool r.2.2.1,AV.int .i64 r.2.2.2.1.a,AV.int .i64 r.2.2.2.1.b,AV.int .i64 r.2.2.2.1.c,AV.int .i64 r.2.2.2.1.d,AV.int .i64 r.2.2.2.1.e,AV.int .i64 r.2.2.2.1.f,AV.osl 1 0 (List.length r.2.2.2.2.2.2.2.2.2.2.1) (List.length r.2.2.2.2.2.2.2.2.2.2.1),AV.osl 2 0 (List.length r.2.2.2.2.2.2.2.2.2.2.2) (List.length r.2.2.2.2.2.2.2.2.2.2.2),AV.bool r.2.2.2.2.1,AV.int .i64 r.2.2.2.2.2.1,AV.nilsl,AV.int .i64 r.2.2.2.2.2.2.1.kind,AV.int .i64 r.2.2.2.2.2.2.1.first.r,AV.int .i64 r.2.2.2.2.2.2.1.first.g,AV.int .i64 r.2.2.2.2.2.2.1.first.b,AV.int .i64 r.2.2.2.2.2.2.1.first.a,AV.int .i64 r.2.2.2.2.2.2.1.last.r,AV.int .i64 r.2.2.2.2.2.2.1.last.g,AV.int .i64 r.2.2.2.2.2.2.1.last.b,AV.int .i64 r.2.2.2.2.2.2.1.last.a,AV.int .i64 r.2.2.2.2.2.2.1.from_.x,AV.int .i64 r.2.2.2.2.2.2.1.from_.y,AV.int .i64 r.2.2.2.2.2.2.1.to.x,AV.int .i64 r.2.2.2.2.2.2.1.to.y,AV.int .i64 r.2.2.2.2.2.2.2.1,AV.int .i64 r.2.2.2.2.2.2.2.2.1,AV.nilsl,AV.nilsl],[Ob.box [AV.fsl (List.map eS r.2.2.2.2.2.2.2.2.2.1.parts),AV.bool r.2.2.2.2.2.2.2.2.2.1.bad],Ob.arr 1 (List.map (AV.int .i64) r.2.2.2.2.2.2.2.2.2.2.1) false,Ob.arr 2 (List.map ePoint r.2.2.2.2.2.2.2.2.2.2.2) false])) :=
  xOf_eq impl_lineReader_created_i (z0,⟨z1,z2⟩)
noncomputable def impl_lineReader_deed (a0 : TLineReader) : Option ((Int) × (Int) × (Int) × (Bool) × (TMat) × (Bool) × (Int) × (TPaint) × (Int) × (Int) × (Int) × (Int) × (Int) × (Int) × (Int) × (TLineReader) × (List Int) × (List TPoint)) :=
  bnd (impl_lineReader_next a0) fun (w2,w3) =>
  cnd (sq' w2 [103,114,111,117,112]) (
   bnd (impl_lineReader_created w2 w3) fun (w5,w6,w7,w8,w9,w10,w11,w12,w13,w14,w15,w16) =>
   some (1,w5,w6,w7,w8,w9,w10,w11,w12,w13,0,0,0,0,0,w14,w15,w16)) (
   cnd (sq' w2 [114,101,99,116]) (
    bnd (impl_lineReader_created w2 w3) fun (w18,w19,w20,w21,w22,w23,w24,w25,w26,w27,w28,w29) =>
    some (1,w18,w19,w20,w21,w22,w23,w24,w25,w26,0,0,0,0,0,w27,w28,w29)) (
    cnd (sq' w2 [108,105,110,101]) (
     bnd (impl_lineReader_created w2 w3) fun (w31,w32,w33,w34,w35,w36,w37,w38,w39,w40,w41,w42) =>
     some (1,w31,w32,w33,w34,w35,w36,w37,w38,w39,0,0,0,0,0,w40,w41,w42)) (
     cnd (sq' w2 [100,114,111,112]) (
      bnd (impl_lineReader_number w3) fun (w44,w45) =>
      some (2,0,0,false,(TMat.mk 0 0 0 0 0 0),false,0,(TPaint.mk 0 (TColor.mk 0 0 0 0) (TColor.mk 0 0 0 0) (TPoint.mk 0 0) (TPoint.mk 0 0)),0,0,w44,0,0,0,0,w45,[],[])) (
      cnd (sq' w2 [112,108,97,99,101]) (
       bnd (impl_lineReader_number w3) fun (w47,w48) =>
       bnd (impl_lineReader_number w48) fun (w50,w51) =>
       bnd (impl_lineReader_number w51) fun (w53,w54) =>
       some (3,0,0,false,(TMat.mk 0 0 0 0 0 0),false,0,(TPaint.mk 0 (TColor.mk 0 0 0 0) (TColor.mk 0 0 0 0) (TPoint.mk 0 0) (TPoint.mk 0 0)),0,0,w47,w50,w53,0,0,w54,[],[])) (
       cnd (sq' w2 [112,97,105,110,116]) (
        some (5,0,0,false,(TMat.mk 0 0 0 0 0 0),false,0,(TPaint.mk 0 (TColor.mk 0 0 0 0) (TColor.mk 0 0 0 0) (TPoint.mk 0 0) (TPoint.mk 0 0)),0,0,0,0,0,0,0,w3,[],[])) (
        cnd (sq' w2 [104,105,116]) (
         cnd (sq' w2 [115,105,122,101]) (
          bnd (impl_lineReader_number w3) fun (w56,w57) =>
          bnd (impl_lineReader_number w57) fun (w59,w60) =>
          some (7,0,0,false,(TMat.mk 0 0 0 0 0 0),false,0,(TPaint.mk 0 (TColor.mk 0 0 0 0) (TColor.mk 0 0 0 0) (TPoint.mk 0 0) (TPoint.mk 0 0)),0,0,0,0,0,w56,w59,w60,[],[])) (
          bnd (impl_lineReader_number w3) fun (w62,w63) =>
          bnd (impl_lineReader_number w63) fun (w65,w66) =>
          some (6,0,0,false,(TMat.mk 0 0 0 0 0 0),false,0,(TPaint.mk 0 (TColor.mk 0 0 0 0) (TColor.mk 0 0 0 0) (TPoint.mk 0 0) (TPoint.mk 0 0)),0,0,0,0,0,w62,w65,w66,[],[]))) (
         cnd (sq' w2 [115,105,122,101]) (
          bnd (impl_lineReader_number w3) fun (w68,w69) =>
          bnd (impl_lineReader_number w69) fun (w71,w72) =>
          some (7,0,0,false,(TMat.mk 0 0 0 0 0 0),false,0,(TPaint.mk 0 (TColor.mk 0 0 0 0) (TColor.mk 0 0 0 0) (TPoint.mk 0 0) (TPoint.mk 0 0)),0,0,0,0,0,w68,w71,w72,[],[])) (
          some (0,0,0,false,(TMat.mk 0 0 0 0 0 0),false,0,(TPaint.mk 0 (TColor.mk 0 0 0 0) (TColor.mk 0 0 0 0) (TPoint.mk 0 0) (TPoint.mk 0 0)),0,0,0,0,0,0,0,(TLineReader.mk w3.parts true),[],[])))))))))
noncomputable def impl_lineReader_deed_e (q : (TLineReader)) : List AV × List Ob := ([AV.optr 0 0 2],[Ob.box [AV.fsl (List.map eS q.parts),AV.bool q.bad]])
noncomputable def impl_lineReader_deed_v (q : (TLineReader)) (r : (Int) × (Int) × (Int) × (Bool) × (TMat) × (Bool) × (Int) × (TPaint) × (Int) × (Int) × (Int) × (Int) × (Int) × (Int) × (Int) × (TLineReader) × (List Int) × (List TPoint)) : AV × List Ob := (AV.agg [AV.int .i64 r.1,AV.int .i64 r.2.1,AV.int .i64 r.2.2.1,AV.bool r.2.2.2.1,AV.int .i64 r.2.2.2.2.1.a,AV.int .i64 r.2.2.2.2.1.b,AV.int .i64 r.2.2.2.2.1.c,AV.int .i64 r.2.2.2.2.1.d,AV.int .i64 r.2.2.2.2.1.e,AV.int .i64 r.2.2.2.2.1.f,AV.osl 1 0 (List.length r.2.2.2.2.2.2.2.2.2.2.2.2.2.2.2.2.1) (List.length r.2.2.2.2.2.2.2.2.2.2.2.2.2.2.2.2.1),AV.osl 2 0 (List.length r.2.2.2.2.2.2.2.2.2.2.2.2.2.2.2.2.2) (List.length r.2.2.2.2.2.2.2.2.2.2.2.2.2.2.2.2.2),AV.bool r.2.2.2.2.2.1,AV.int .i64 r.2.2.2.2.2.2.1,AV.nilsl,AV.int .i64 r.2.2.2.2.2.2.2.1.kind,AV.int .i64 r.2.2.2.2.2.2.2.1.first.r,AV.int .i64 r.2.2.2.2.2.2.2.1.first.g,AV.int .i64 r.2.2.2.2.2.2.2.1.first.b,AV.int .i64 r.2.2.2.2.2.2.2.1.first.a,AV.int .i64 r.2.2.2.2.2.2.2.1.last.r,AV.int .i64 r.2.2.2.2.2.2.2.1.last.g,AV.int .i64 r.2.2.2.2.2.2.2.1.last.b,AV.int .i64 r.2.2.2.2.2.2.2.1.last.a,AV.int .i64 r.2.2.2.2.2.2.2.1.from_.x,AV.int .i64 r.2.2.2.2.2.2.2.1.from_.y,AV.int .i64 r.2.2.2.2.2.2.2.1.to.x,AV.int .i64 r.2.2.2.2.2.2.2.1.to.y,AV.int .i64 r.2.2.2.2.2.2.2.2.1,AV.int .i64 r.2.2.2.2.2.2.2.2.2.1,AV.nilsl,AV.nilsl,AV.int .i64 r.2.2.2.2.2.2.2.2.2.2.1,AV.int .i64 r.2.2.2.2.2.2.2.2.2.2.2.1,AV.int .i64 r.2.2.2.2.2.2.2.2.2.2.2.2.1,AV.int .i64 r.2.2.2.2.2.2.2.2.2.2.2.2.2.1,AV.int .i64 r.2.2.2.2.2.2.2.2.2.2.2.2.2.2.1],[Ob.box [AV.fsl (List.map eS r.2.2.2.2.2.2.2.2.2.2.2.2.2.2.2.1.parts),AV.bool r.2.2.2.2.2.2.2.2.2.2.2.2.2.2.2.1.bad],Ob.arr 1 (List.map (AV.int .i64) r.2.2.2.2.2.2.2.2.2.2.2.2.2.2.2.2.1) false,Ob.arr 2 (List.map ePoint r.2.2.2.2.2.2.2.2.2.2.2.2.2.2.2.2.2) false])
noncomputable def impl_lineReader_deed_x : List AV → List Ob → Option (AV × List Ob) := xOf impl_lineReader_deed_e (fun q => impl_lineReader_deed q) impl_lineReader_deed_v
theorem impl_lineReader_deed_i : ∀ a b,impl_lineReader_deed_e a = impl_lineReader_deed_e b → a = b := by rintro ⟨x0,x1⟩ ⟨y0,y1⟩ h; simp [impl_lineReader_deed_e] at h; simp [h]
@[simp] theorem impl_lineReader_deed_k (z0 : List (List UInt8)) (z1 : Bool) : impl_lineReader_deed_x [AV.optr 0 0 2] [Ob.box [AV.fsl (List.map eS z0),AV.bool z1]] = mapR (impl_lineReader_deed ⟨z0,z1⟩) (fun r => (AV.agg [AV.int .i64 r.1,AV.int .i64 r.2.1,AV.int .i64 r.2.2.1,AV.bool r.2.2.2.1,AV.int .i64 r.2.2.2.2.1.a,AV.int .i64 r.2.2.2.2.1.b,AV.int .i64 r.2.2.2.2.1.c,AV.int .i64 r.2.2.2.2.1.d,AV.int .i64 r.2.2.2.2.1.e,AV.int .i64 r.2.2.2.2.1.f,AV.osl 1 0 (List.length r.2.2.2.2.2.2.2.2.2.2.2.2.2.2.2.2.1) (List.length r.2.2.2.2.2.2.2.2.2.2.2.2.2.2.2.2.1),AV.osl 2 0 (List.length r.2.2.2.2.2.2.2.2.2.2.2.2.2.2.2.2.2) (List.length r.2.2.2.2.2.2.2.2.2.2.2.2.2.2.2.2.2),AV.bool r.2.2.2.2.2.1,AV.int .i64 r.2.2.2.2.2.2.1,AV.nilsl,AV.int .i64 r.2.2.2.2.2.2.2.1.kind,AV.int .i64 r.2.2.2.2.2.2.2.1.first.r,AV.int .i64 r.2.2.2.2.2.2.2.1.first.g,AV.int .i64 r.2.2.2.2.2.2.2.1.first.b,AV.int .i64 r.2.2.2.2.2.2.2.1.first.a,AV.int .i64 r.2.2.2.2.2.2.2.1.last.r,AV.int .i64 r.2.2.2.2.2.2.2.1.last.g,AV.int .i64 r.2.2.2.2.2.2.2.1.last.b,AV.int .i64 r.2.2.2.2.2.2.2.1.last.a,AV.int .i64 r.2.2.2.2.2.2.2.1.from_.x,AV.int .i64 r.2.2.2.2.2.2.2.1.from_.y,AV.int .i64 r.2.2.2.2.2.2.2.1.to.x,AV.int .i64 r.2.2.2.2.2.2.2.1.to.y,AV.int .i64 r.2.2.2.2.2.2.2.2.1,AV.int .i64 r.2.2.2.2.2.2.2.2.2.1,AV.nilsl,AV.nilsl,AV.int .i64 r.2.2.2.2.2.2.2.2.2.2.1,AV.int .i64 r.2.2.2.2.2.2.2.2.2.2.2.1,AV.int .i64 r.2.2.2.2.2.2.2.2.2.2.2.2.1,AV.int .i64 r.2.2.2.2.2.2.2.2.2.2.2.2.2.1,AV.int .i64 r.2.2.2.2.2.2.2.2.2.2.2.2.2.2.1],[Ob.box [AV.fsl (List.map eS r.2.2.2.2.2.2.2.2.2.2.2.2.2.2.2.1.parts),AV.bool r.2.2.2.2.2.2.2.2.2.2.2.2.2.2.2.1.bad],Ob.arr 1 (List.map (AV.int .i64) r.2.2.2.2.2.2.2.2.2.2.2.2.2.2.2.2.1) false,Ob.arr 2 (List.map ePoint r.2.2.2.2.2.2.2.2.2.2.2.2.2.2.2.2.2) false])) :=
  xOf_eq impl_lineReader_deed_i ⟨z0,z1⟩
noncomputable def impl_readDeed (a0 : List (List UInt8)) : Option ((Int) × (Int) × (Int) × (Bool) × (TMat) × (Bool) × (Int) × (TPaint) × (Int) × (Int) × (Int) × (Int) × (Int) × (Int) × (Int) × (Bool) × (List Int) × (List TPoint)) :=
  bnd (impl_lineReader_deed (TLineReader.mk a0 false)) fun (w2,w3,w4,w5,w6,w7,w8,w9,w10,w11,w12,w13,w14,w15,w16,w17,w18,w19) =>
  cnd w17.bad (
   some (w2,w3,w4,w5,w6,w7,w8,w9,w10,w11,w12,w13,w14,w15,w16,false,w18,w19)) (
   some (w2,w3,w4,w5,w6,w7,w8,w9,w10,w11,w12,w13,w14,w15,w16,(ieq (List.length w17.parts : Int) 0),w18,w19))
noncomputable def impl_readDeed_e (q : (List (List UInt8))) : List AV × List Ob := ([AV.fsl (List.map eS q)],[])
noncomputable def impl_readDeed_v (q : (List (List UInt8))) (r : (Int) × (Int) × (Int) × (Bool) × (TMat) × (Bool) × (Int) × (TPaint) × (Int) × (Int) × (Int) × (Int) × (Int) × (Int) × (Int) × (Bool) × (List Int) × (List TPoint)) : AV × List Ob := (AV.tup [AV.agg [AV.int .i64 r.1,AV.int .i64 r.2.1,AV.int .i64 r.2.2.1,AV.bool r.2.2.2.1,AV.int .i64 r.2.2.2.2.1.a,AV.int .i64 r.2.2.2.2.1.b,AV.int .i64 r.2.2.2.2.1.c,AV.int .i64 r.2.2.2.2.1.d,AV.int .i64 r.2.2.2.2.1.e,AV.int .i64 r.2.2.2.2.1.f,AV.osl 0 0 (List.length r.2.2.2.2.2.2.2.2.2.2.2.2.2.2.2.2.1) (List.length r.2.2.2.2.2.2.2.2.2.2.2.2.2.2.2.2.1),AV.osl 1 0 (List.length r.2.2.2.2.2.2.2.2.2.2.2.2.2.2.2.2.2) (List.length r.2.2.2.2.2.2.2.2.2.2.2.2.2.2.2.2.2),AV.bool r.2.2.2.2.2.1,AV.int .i64 r.2.2.2.2.2.2.1,AV.nilsl,AV.int .i64 r.2.2.2.2.2.2.2.1.kind,AV.int .i64 r.2.2.2.2.2.2.2.1.first.r,AV.int .i64 r.2.2.2.2.2.2.2.1.first.g,AV.int .i64 r.2.2.2.2.2.2.2.1.first.b,AV.int .i64 r.2.2.2.2.2.2.2.1.first.a,AV.int .i64 r.2.2.2.2.2.2.2.1.last.r,AV.int .i64 r.2.2.2.2.2.2.2.1.last.g,AV.int .i64 r.2.2.2.2.2.2.2.1.last.b,AV.int .i64 r.2.2.2.2.2.2.2.1.last.a,AV.int .i64 r.2.2.2.2.2.2.2.1.from_.x,AV.int .i64 r.2.2.2.2.2.2.2.1.from_.y,AV.int .i64 r.2.2.2.2.2.2.2.1.to.x,AV.int .i64 r.2.2.2.2.2.2.2.1.to.y,AV.int .i64 r.2.2.2.2.2.2.2.2.1,AV.int .i64 r.2.2.2.2.2.2.2.2.2.1,AV.nilsl,AV.nilsl,AV.int .i64 r.2.2.2.2.2.2.2.2.2.2.1,AV.int .i64 r.2.2.2.2.2.2.2.2.2.2.2.1,AV.int .i64 r.2.2.2.2.2.2.2.2.2.2.2.2.1,AV.int .i64 r.2.2.2.2.2.2.2.2.2.2.2.2.2.1,AV.int .i64 r.2.2.2.2.2.2.2.2.2.2.2.2.2.2.1],AV.bool r.2.2.2.2.2.2.2.2.2.2.2.2.2.2.2.1],[Ob.arr 1 (List.map (AV.int .i64) r.2.2.2.2.2.2.2.2.2.2.2.2.2.2.2.2.1) false,Ob.arr 2 (List.map ePoint r.2.2.2.2.2.2.2.2.2.2.2.2.2.2.2.2.2) false])
noncomputable def impl_readDeed_x : List AV → List Ob → Option (AV × List Ob) := xOf impl_readDeed_e (fun q => impl_readDeed q) impl_readDeed_v
theorem impl_readDeed_i : ∀ a b,impl_readDeed_e a = impl_readDeed_e b → a = b := by rintro x0 y0 h; simp [impl_readDeed_e] at h; simp [h]
@[simp] theorem impl_readDeed_k (z0 : List (List UInt8)) : impl_readDeed_x [AV.fsl (List.map eS z0)] [] = mapR (impl_readDeed z0) (fun r => (AV.tup [AV.agg [AV.int .i64 r.1,AV.int .i64 r.2.1,AV.int .i64 r.2.2.1,AV.bool r.2.2.2.1,AV.int .i64 r.2.2.2.2.1.a,AV.int .i64 r.2.2.2.2.1.b,AV.int .i64 r.2.2.2.2.1.c,AV.int .i64 r.2.2.2.2.1.d,AV.int .i64 r.2.2.2.2.1.e,AV.int .i64 r.2.2.2.2.1.f,AV.osl 0 0 (List.length r.2.2.2.2.2.2.2.2.2.2.2.2.2.2.2.2.1) (List.length r.2.2.2.2.2.2.2.2.2.2.2.2.2.2.2.2.1),AV.osl 1 0 (List.length r.2.2.2.2.2.2.2.2.2.2.2.2.2.2.2.2.2) (List.length r.2.2.2.2.2.2.2.2.2.2.2.2.2.2.2.2.2),AV.bool r.2.2.2.2.2.1,AV.int .i64 r.2.2.2.2.2.2.1,AV.nilsl,AV.int .i64 r.2.2.2.2.2.2.2.1.kind,AV.int .i64 r.2.2.2.2.2.2.2.1.first.r,AV.int .i64 r.2.2.2.2.2.2.2.1.first.g,AV.int .i64 r.2.2.2.2.2.2.2.1.first.b,AV.int .i64 r.2.2.2.2.2.2.2.1.first.a,AV.int .i64 r.2.2.2.2.2.2.2.1.last.r,AV.int .i64 r.2.2.2.2.2.2.2.1.last.g,AV.int .i64 r.2.2.2.2.2.2.2.1.last.b,AV.int .i64 r.2.2.2.2.2.2.2.1.last.a,AV.int .i64 r.2.2.2.2.2.2.2.1.from_.x,AV.int .i64 r.2.2.2.2.2.2.2.1.from_.y,AV.int .i64 r.2.2.2.2.2.2.2.1.to.x,AV.int .i64 r.2.2.2.2.2.2.2.1.to.y,AV.int .i64 r.2.2.2.2.2.2.2.2.1,AV.int .i64 r.2.2.2.2.2.2.2.2.2.1,AV.nilsl,AV.nilsl,AV.int .i64 r.2.2.2.2.2.2.2.2.2.2.1,AV.int .i64 r.2.2.2.2.2.2.2.2.2.2.2.1,AV.int .i64 r.2.2.2.2.2.2.2.2.2.2.2.2.1,AV.int .i64 r.2.2.2.2.2.2.2.2.2.2.2.2.2.1,AV.int .i64 r.2.2.2.2.2.2.2.2.2.2.2.2.2.2.1],AV.bool r.2.2.2.2.2.2.2.2.2.2.2.2.2.2.2.1],[Ob.arr 1 (List.map (AV.int .i64) r.2.2.2.2.2.2.2.2.2.2.2.2.2.2.2.2.1) false,Ob.arr 2 (List.map ePoint r.2.2.2.2.2.2.2.2.2.2.2.2.2.2.2.2.2) false])) :=
  xOf_eq impl_readDeed_i z0
noncomputable def impl_isSide (a0 : Int) : Option ((Bool)) :=
  bnd (impl_inRange a0 1 12) fun v1 =>
  some v1
noncomputable def impl_isSide_e (q : (Int)) : List AV × List Ob := ([AV.int .i64 q],[])
noncomputable def impl_isSide_v (q : (Int)) (r : (Bool)) : AV × List Ob := (AV.bool r,[])
noncomputable def impl_isSide_x : List AV → List Ob → Option (AV × List Ob) := xOf impl_isSide_e (fun q => impl_isSide q) impl_isSide_v
theorem impl_isSide_i : ∀ a b,impl_isSide_e a = impl_isSide_e b → a = b := by rintro x0 y0 h; simp [impl_isSide_e] at h; simp [h]
@[simp] theorem impl_isSide_k (z0 : Int) : impl_isSide_x [AV.int .i64 z0] [] = mapR (impl_isSide z0) (fun r => (AV.bool r,[])) :=
  xOf_eq impl_isSide_i z0
noncomputable def impl_ReadScript_l0 (v1 : List (List UInt8)) : ((Int) × (Int) × (Int) × (List TDeed)) → Option (((Int) × (Int) × (Int) × (List TDeed)) ⊕ (((List TDeed) × (Int) × (Int)) ⊕ ((Int)))) := fun (x48,x49,x50,x97) =>
  cnd (ile (List.length v1 : Int) x48) (
   some (.inr (.inl (x97,x49,x50)))) (
   bnd (idx v1 x48) fun v98 =>
   bnd (impl_PartsOf v98) fun (w100,w101) =>
   cnd w101 (
    cnd (ieq (List.length w100 : Int) 0) (
     some (.inl ((IntKind.i64.wrap (x48 + 1)),x49,x50,x97))) (
     bnd (idx w100 0) fun v102 =>
     bnd (idx v102 0) fun b103 =>
     cnd (ieq (b103.toNat : Int) 35) (
      some (.inl ((IntKind.i64.wrap (x48 + 1)),x49,x50,x97))) (
      bnd (impl_readDeed w100) fun (w105,w106,w107,w108,w109,w110,w111,w112,w113,w114,w115,w116,w117,w118,w119,w120,w121,w122) =>
      cnd w120 (
       cnd (ile 40 (List.length x97 : Int)) (
        some (.inr (.inr (IntKind.i64.wrap (x48 + 1))))) (
        cnd (ile x49 0) (
         cnd (ieq w105 7) (
          bnd (impl_isSide w118) fun v123 =>
          cnd v123 (
           bnd (impl_isSide w119) fun v124 =>
           cnd v124 (
            some (.inl ((IntKind.i64.wrap (x48 + 1)),w118,w119,x97))) (
            some (.inr (.inr (IntKind.i64.wrap (x48 + 1)))))) (
           some (.inr (.inr (IntKind.i64.wrap (x48 + 1)))))) (
          some (.inr (.inr (IntKind.i64.wrap (x48 + 1)))))) (
         chkP ((List.length x97 + 1) * 376 ≤ 17592186044416) (
         some (.inl ((IntKind.i64.wrap (x48 + 1)),x49,x50,(x97 ++ [(TDeed.mk w105 (TNode.mk w106 w107 w108 w109 (TPath.mk w121 w122) w110 w111 [] w112 w113 w114 (TPath.mk [] [])) w115 w116 w117 w118 w119)]))))))) (
       some (.inr (.inr (IntKind.i64.wrap (x48 + 1)))))))) (
    bnd (impl_readDeed w100) fun (w126,w127,w128,w129,w130,w131,w132,w133,w134,w135,w136,w137,w138,w139,w140,w141,w142,w143) =>
    some (.inr (.inr (IntKind.i64.wrap (x48 + 1))))))
noncomputable def impl_ReadScript_l0_S (v1 : List (List UInt8)) : ((Int) × (Int) × (Int) × (List TDeed)) → St := fun (x48,x49,x50,x97) => ⟨[(7,AV.int .i64 x49),(8,AV.int .i64 x50),(9,AV.osl 0 0 (List.length x97) (List.length x97)),(26,AV.fsl (List.map eS v1)),(27,AV.int .i64 (List.length v1 : Int)),(28,AV.int .i64 x48)],[(0,Ob.nar 37 (List.map eDeed x97) [0,0,0,0,0,0,0,0,0,0,1,2,0,0,1,0,0,0,0,0,0,0,0,0,0,0,0,0,0,0,1,2,0,0,0,0,0])],1⟩
noncomputable def impl_ReadScript_l0_X (v1 : List (List UInt8)) : (((List TDeed) × (Int) × (Int)) ⊕ ((Int))) → Ex × St := fun q => match q with
  | .inl (y144,y145,y146) => ((.exit 0),⟨[(7,AV.int .i64 y145),(8,AV.int .i64 y146),(9,AV.osl 0 0 (List.length y144) (List.length y144))],[(0,Ob.nar 37 (List.map eDeed y144) [0,0,0,0,0,0,0,0,0,0,1,2,0,0,1,0,0,0,0,0,0,0,0,0,0,0,0,0,0,0,1,2,0,0,0,0,0])],1⟩)
  | .inr y147 => (.ret,⟨[(2,AV.int .i64 0),(3,AV.int .i64 0),(4,AV.nilsl),(5,AV.int .i64 y147)],[],0⟩)
noncomputable def impl_ReadScript (a0 : List UInt8) : Option ((Int) × (Int) × (Int) × (List TDeed)) :=
  bnd (impl_scriptLines a0) fun v1 =>
  cnd (ile (List.length a0 : Int) 4000) (
   cnd (ile (List.length v1 : Int) 60) (
    bnd (loopI (impl_ReadScript_l0 v1) (0,0,0,[])) fun q => match q with
    | .inl (y144,y145,y146) =>
     cnd (ieq y145 0) (
      some (0,0,1,[])) (
      some (y145,y146,0,y144))
    | .inr y147 =>
     some (0,0,y147,[])) (
    some (0,0,(-1),[]))) (
   some (0,0,(-1),[]))
noncomputable def impl_ReadScript_e (q : (List UInt8)) : List AV × List Ob := ([AV.str (bs q)],[])
noncomputable def impl_ReadScript_v (q : (List UInt8)) (r : (Int) × (Int) × (Int) × (List TDeed)) : AV × List Ob := (AV.tup [AV.int .i64 r.1,AV.int .i64 r.2.1,AV.osl 0 0 (List.length r.2.2.2) (List.length r.2.2.2),AV.int .i64 r.2.2.1],[Ob.nar 37 (List.map eDeed r.2.2.2) [0,0,0,0,0,0,0,0,0,0,1,2,0,0,1,0,0,0,0,0,0,0,0,0,0,0,0,0,0,0,1,2,0,0,0,0,0]])
noncomputable def impl_ReadScript_x : List AV → List Ob → Option (AV × List Ob) := xOf impl_ReadScript_e (fun q => impl_ReadScript q) impl_ReadScript_v
theorem impl_ReadScript_i : ∀ a b,impl_ReadScript_e a = impl_ReadScript_e b → a = b := by rintro x0 y0 h; simp [impl_ReadScript_e] at h; simp [h]
@[simp] theorem impl_ReadScript_k (z0 : List UInt8) : impl_ReadScript_x [AV.str (bs z0)] [] = mapR (impl_ReadScript z0) (fun r => (AV.tup [AV.int .i64 r.1,AV.int .i64 r.2.1,AV.osl 0 0 (List.length r.2.2.2) (List.length r.2.2.2),AV.int .i64 r.2.2.1],[Ob.nar 37 (List.map eDeed r.2.2.2) [0,0,0,0,0,0,0,0,0,0,1,2,0,0,1,0,0,0,0,0,0,0,0,0,0,0,0,0,0,0,1,2,0,0,0,0,0]])) :=
  xOf_eq impl_ReadScript_i z0
noncomputable def laws_eqMat (a0 : TMat) (a1 : TMat) : Option ((Bool)) :=
  cnd (ieq a0.a a1.a) (
   cnd (ieq a0.b a1.b) (
    cnd (ieq a0.c a1.c) (
     cnd (ieq a0.d a1.d) (
      cnd (ieq a0.e a1.e) (
       cnd (ieq a0.f a1.f) (
        some true) (
        some false)) (
       some false)) (
      some false)) (
     some false)) (
    some false)) (
   some false)
noncomputable def laws_eqMat_e (q : (TMat) × (TMat)) : List AV × List Ob := ([AV.agg [AV.int .i64 q.1.a,AV.int .i64 q.1.b,AV.int .i64 q.1.c,AV.int .i64 q.1.d,AV.int .i64 q.1.e,AV.int .i64 q.1.f],AV.agg [AV.int .i64 q.2.a,AV.int .i64 q.2.b,AV.int .i64 q.2.c,AV.int .i64 q.2.d,AV.int .i64 q.2.e,AV.int .i64 q.2.f]],[])
noncomputable def laws_eqMat_v (q : (TMat) × (TMat)) (r : (Bool)) : AV × List Ob := (AV.bool r,[])
noncomputable def laws_eqMat_x : List AV → List Ob → Option (AV × List Ob) := xOf laws_eqMat_e (fun q => laws_eqMat q.1 q.2) laws_eqMat_v
theorem laws_eqMat_i : ∀ a b,laws_eqMat_e a = laws_eqMat_e b → a = b := by rintro ⟨⟨x0,x1,x2,x3,x4,x5⟩,⟨x6,x7,x8,x9,x10,x11⟩⟩ ⟨⟨y0,y1,y2,y3,y4,y5⟩,⟨y6,y7,y8,y9,y10,y11⟩⟩ h; simp [laws_eqMat_e] at h; simp [h]
@[simp] theorem laws_eqMat_k (z0 : Int) (z1 : Int) (z2 : Int) (z3 : Int) (z4 : Int) (z5 : Int) (z6 : Int) (z7 : Int) (z8 : Int) (z9 : Int) (z10 : Int) (z11 : Int) : laws_eqMat_x [AV.agg [AV.int .i64 z0,AV.int .i64 z1,AV.int .i64 z2,AV.int .i64 z3,AV.int .i64 z4,AV.int .i64 z5],AV.agg [AV.int .i64 z6,AV.int .i64 z7,AV.int .i64 z8,AV.int .i64 z9,AV.int .i64 z10,AV.int .i64 z11]] [] = mapR (laws_eqMat ⟨z0,z1,z2,z3,z4,z5⟩ ⟨z6,z7,z8,z9,z10,z11⟩) (fun r => (AV.bool r,[])) :=
  xOf_eq laws_eqMat_i (⟨z0,z1,z2,z3,z4,z5⟩,⟨z6,z7,z8,z9,z10,z11⟩)
noncomputable def laws_eqIntS_l0 (a0 : List Int) (a1 : List Int) : ((Int)) → Option (((Int)) ⊕ ((Unit) ⊕ (Unit))) := fun x3 =>
  cnd (ile (List.length a0 : Int) x3) (
   some (.inr (.inl ()))) (
   bnd (idx a0 x3) fun v4 =>
   bnd (idx a1 x3) fun v5 =>
   cnd (ieq v4 v5) (
    some (.inl (IntKind.i64.wrap (x3 + 1)))) (
    some (.inr (.inr ()))))
noncomputable def laws_eqIntS_l0_S (a0 : List Int) (a1 : List Int) : ((Int)) → St := fun x3 => ⟨[(0,AV.fsl (List.map (AV.int .i64) a0)),(1,AV.fsl (List.map (AV.int .i64) a1)),(5,AV.int .i64 x3)],[],0⟩
noncomputable def laws_eqIntS_l0_X (a0 : List Int) (a1 : List Int) : ((Unit) ⊕ (Unit)) → Ex × St := fun q => match q with
  | .inl _ => ((.exit 0),⟨[],[],0⟩)
  | .inr _ => (.ret,⟨[(4,AV.bool false)],[],0⟩)
noncomputable def laws_eqIntS (a0 : List Int) (a1 : List Int) : Option ((Bool)) :=
  cnd (ieq (List.length a0 : Int) (List.length a1 : Int)) (
   bnd (loopI (laws_eqIntS_l0 a0 a1) 0) fun q => match q with
   | .inl () =>
    some true
   | .inr () =>
    some false) (
   some false)
noncomputable def laws_eqIntS_e (q : (List Int) × (List Int)) : List AV × List Ob := ([AV.fsl (List.map (AV.int .i64) q.1),AV.fsl (List.map (AV.int .i64) q.2)],[])
noncomputable def laws_eqIntS_v (q : (List Int) × (List Int)) (r : (Bool)) : AV × List Ob := (AV.bool r,[])
noncomputable def laws_eqIntS_x : List AV → List Ob → Option (AV × List Ob) := xOf laws_eqIntS_e (fun q => laws_eqIntS q.1 q.2) laws_eqIntS_v
theorem laws_eqIntS_i : ∀ a b,laws_eqIntS_e a = laws_eqIntS_e b → a = b := by rintro ⟨x0,x1⟩ ⟨y0,y1⟩ h; simp [laws_eqIntS_e] at h; simp [h]
@[simp] theorem laws_eqIntS_k (z0 : List Int) (z1 : List Int) : laws_eqIntS_x [AV.fsl (List.map (AV.int .i64) z0),AV.fsl (List.map (AV.int .i64) z1)] [] = mapR (laws_eqIntS z0 z1) (fun r => (AV.bool r,[])) :=
  xOf_eq laws_eqIntS_i (z0,z1)
noncomputable def laws_eqPoint (a0 : TPoint) (a1 : TPoint) : Option ((Bool)) :=
  cnd (ieq a0.x a1.x) (
   cnd (ieq a0.y a1.y) (
    some true) (
    some false)) (
   some false)
noncomputable def laws_eqPoint_e (q : (TPoint) × (TPoint)) : List AV × List Ob := ([AV.agg [AV.int .i64 q.1.x,AV.int .i64 q.1.y],AV.agg [AV.int .i64 q.2.x,AV.int .i64 q.2.y]],[])
noncomputable def laws_eqPoint_v (q : (TPoint) × (TPoint)) (r : (Bool)) : AV × List Ob := (AV.bool r,[])
noncomputable def laws_eqPoint_x : List AV → List Ob → Option (AV × List Ob) := xOf laws_eqPoint_e (fun q => laws_eqPoint q.1 q.2) laws_eqPoint_v
theorem laws_eqPoint_i : ∀ a b,laws_eqPoint_e a = laws_eqPoint_e b → a = b := by rintro ⟨⟨x0,x1⟩,⟨x2,x3⟩⟩ ⟨⟨y0,y1⟩,⟨y2,y3⟩⟩ h; simp [laws_eqPoint_e] at h; simp [h]
@[simp] theorem laws_eqPoint_k (z0 : Int) (z1 : Int) (z2 : Int) (z3 : Int) : laws_eqPoint_x [AV.agg [AV.int .i64 z0,AV.int .i64 z1],AV.agg [AV.int .i64 z2,AV.int .i64 z3]] [] = mapR (laws_eqPoint ⟨z0,z1⟩ ⟨z2,z3⟩) (fun r => (AV.bool r,[])) :=
  xOf_eq laws_eqPoint_i (⟨z0,z1⟩,⟨z2,z3⟩)
noncomputable def laws_eqPointS_l0 (a0 : List TPoint) (a1 : List TPoint) : ((Int)) → Option (((Int)) ⊕ ((Unit) ⊕ (Unit))) := fun x4 =>
  cnd (ile (List.length a0 : Int) x4) (
   some (.inr (.inl ()))) (
   bnd (idx a0 x4) fun v5 =>
   bnd (idx a1 x4) fun v6 =>
   bnd (laws_eqPoint v5 v6) fun v7 =>
   cnd v7 (
    some (.inl (IntKind.i64.wrap (x4 + 1)))) (
    some (.inr (.inr ()))))
noncomputable def laws_eqPointS_l0_S (a0 : List TPoint) (a1 : List TPoint) : ((Int)) → St := fun x4 => ⟨[(0,AV.fsl (List.map ePoint a0)),(1,AV.fsl (List.map ePoint a1)),(5,AV.int .i64 x4)],[],0⟩
noncomputable def laws_eqPointS_l0_X (a0 : List TPoint) (a1 : List TPoint) : ((Unit) ⊕ (Unit)) → Ex × St := fun q => match q with
  | .inl _ => ((.exit 0),⟨[],[],0⟩)
  | .inr _ => (.ret,⟨[(4,AV.bool false)],[],0⟩)
noncomputable def laws_eqPointS (a0 : List TPoint) (a1 : List TPoint) : Option ((Bool)) :=
  cnd (ieq (List.length a0 : Int) (List.length a1 : Int)) (
   bnd (loopI (laws_eqPointS_l0 a0 a1) 0) fun q => match q with
   | .inl () =>
    some true
   | .inr () =>
    some false) (
   some false)
noncomputable def laws_eqPointS_e (q : (List TPoint) × (List TPoint)) : List AV × List Ob := ([AV.fsl (List.map ePoint q.1),AV.fsl (List.map ePoint q.2)],[])
noncomputable def laws_eqPointS_v (q : (List TPoint) × (List TPoint)) (r : (Bool)) : AV × List Ob := (AV.bool r,[])
noncomputable def laws_eqPointS_x : List AV → List Ob → Option (AV × List Ob) := xOf laws_eqPointS_e (fun q => laws_eqPointS q.1 q.2) laws_eqPointS_v
theorem laws_eqPointS_i : ∀ a b,laws_eqPointS_e a = laws_eqPointS_e b → a = b := by rintro ⟨x0,x1⟩ ⟨y0,y1⟩ h; simp [laws_eqPointS_e] at h; simp [h]
@[simp] theorem laws_eqPointS_k (z0 : List TPoint) (z1 : List TPoint) : laws_eqPointS_x [AV.fsl (List.map ePoint z0),AV.fsl (List.map ePoint z1)] [] = mapR (laws_eqPointS z0 z1) (fun r => (AV.bool r,[])) :=
  xOf_eq laws_eqPointS_i (z0,z1)
noncomputable def laws_eqPath (a0 : TPath) (a1 : TPath) : Option ((Bool)) :=
  bnd (laws_eqIntS a0.verbs a1.verbs) fun v1 =>
  cnd v1 (
   bnd (laws_eqPointS a0.points a1.points) fun v2 =>
   cnd v2 (
    some true) (
    some false)) (
   some false)
noncomputable def laws_eqPath_e (q : (TPath) × (TPath)) : List AV × List Ob := ([AV.agg [AV.fsl (List.map (AV.int .i64) q.1.verbs),AV.fsl (List.map ePoint q.1.points)],AV.agg [AV.fsl (List.map (AV.int .i64) q.2.verbs),AV.fsl (List.map ePoint q.2.points)]],[])
noncomputable def laws_eqPath_v (q : (TPath) × (TPath)) (r : (Bool)) : AV × List Ob := (AV.bool r,[])
noncomputable def laws_eqPath_x : List AV → List Ob → Option (AV × List Ob) := xOf laws_eqPath_e (fun q => laws_eqPath q.1 q.2) laws_eqPath_v
theorem laws_eqPath_i : ∀ a b,laws_eqPath_e a = laws_eqPath_e b → a = b := by rintro ⟨⟨x0,x1⟩,⟨x2,x3⟩⟩ ⟨⟨y0,y1⟩,⟨y2,y3⟩⟩ h; simp [laws_eqPath_e] at h; simp [h]
@[simp] theorem laws_eqPath_k (z0 : List Int) (z1 : List TPoint) (z2 : List Int) (z3 : List TPoint) : laws_eqPath_x [AV.agg [AV.fsl (List.map (AV.int .i64) z0),AV.fsl (List.map ePoint z1)],AV.agg [AV.fsl (List.map (AV.int .i64) z2),AV.fsl (List.map ePoint z3)]] [] = mapR (laws_eqPath ⟨z0,z1⟩ ⟨z2,z3⟩) (fun r => (AV.bool r,[])) :=
  xOf_eq laws_eqPath_i (⟨z0,z1⟩,⟨z2,z3⟩)
noncomputable def laws_eqColor (a0 : TColor) (a1 : TColor) : Option ((Bool)) :=
  cnd (ieq a0.r a1.r) (
   cnd (ieq a0.g a1.g) (
    cnd (ieq a0.b a1.b) (
     cnd (ieq a0.a a1.a) (
      some true) (
      some false)) (
     some false)) (
    some false)) (
   some false)
noncomputable def laws_eqColor_e (q : (TColor) × (TColor)) : List AV × List Ob := ([AV.agg [AV.int .i64 q.1.r,AV.int .i64 q.1.g,AV.int .i64 q.1.b,AV.int .i64 q.1.a],AV.agg [AV.int .i64 q.2.r,AV.int .i64 q.2.g,AV.int .i64 q.2.b,AV.int .i64 q.2.a]],[])
noncomputable def laws_eqColor_v (q : (TColor) × (TColor)) (r : (Bool)) : AV × List Ob := (AV.bool r,[])
noncomputable def laws_eqColor_x : List AV → List Ob → Option (AV × List Ob) := xOf laws_eqColor_e (fun q => laws_eqColor q.1 q.2) laws_eqColor_v
theorem laws_eqColor_i : ∀ a b,laws_eqColor_e a = laws_eqColor_e b → a = b := by rintro ⟨⟨x0,x1,x2,x3⟩,⟨x4,x5,x6,x7⟩⟩ ⟨⟨y0,y1,y2,y3⟩,⟨y4,y5,y6,y7⟩⟩ h; simp [laws_eqColor_e] at h; simp [h]
@[simp] theorem laws_eqColor_k (z0 : Int) (z1 : Int) (z2 : Int) (z3 : Int) (z4 : Int) (z5 : Int) (z6 : Int) (z7 : Int) : laws_eqColor_x [AV.agg [AV.int .i64 z0,AV.int .i64 z1,AV.int .i64 z2,AV.int .i64 z3],AV.agg [AV.int .i64 z4,AV.int .i64 z5,AV.int .i64 z6,AV.int .i64 z7]] [] = mapR (laws_eqColor ⟨z0,z1,z2,z3⟩ ⟨z4,z5,z6,z7⟩) (fun r => (AV.bool r,[])) :=
  xOf_eq laws_eqColor_i (⟨z0,z1,z2,z3⟩,⟨z4,z5,z6,z7⟩)
noncomputable def laws_eqPaint (a0 : TPaint) (a1 : TPaint) : Option ((Bool)) :=
  cnd (ieq a0.kind a1.kind) (
   bnd (laws_eqColor a0.first a1.first) fun v1 =>
   cnd v1 (
    bnd (laws_eqColor a0.last a1.last) fun v2 =>
    cnd v2 (
     bnd (laws_eqPoint a0.from_ a1.from_) fun v3 =>
     cnd v3 (
      bnd (laws_eqPoint a0.to a1.to) fun v4 =>
      cnd v4 (
       some true) (
       some false)) (
      some false)) (
     some false)) (
    some false)) (
   some false)
noncomputable def laws_eqPaint_e (q : (TPaint) × (TPaint)) : List AV × List Ob := ([AV.agg [AV.int .i64 q.1.kind,AV.int .i64 q.1.first.r,AV.int .i64 q.1.first.g,AV.int .i64 q.1.first.b,AV.int .i64 q.1.first.a,AV.int .i64 q.1.last.r,AV.int .i64 q.1.last.g,AV.int .i64 q.1.last.b,AV.int .i64 q.1.last.a,AV.int .i64 q.1.from_.x,AV.int .i64 q.1.from_.y,AV.int .i64 q.1.to.x,AV.int .i64 q.1.to.y],AV.agg [AV.int .i64 q.2.kind,AV.int .i64 q.2.first.r,AV.int .i64 q.2.first.g,AV.int .i64 q.2.first.b,AV.int .i64 q.2.first.a,AV.int .i64 q.2.last.r,AV.int .i64 q.2.last.g,AV.int .i64 q.2.last.b,AV.int .i64 q.2.last.a,AV.int .i64 q.2.from_.x,AV.int .i64 q.2.from_.y,AV.int .i64 q.2.to.x,AV.int .i64 q.2.to.y]],[])
noncomputable def laws_eqPaint_v (q : (TPaint) × (TPaint)) (r : (Bool)) : AV × List Ob := (AV.bool r,[])
noncomputable def laws_eqPaint_x : List AV → List Ob → Option (AV × List Ob) := xOf laws_eqPaint_e (fun q => laws_eqPaint q.1 q.2) laws_eqPaint_v
theorem laws_eqPaint_i : ∀ a b,laws_eqPaint_e a = laws_eqPaint_e b → a = b := by rintro ⟨⟨x0,⟨x1,x2,x3,x4⟩,⟨x5,x6,x7,x8⟩,⟨x9,x10⟩,⟨x11,x12⟩⟩,⟨x13,⟨x14,x15,x16,x17⟩,⟨x18,x19,x20,x21⟩,⟨x22,x23⟩,⟨x24,x25⟩⟩⟩ ⟨⟨y0,⟨y1,y2,y3,y4⟩,⟨y5,y6,y7,y8⟩,⟨y9,y10⟩,⟨y11,y12⟩⟩,⟨y13,⟨y14,y15,y16,y17⟩,⟨y18,y19,y20,y21⟩,⟨y22,y23⟩,⟨y24,y25⟩⟩⟩ h; simp [laws_eqPaint_e] at h; simp [h]
@[simp] theorem laws_eqPaint_k (z0 : Int) (z1 : Int) (z2 : Int) (z3 : Int) (z4 : Int) (z5 : Int) (z6 : Int) (z7 : Int) (z8 : Int) (z9 : Int) (z10 : Int) (z11 : Int) (z12 : Int) (z13 : Int) (z14 : Int) (z15 : Int) (z16 : Int) (z17 : Int) (z18 : Int) (z19 : Int) (z20 : Int) (z21 : Int) (z22 : Int) (z23 : Int) (z24 : Int) (z25 : Int) : laws_eqPaint_x [AV.agg [AV.int .i64 z0,AV.int .i64 z1,AV.int .i64 z2,AV.int .i64 z3,AV.int .i64 z4,AV.int .i64 z5,AV.int .i64 z6,AV.int .i64 z7,AV.int .i64 z8,AV.int .i64 z9,AV.int .i64 z10,AV.int .i64 z11,AV.int .i64 z12],AV.agg [AV.int .i64 z13,AV.int .i64 z14,AV.int .i64 z15,AV.int .i64 z16,AV.int .i64 z17,AV.int .i64 z18,AV.int .i64 z19,AV.int .i64 z20,AV.int .i64 z21,AV.int .i64 z22,AV.int .i64 z23,AV.int .i64 z24,AV.int .i64 z25]] [] = mapR (laws_eqPaint ⟨z0,⟨z1,z2,z3,z4⟩,⟨z5,z6,z7,z8⟩,⟨z9,z10⟩,⟨z11,z12⟩⟩ ⟨z13,⟨z14,z15,z16,z17⟩,⟨z18,z19,z20,z21⟩,⟨z22,z23⟩,⟨z24,z25⟩⟩) (fun r => (AV.bool r,[])) :=
  xOf_eq laws_eqPaint_i (⟨z0,⟨z1,z2,z3,z4⟩,⟨z5,z6,z7,z8⟩,⟨z9,z10⟩,⟨z11,z12⟩⟩,⟨z13,⟨z14,z15,z16,z17⟩,⟨z18,z19,z20,z21⟩,⟨z22,z23⟩,⟨z24,z25⟩⟩)
noncomputable def laws_eqNode (a0 : TNode) (a1 : TNode) : Option ((Bool)) :=
  cnd (ieq a0.id a1.id) (
   cnd (ieq a0.parent a1.parent) (
    cnd (andB (decide (a0.group = a1.group)) true) (
     bnd (laws_eqMat a0.mat a1.mat) fun v1 =>
     cnd v1 (
      bnd (laws_eqPath a0.path a1.path) fun v2 =>
      cnd v2 (
       cnd (andB (decide (a0.even = a1.even)) true) (
        cnd (ieq a0.width a1.width) (
         bnd (laws_eqIntS a0.dashes a1.dashes) fun v3 =>
         cnd v3 (
          bnd (laws_eqPaint a0.paint a1.paint) fun v4 =>
          cnd v4 (
           cnd (ieq a0.mode a1.mode) (
            cnd (ieq a0.fade a1.fade) (
             bnd (laws_eqPath a0.clip a1.clip) fun v5 =>
             cnd v5 (
              some true) (
              some false)) (
             some false)) (
            some false)) (
           some false)) (
          some false)) (
         some false)) (
        some false)) (
       some false)) (
      some false)) (
     some false)) (
    some false)) (
   some false)
noncomputable def laws_eqNode_e (q : (TNode) × (TNode)) : List AV × List Ob := ([AV.agg [AV.int .i64 q.1.id,AV.int .i64 q.1.parent,AV.bool q.1.group,AV.int .i64 q.1.mat.a,AV.int .i64 q.1.mat.b,AV.int .i64 q.1.mat.c,AV.int .i64 q.1.mat.d,AV.int .i64 q.1.mat.e,AV.int .i64 q.1.mat.f,AV.fsl (List.map (AV.int .i64) q.1.path.verbs),AV.fsl (List.map ePoint q.1.path.points),AV.bool q.1.even,AV.int .i64 q.1.width,AV.fsl (List.map (AV.int .i64) q.1.dashes),AV.int .i64 q.1.paint.kind,AV.int .i64 q.1.paint.first.r,AV.int .i64 q.1.paint.first.g,AV.int .i64 q.1.paint.first.b,AV.int .i64 q.1.paint.first.a,AV.int .i64 q.1.paint.last.r,AV.int .i64 q.1.paint.last.g,AV.int .i64 q.1.paint.last.b,AV.int .i64 q.1.paint.last.a,AV.int .i64 q.1.paint.from_.x,AV.int .i64 q.1.paint.from_.y,AV.int .i64 q.1.paint.to.x,AV.int .i64 q.1.paint.to.y,AV.int .i64 q.1.mode,AV.int .i64 q.1.fade,AV.fsl (List.map (AV.int .i64) q.1.clip.verbs),AV.fsl (List.map ePoint q.1.clip.points)],AV.agg [AV.int .i64 q.2.id,AV.int .i64 q.2.parent,AV.bool q.2.group,AV.int .i64 q.2.mat.a,AV.int .i64 q.2.mat.b,AV.int .i64 q.2.mat.c,AV.int .i64 q.2.mat.d,AV.int .i64 q.2.mat.e,AV.int .i64 q.2.mat.f,AV.fsl (List.map (AV.int .i64) q.2.path.verbs),AV.fsl (List.map ePoint q.2.path.points),AV.bool q.2.even,AV.int .i64 q.2.width,AV.fsl (List.map (AV.int .i64) q.2.dashes),AV.int .i64 q.2.paint.kind,AV.int .i64 q.2.paint.first.r,AV.int .i64 q.2.paint.first.g,AV.int .i64 q.2.paint.first.b,AV.int .i64 q.2.paint.first.a,AV.int .i64 q.2.paint.last.r,AV.int .i64 q.2.paint.last.g,AV.int .i64 q.2.paint.last.b,AV.int .i64 q.2.paint.last.a,AV.int .i64 q.2.paint.from_.x,AV.int .i64 q.2.paint.from_.y,AV.int .i64 q.2.paint.to.x,AV.int .i64 q.2.paint.to.y,AV.int .i64 q.2.mode,AV.int .i64 q.2.fade,AV.fsl (List.map (AV.int .i64) q.2.clip.verbs),AV.fsl (List.map ePoint q.2.clip.points)]],[])
noncomputable def laws_eqNode_v (q : (TNode) × (TNode)) (r : (Bool)) : AV × List Ob := (AV.bool r,[])
noncomputable def laws_eqNode_x : List AV → List Ob → Option (AV × List Ob) := xOf laws_eqNode_e (fun q => laws_eqNode q.1 q.2) laws_eqNode_v
theorem laws_eqNode_i : ∀ a b,laws_eqNode_e a = laws_eqNode_e b → a = b := by rintro ⟨⟨x0,x1,x2,⟨x3,x4,x5,x6,x7,x8⟩,⟨x9,x10⟩,x11,x12,x13,⟨x14,⟨x15,x16,x17,x18⟩,⟨x19,x20,x21,x22⟩,⟨x23,x24⟩,⟨x25,x26⟩⟩,x27,x28,⟨x29,x30⟩⟩,⟨x31,x32,x33,⟨x34,x35,x36,x37,x38,x39⟩,⟨x40,x41⟩,x42,x43,x44,⟨x45,⟨x46,x47,x48,x49⟩,⟨x50,x51,x52,x53⟩,⟨x54,x55⟩,⟨x56,x57⟩⟩,x58,x59,⟨x60,x61⟩⟩⟩ ⟨⟨y0,y1,y2,⟨y3,y4,y5,y6,y7,y8⟩,⟨y9,y10⟩,y11,y12,y13,⟨y14,⟨y15,y16,y17,y18⟩,⟨y19,y20,y21,y22⟩,⟨y23,y24⟩,⟨y25,y26⟩⟩,y27,y28,⟨y29,y30⟩⟩,⟨y31,y32,y33,⟨y34,y35,y36,y37,y38,y39⟩,⟨y40,y41⟩,y42,y43,y44,⟨y45,⟨y46,y47,y48,y49⟩,⟨y50,y51,y52,y53⟩,⟨y54,y55⟩,⟨y56,y57⟩⟩,y58,y59,⟨y60,y61⟩⟩⟩ h; simp [laws_eqNode_e] at h; simp [h]
@[simp] theorem laws_eqNode_k (z0 : Int) (z1 : Int) (z2 : Bool) (z3 : Int) (z4 : Int) (z5 : Int) (z6 : Int) (z7 : Int) (z8 : Int) (z9 : List Int) (z10 : List TPoint) (z11 : Bool) (z12 : Int) (z13 : List Int) (z14 : Int) (z15 : Int) (z16 : Int) (z17 : Int) (z18 : Int) (z19 : Int) (z20 : Int) (z21 : Int) (z22 : Int) (z23 : Int) (z24 : Int) (z25 : Int) (z26 : Int) (z27 : Int) (z28 : Int) (z29 : List Int) (z30 : List TPoint) (z31 : Int) (z32 : Int) (z33 : Bool) (z34 : Int) (z35 : Int) (z36 : Int) (z37 : Int) (z38 : Int) (z39 : Int) (z40 : List Int) (z41 : List TPoint) (z42 : Bool) (z43 : Int) (z44 : List Int) (z45 : Int) (z46 : Int) (z47 : Int) (z48 : Int) (z49 : Int) (z50 : Int) (z51 : Int) (z52 : Int) (z53 : Int) (z54 : Int) (z55 : Int) (z56 : Int) (z57 : Int) (z58 : Int) (z59 : Int) (z60 : List Int) (z61 : List TPoint) : laws_eqNode_x [AV.agg [AV.int .i64 z0,AV.int .i64 z1,AV.bool z2,AV.int .i64 z3,AV.int .i64 z4,AV.int .i64 z5,AV.int .i64 z6,AV.int .i64 z7,AV.int .i64 z8,AV.fsl (List.map (AV.int .i64) z9),AV.fsl (List.map ePoint z10),AV.bool z11,AV.int .i64 z12,AV.fsl (List.map (AV.int .i64) z13),AV.int .i64 z14,AV.int .i64 z15,AV.int .i64 z16,AV.int .i64 z17,AV.int .i64 z18,AV.int .i64 z19,AV.int .i64 z20,AV.int .i64 z21,AV.int .i64 z22,AV.int .i64 z23,AV.int .i64 z24,AV.int .i64 z25,AV.int .i64 z26,AV.int .i64 z27,AV.int .i64 z28,AV.fsl (List.map (AV.int .i64) z29),AV.fsl (List.map ePoint z30)],AV.agg [AV.int .i64 z31,AV.int .i64 z32,AV.bool z33,AV.int .i64 z34,AV.int .i64 z35,AV.int .i64 z36,AV.int .i64 z37,AV.int .i64 z38,AV.int .i64 z39,AV.fsl (List.map (AV.int .i64) z40),AV.fsl (List.map ePoint z41),AV.bool z42,AV.int .i64 z43,AV.fsl (List.map (AV.int .i64) z44),AV.int .i64 z45,AV.int .i64 z46,AV.int .i64 z47,AV.int .i64 z48,AV.int .i64 z49,AV.int .i64 z50,AV.int .i64 z51,AV.int .i64 z52,AV.int .i64 z53,AV.int .i64 z54,AV.int .i64 z55,AV.int .i64 z56,AV.int .i64 z57,AV.int .i64 z58,AV.int .i64 z59,AV.fsl (List.map (AV.int .i64) z60),AV.fsl (List.map ePoint z61)]] [] = mapR (laws_eqNode ⟨z0,z1,z2,⟨z3,z4,z5,z6,z7,z8⟩,⟨z9,z10⟩,z11,z12,z13,⟨z14,⟨z15,z16,z17,z18⟩,⟨z19,z20,z21,z22⟩,⟨z23,z24⟩,⟨z25,z26⟩⟩,z27,z28,⟨z29,z30⟩⟩ ⟨z31,z32,z33,⟨z34,z35,z36,z37,z38,z39⟩,⟨z40,z41⟩,z42,z43,z44,⟨z45,⟨z46,z47,z48,z49⟩,⟨z50,z51,z52,z53⟩,⟨z54,z55⟩,⟨z56,z57⟩⟩,z58,z59,⟨z60,z61⟩⟩) (fun r => (AV.bool r,[])) :=
  xOf_eq laws_eqNode_i (⟨z0,z1,z2,⟨z3,z4,z5,z6,z7,z8⟩,⟨z9,z10⟩,z11,z12,z13,⟨z14,⟨z15,z16,z17,z18⟩,⟨z19,z20,z21,z22⟩,⟨z23,z24⟩,⟨z25,z26⟩⟩,z27,z28,⟨z29,z30⟩⟩,⟨z31,z32,z33,⟨z34,z35,z36,z37,z38,z39⟩,⟨z40,z41⟩,z42,z43,z44,⟨z45,⟨z46,z47,z48,z49⟩,⟨z50,z51,z52,z53⟩,⟨z54,z55⟩,⟨z56,z57⟩⟩,z58,z59,⟨z60,z61⟩⟩)
noncomputable def laws_eqDeed (a0 : TDeed) (a1 : TDeed) : Option ((Bool)) :=
  cnd (ieq a0.kind a1.kind) (
   bnd (laws_eqNode a0.node a1.node) fun v1 =>
   cnd v1 (
    cnd (ieq a0.id a1.id) (
     cnd (ieq a0.parent a1.parent) (
      cnd (ieq a0.behind a1.behind) (
       cnd (ieq a0.x a1.x) (
        cnd (ieq a0.y a1.y) (
         some true) (
         some false)) (
        some false)) (
       some false)) (
      some false)) (
     some false)) (
    some false)) (
   some false)
noncomputable def laws_eqDeed_e (q : (TDeed) × (TDeed)) : List AV × List Ob := ([AV.agg [AV.int .i64 q.1.kind,AV.int .i64 q.1.node.id,AV.int .i64 q.1.node.parent,AV.bool q.1.node.group,AV.int .i64 q.1.node.mat.a,AV.int .i64 q.1.node.mat.b,AV.int .i64 q.1.node.mat.c,AV.int .i64 q.1.node.mat.d,AV.int .i64 q.1.node.mat.e,AV.int .i64 q.1.node.mat.f,AV.fsl (List.map (AV.int .i64) q.1.node.path.verbs),AV.fsl (List.map ePoint q.1.node.path.points),AV.bool q.1.node.even,AV.int .i64 q.1.node.width,AV.fsl (List.map (AV.int .i64) q.1.node.dashes),AV.int .i64 q.1.node.paint.kind,AV.int .i64 q.1.node.paint.first.r,AV.int .i64 q.1.node.paint.first.g,AV.int .i64 q.1.node.paint.first.b,AV.int .i64 q.1.node.paint.first.a,AV.int .i64 q.1.node.paint.last.r,AV.int .i64 q.1.node.paint.last.g,AV.int .i64 q.1.node.paint.last.b,AV.int .i64 q.1.node.paint.last.a,AV.int .i64 q.1.node.paint.from_.x,AV.int .i64 q.1.node.paint.from_.y,AV.int .i64 q.1.node.paint.to.x,AV.int .i64 q.1.node.paint.to.y,AV.int .i64 q.1.node.mode,AV.int .i64 q.1.node.fade,AV.fsl (List.map (AV.int .i64) q.1.node.clip.verbs),AV.fsl (List.map ePoint q.1.node.clip.points),AV.int .i64 q.1.id,AV.int .i64 q.1.parent,AV.int .i64 q.1.behind,AV.int .i64 q.1.x,AV.int .i64 q.1.y],AV.agg [AV.int .i64 q.2.kind,AV.int .i64 q.2.node.id,AV.int .i64 q.2.node.parent,AV.bool q.2.node.group,AV.int .i64 q.2.node.mat.a,AV.int .i64 q.2.node.mat.b,AV.int .i64 q.2.node.mat.c,AV.int .i64 q.2.node.mat.d,AV.int .i64 q.2.node.mat.e,AV.int .i64 q.2.node.mat.f,AV.fsl (List.map (AV.int .i64) q.2.node.path.verbs),AV.fsl (List.map ePoint q.2.node.path.points),AV.bool q.2.node.even,AV.int .i64 q.2.node.width,AV.fsl (List.map (AV.int .i64) q.2.node.dashes),AV.int .i64 q.2.node.paint.kind,AV.int .i64 q.2.node.paint.first.r,AV.int .i64 q.2.node.paint.first.g,AV.int .i64 q.2.node.paint.first.b,AV.int .i64 q.2.node.paint.first.a,AV.int .i64 q.2.node.paint.last.r,AV.int .i64 q.2.node.paint.last.g,AV.int .i64 q.2.node.paint.last.b,AV.int .i64 q.2.node.paint.last.a,AV.int .i64 q.2.node.paint.from_.x,AV.int .i64 q.2.node.paint.from_.y,AV.int .i64 q.2.node.paint.to.x,AV.int .i64 q.2.node.paint.to.y,AV.int .i64 q.2.node.mode,AV.int .i64 q.2.node.fade,AV.fsl (List.map (AV.int .i64) q.2.node.clip.verbs),AV.fsl (List.map ePoint q.2.node.clip.points),AV.int .i64 q.2.id,AV.int .i64 q.2.parent,AV.int .i64 q.2.behind,AV.int .i64 q.2.x,AV.int .i64 q.2.y]],[])
noncomputable def laws_eqDeed_v (q : (TDeed) × (TDeed)) (r : (Bool)) : AV × List Ob := (AV.bool r,[])
noncomputable def laws_eqDeed_x : List AV → List Ob → Option (AV × List Ob) := xOf laws_eqDeed_e (fun q => laws_eqDeed q.1 q.2) laws_eqDeed_v
theorem laws_eqDeed_i : ∀ a b,laws_eqDeed_e a = laws_eqDeed_e b → a = b := by rintro ⟨⟨x0,⟨x1,x2,x3,⟨x4,x5,x6,x7,x8,x9⟩,⟨x10,x11⟩,x12,x13,x14,⟨x15,⟨x16,x17,x18,x19⟩,⟨x20,x21,x22,x23⟩,⟨x24,x25⟩,⟨x26,x27⟩⟩,x28,x29,⟨x30,x31⟩⟩,x32,x33,x34,x35,x36⟩,⟨x37,⟨x38,x39,x40,⟨x41,x42,x43,x44,x45,x46⟩,⟨x47,x48⟩,x49,x50,x51,⟨x52,⟨x53,x54,x55,x56⟩,⟨x57,x58,x59,x60⟩,⟨x61,x62⟩,⟨x63,x64⟩⟩,x65,x66,⟨x67,x68⟩⟩,x69,x70,x71,x72,x73⟩⟩ ⟨⟨y0,⟨y1,y2,y3,⟨y4,y5,y6,y7,y8,y9⟩,⟨y10,y11⟩,y12,y13,y14,⟨y15,⟨y16,y17,y18,y19⟩,⟨y20,y21,y22,y23⟩,⟨y24,y25⟩,⟨y26,y27⟩⟩,y28,y29,⟨y30,y31⟩⟩,y32,y33,y34,y35,y36⟩,⟨y37,⟨y38,y39,y40,⟨y41,y42,y43,y44,y45,y46⟩,⟨y47,y48⟩,y49,y50,y51,⟨y52,⟨y53,y54,y55,y56⟩,⟨y57,y58,y59,y60⟩,⟨y61,y62⟩,⟨y63,y64⟩⟩,y65,y66,⟨y67,y68⟩⟩,y69,y70,y71,y72,y73⟩⟩ h; simp [laws_eqDeed_e] at h; simp [h]
@[simp] theorem laws_eqDeed_k (z0 : Int) (z1 : Int) (z2 : Int) (z3 : Bool) (z4 : Int) (z5 : Int) (z6 : Int) (z7 : Int) (z8 : Int) (z9 : Int) (z10 : List Int) (z11 : List TPoint) (z12 : Bool) (z13 : Int) (z14 : List Int) (z15 : Int) (z16 : Int) (z17 : Int) (z18 : Int) (z19 : Int) (z20 : Int) (z21 : Int) (z22 : Int) (z23 : Int) (z24 : Int) (z25 : Int) (z26 : Int) (z27 : Int) (z28 : Int) (z29 : Int) (z30 : List Int) (z31 : List TPoint) (z32 : Int) (z33 : Int) (z34 : Int) (z35 : Int) (z36 : Int) (z37 : Int) (z38 : Int) (z39 : Int) (z40 : Bool) (z41 : Int) (z42 : Int) (z43 : Int) (z44 : Int) (z45 : Int) (z46 : Int) (z47 : List Int) (z48 : List TPoint) (z49 : Bool) (z50 : Int) (z51 : List Int) (z52 : Int) (z53 : Int) (z54 : Int) (z55 : Int) (z56 : Int) (z57 : Int) (z58 : Int) (z59 : Int) (z60 : Int) (z61 : Int) (z62 : Int) (z63 : Int) (z64 : Int) (z65 : Int) (z66 : Int) (z67 : List Int) (z68 : List TPoint) (z69 : Int) (z70 : Int) (z71 : Int) (z72 : Int) (z73 : Int) : laws_eqDeed_x [AV.agg [AV.int .i64 z0,AV.int .i64 z1,AV.int .i64 z2,AV.bool z3,AV.int .i64 z4,AV.int .i64 z5,AV.int .i64 z6,AV.int .i64 z7,AV.int .i64 z8,AV.int .i64 z9,AV.fsl (List.map (AV.int .i64) z10),AV.fsl (List.map ePoint z11),AV.bool z12,AV.int .i64 z13,AV.fsl (List.map (AV.int .i64) z14),AV.int .i64 z15,AV.int .i64 z16,AV.int .i64 z17,AV.int .i64 z18,AV.int .i64 z19,AV.int .i64 z20,AV.int .i64 z21,AV.int .i64 z22,AV.int .i64 z23,AV.int .i64 z24,AV.int .i64 z25,AV.int .i64 z26,AV.int .i64 z27,AV.int .i64 z28,AV.int .i64 z29,AV.fsl (List.map (AV.int .i64) z30),AV.fsl (List.map ePoint z31),AV.int .i64 z32,AV.int .i64 z33,AV.int .i64 z34,AV.int .i64 z35,AV.int .i64 z36],AV.agg [AV.int .i64 z37,AV.int .i64 z38,AV.int .i64 z39,AV.bool z40,AV.int .i64 z41,AV.int .i64 z42,AV.int .i64 z43,AV.int .i64 z44,AV.int .i64 z45,AV.int .i64 z46,AV.fsl (List.map (AV.int .i64) z47),AV.fsl (List.map ePoint z48),AV.bool z49,AV.int .i64 z50,AV.fsl (List.map (AV.int .i64) z51),AV.int .i64 z52,AV.int .i64 z53,AV.int .i64 z54,AV.int .i64 z55,AV.int .i64 z56,AV.int .i64 z57,AV.int .i64 z58,AV.int .i64 z59,AV.int .i64 z60,AV.int .i64 z61,AV.int .i64 z62,AV.int .i64 z63,AV.int .i64 z64,AV.int .i64 z65,AV.int .i64 z66,AV.fsl (List.map (AV.int .i64) z67),AV.fsl (List.map ePoint z68),AV.int .i64 z69,AV.int .i64 z70,AV.int .i64 z71,AV.int .i64 z72,AV.int .i64 z73]] [] = mapR (laws_eqDeed ⟨z0,⟨z1,z2,z3,⟨z4,z5,z6,z7,z8,z9⟩,⟨z10,z11⟩,z12,z13,z14,⟨z15,⟨z16,z17,z18,z19⟩,⟨z20,z21,z22,z23⟩,⟨z24,z25⟩,⟨z26,z27⟩⟩,z28,z29,⟨z30,z31⟩⟩,z32,z33,z34,z35,z36⟩ ⟨z37,⟨z38,z39,z40,⟨z41,z42,z43,z44,z45,z46⟩,⟨z47,z48⟩,z49,z50,z51,⟨z52,⟨z53,z54,z55,z56⟩,⟨z57,z58,z59,z60⟩,⟨z61,z62⟩,⟨z63,z64⟩⟩,z65,z66,⟨z67,z68⟩⟩,z69,z70,z71,z72,z73⟩) (fun r => (AV.bool r,[])) :=
  xOf_eq laws_eqDeed_i (⟨z0,⟨z1,z2,z3,⟨z4,z5,z6,z7,z8,z9⟩,⟨z10,z11⟩,z12,z13,z14,⟨z15,⟨z16,z17,z18,z19⟩,⟨z20,z21,z22,z23⟩,⟨z24,z25⟩,⟨z26,z27⟩⟩,z28,z29,⟨z30,z31⟩⟩,z32,z33,z34,z35,z36⟩,⟨z37,⟨z38,z39,z40,⟨z41,z42,z43,z44,z45,z46⟩,⟨z47,z48⟩,z49,z50,z51,⟨z52,⟨z53,z54,z55,z56⟩,⟨z57,z58,z59,z60⟩,⟨z61,z62⟩,⟨z63,z64⟩⟩,z65,z66,⟨z67,z68⟩⟩,z69,z70,z71,z72,z73⟩)
noncomputable def laws_eqDeedS_l0 (a0 : List TDeed) (a1 : List TDeed) : ((Int)) → Option (((Int)) ⊕ ((Unit) ⊕ (Unit))) := fun x4 =>
  cnd (ile (List.length a0 : Int) x4) (
   some (.inr (.inl ()))) (
   bnd (idx a0 x4) fun v5 =>
   bnd (idx a1 x4) fun v6 =>
   bnd (laws_eqDeed v5 v6) fun v7 =>
   cnd v7 (
    some (.inl (IntKind.i64.wrap (x4 + 1)))) (
    some (.inr (.inr ()))))
noncomputable def laws_eqDeedS_l0_S (a0 : List TDeed) (a1 : List TDeed) : ((Int)) → St := fun x4 => ⟨[(0,AV.fsl (List.map eDeed a0)),(1,AV.fsl (List.map eDeed a1)),(5,AV.int .i64 x4)],[],0⟩
noncomputable def laws_eqDeedS_l0_X (a0 : List TDeed) (a1 : List TDeed) : ((Unit) ⊕ (Unit)) → Ex × St := fun q => match q with
  | .inl _ => ((.exit 0),⟨[],[],0⟩)
  | .inr _ => (.ret,⟨[(4,AV.bool false)],[],0⟩)
noncomputable def laws_eqDeedS (a0 : List TDeed) (a1 : List TDeed) : Option ((Bool)) :=
  cnd (ieq (List.length a0 : Int) (List.length a1 : Int)) (
   bnd (loopI (laws_eqDeedS_l0 a0 a1) 0) fun q => match q with
   | .inl () =>
    some true
   | .inr () =>
    some false) (
   some false)
noncomputable def laws_eqDeedS_e (q : (List TDeed) × (List TDeed)) : List AV × List Ob := ([AV.fsl (List.map eDeed q.1),AV.fsl (List.map eDeed q.2)],[])
noncomputable def laws_eqDeedS_v (q : (List TDeed) × (List TDeed)) (r : (Bool)) : AV × List Ob := (AV.bool r,[])
noncomputable def laws_eqDeedS_x : List AV → List Ob → Option (AV × List Ob) := xOf laws_eqDeedS_e (fun q => laws_eqDeedS q.1 q.2) laws_eqDeedS_v
theorem laws_eqDeedS_i : ∀ a b,laws_eqDeedS_e a = laws_eqDeedS_e b → a = b := by rintro ⟨x0,x1⟩ ⟨y0,y1⟩ h; simp [laws_eqDeedS_e] at h; simp [h]
@[simp] theorem laws_eqDeedS_k (z0 : List TDeed) (z1 : List TDeed) : laws_eqDeedS_x [AV.fsl (List.map eDeed z0),AV.fsl (List.map eDeed z1)] [] = mapR (laws_eqDeedS z0 z1) (fun r => (AV.bool r,[])) :=
  xOf_eq laws_eqDeedS_i (z0,z1)
noncomputable def laws_markIntS_l0  : ((Int) × (Int) × (List Int)) → Option (((Int) × (Int) × (List Int)) ⊕ ((List Int) × (Int))) := fun (x3,x4,x5) =>
  cnd (ile (List.length x5 : Int) x4) (
   some (.inr (x5,x3))) (
   bnd (idx x5 x4) fun v6 =>
   nam ((List.set x5 (Int.toNat x4) x3) : List Int) fun l7 =>
   some (.inl ((IntKind.i64.wrap (x3 + 1)),(IntKind.i64.wrap (x4 + 1)),l7)))
noncomputable def laws_markIntS_l0_S  : ((Int) × (Int) × (List Int)) → St := fun (x3,x4,x5) => ⟨[(0,AV.osl 0 0 (List.length x5) (List.length x5)),(1,AV.int .i64 x3),(5,AV.int .i64 x4)],[(0,Ob.arr 1 (List.map (AV.int .i64) x5) false)],1⟩
noncomputable def laws_markIntS_l0_X  : ((List Int) × (Int)) → Ex × St := fun (y8,y9) => ((.exit 0),⟨[(1,AV.int .i64 y9)],[(0,Ob.arr 1 (List.map (AV.int .i64) y8) false)],1⟩)
noncomputable def laws_markIntS (a0 : Int) (a1 : List Int) : Option ((Int) × (List Int)) :=
  bnd (loopI laws_markIntS_l0 (a0,0,a1)) fun (y8,y9) =>
  some (y9,y8)
noncomputable def laws_markIntS_e (q : (Int) × (List Int)) : List AV × List Ob := ([AV.osl 0 0 (List.length q.2) (List.length q.2),AV.int .i64 q.1],[Ob.arr 1 (List.map (AV.int .i64) q.2) false])
noncomputable def laws_markIntS_v (q : (Int) × (List Int)) (r : (Int) × (List Int)) : AV × List Ob := (AV.int .i64 r.1,[Ob.arr 1 (List.map (AV.int .i64) r.2) false])
noncomputable def laws_markIntS_x : List AV → List Ob → Option (AV × List Ob) := xOf laws_markIntS_e (fun q => laws_markIntS q.1 q.2) laws_markIntS_v
theorem laws_markIntS_i : ∀ a b,laws_markIntS_e a = laws_markIntS_e b → a = b := by rintro ⟨x0,x1⟩ ⟨y0,y1⟩ h; simp [laws_markIntS_e] at h; simp [h]
@[simp] theorem laws_markIntS_k (z0 : Int) (z1 : List Int) : laws_markIntS_x [AV.osl 0 0 (List.length z1) (List.length z1),AV.int .i64 z0] [Ob.arr 1 (List.map (AV.int .i64) z1) false] = mapR (laws_markIntS z0 z1) (fun r => (AV.int .i64 r.1,[Ob.arr 1 (List.map (AV.int .i64) r.2) false])) :=
  xOf_eq laws_markIntS_i (z0,z1)
theorem laws_markIntS_n {a0 : Int} {a1 : List Int} {r0 : Int} {r1 : List Int} (h : laws_markIntS a0 a1 = some (r0,r1)) : List.length a1 = List.length r1 := by
  unfold laws_markIntS at h; replace h : HS _ _ := h
  obtain ⟨q,e1,h⟩ := HS.bnd h
  replace e1 := loopI_pres (P := fun s => List.length a1 = List.length s.2.2) (Q := fun s => List.length a1 = List.length s.1) e1 (by
    rintro ⟨x3,x4,x5⟩ o hp h; dsimp only at hp; unfold laws_markIntS_l0 at h; replace h : HS _ _ := h
    rcases HS.cnd h with h | h
    · skip
      have h := HS.some h
      first | (cases h; simp_all; done) | (subst h; simp_all; done) | (simp only [Prod.mk.injEq] at h; simp_all; done)
    · skip
      obtain ⟨v6,e2,h⟩ := HS.bnd h
      clear e2
      obtain ⟨l7,e3,h⟩ := HS.nam h; replace e3 := congrArg List.length e3; simp only [List.length_set] at e3
      have h := HS.some h
      first | (cases h; simp_all; done) | (subst h; simp_all; done) | (simp only [Prod.mk.injEq] at h; simp_all; done)) (by simp)
  obtain ⟨y8,y9⟩ := q
  dsimp only at h e1
  have h := HS.some h
  first | (cases h; simp_all; done) | (subst h; simp_all; done) | (simp only [Prod.mk.injEq] at h; simp_all; done)
noncomputable def laws_markPointS_l0  : ((Int) × (Int) × (List TPoint)) → Option (((Int) × (Int) × (List TPoint)) ⊕ ((List TPoint) × (Int))) := fun (x5,x6,x7) =>
  cnd (ile (List.length x7 : Int) x6) (
   some (.inr (x7,x5))) (
   bnd (idx x7 x6) fun v8 =>
   nam ((List.set x7 (Int.toNat x6) (TPoint.mk x5 v8.y)) : List TPoint) fun l9 =>
   bnd (idx l9 x6) fun v10 =>
   nam ((List.set l9 (Int.toNat x6) (TPoint.mk v10.x (IntKind.i64.wrap (x5 + 1)))) : List TPoint) fun l11 =>
   some (.inl ((IntKind.i64.wrap ((IntKind.i64.wrap (x5 + 1)) + 1)),(IntKind.i64.wrap (x6 + 1)),l11)))
noncomputable def laws_markPointS_l0_S  : ((Int) × (Int) × (List TPoint)) → St := fun (x5,x6,x7) => ⟨[(0,AV.osl 0 0 (List.length x7) (List.length x7)),(1,AV.int .i64 x5),(5,AV.int .i64 x6)],[(0,Ob.arr 2 (List.map ePoint x7) false)],1⟩
noncomputable def laws_markPointS_l0_X  : ((List TPoint) × (Int)) → Ex × St := fun (y12,y13) => ((.exit 0),⟨[(1,AV.int .i64 y13)],[(0,Ob.arr 2 (List.map ePoint y12) false)],1⟩)
noncomputable def laws_markPointS (a0 : Int) (a1 : List TPoint) : Option ((Int) × (List TPoint)) :=
  bnd (loopI laws_markPointS_l0 (a0,0,a1)) fun (y12,y13) =>
  some (y13,y12)
noncomputable def laws_markPointS_e (q : (Int) × (List TPoint)) : List AV × List Ob := ([AV.osl 0 0 (List.length q.2) (List.length q.2),AV.int .i64 q.1],[Ob.arr 2 (List.map ePoint q.2) false])
noncomputable def laws_markPointS_v (q : (Int) × (List TPoint)) (r : (Int) × (List TPoint)) : AV × List Ob := (AV.int .i64 r.1,[Ob.arr 2 (List.map ePoint r.2) false])
noncomputable def laws_markPointS_x : List AV → List Ob → Option (AV × List Ob) := xOf laws_markPointS_e (fun q => laws_markPointS q.1 q.2) laws_markPointS_v
theorem laws_markPointS_i : ∀ a b,laws_markPointS_e a = laws_markPointS_e b → a = b := by rintro ⟨x0,x1⟩ ⟨y0,y1⟩ h; simp [laws_markPointS_e] at h; simp [h]
@[simp] theorem laws_markPointS_k (z0 : Int) (z1 : List TPoint) : laws_markPointS_x [AV.osl 0 0 (List.length z1) (List.length z1),AV.int .i64 z0] [Ob.arr 2 (List.map ePoint z1) false] = mapR (laws_markPointS z0 z1) (fun r => (AV.int .i64 r.1,[Ob.arr 2 (List.map ePoint r.2) false])) :=
  xOf_eq laws_markPointS_i (z0,z1)
theorem laws_markPointS_n {a0 : Int} {a1 : List TPoint} {r0 : Int} {r1 : List TPoint} (h : laws_markPointS a0 a1 = some (r0,r1)) : List.length a1 = List.length r1 := by
  unfold laws_markPointS at h; replace h : HS _ _ := h
  obtain ⟨q,e1,h⟩ := HS.bnd h
  replace e1 := loopI_pres (P := fun s => List.length a1 = List.length s.2.2) (Q := fun s => List.length a1 = List.length s.1) e1 (by
    rintro ⟨x5,x6,x7⟩ o hp h; dsimp only at hp; unfold laws_markPointS_l0 at h; replace h : HS _ _ := h
    rcases HS.cnd h with h | h
    · skip
      have h := HS.some h
      first | (cases h; simp_all; done) | (subst h; simp_all; done) | (simp only [Prod.mk.injEq] at h; simp_all; done)
    · skip
      obtain ⟨v8,e2,h⟩ := HS.bnd h
      clear e2
      obtain ⟨l9,e3,h⟩ := HS.nam h; replace e3 := congrArg List.length e3; simp only [List.length_set] at e3
      obtain ⟨v10,e4,h⟩ := HS.bnd h
      clear e4
      obtain ⟨l11,e5,h⟩ := HS.nam h; replace e5 := congrArg List.length e5; simp only [List.length_set] at e5
      have h := HS.some h
      first | (cases h; simp_all; done) | (subst h; simp_all; done) | (simp only [Prod.mk.injEq] at h; simp_all; done)) (by simp)
  obtain ⟨y12,y13⟩ := q
  dsimp only at h e1
  have h := HS.some h
  first | (cases h; simp_all; done) | (subst h; simp_all; done) | (simp only [Prod.mk.injEq] at h; simp_all; done)
noncomputable def laws_markDeedS_l0  : ((Int) × (Int) × (List TDeed)) → Option (((Int) × (Int) × (List TDeed)) ⊕ ((List TDeed) × (Int))) := fun (x17,x18,x19) =>
  cnd (ile (List.length x19 : Int) x18) (
   some (.inr (x19,x17))) (
   bnd (idx x19 x18) fun v20 =>
   bnd (laws_markIntS (IntKind.i64.wrap ((IntKind.i64.wrap ((IntKind.i64.wrap ((IntKind.i64.wrap ((IntKind.i64.wrap ((IntKind.i64.wrap ((IntKind.i64.wrap ((IntKind.i64.wrap ((IntKind.i64.wrap ((IntKind.i64.wrap (x17 + 1)) + 1)) + 1)) + 1)) + 1)) + 1)) + 1)) + 1)) + 1)) + 1)) v20.node.path.verbs) fun (w22,w23) =>
   bnd (laws_markPointS w22 v20.node.path.points) fun (w25,w26) =>
   bnd (laws_markIntS (IntKind.i64.wrap ((IntKind.i64.wrap (w25 + 1)) + 1)) v20.node.dashes) fun (w28,w29) =>
   bnd (laws_markIntS (IntKind.i64.wrap ((IntKind.i64.wrap ((IntKind.i64.wrap ((IntKind.i64.wrap ((IntKind.i64.wrap ((IntKind.i64.wrap ((IntKind.i64.wrap ((IntKind.i64.wrap ((IntKind.i64.wrap ((IntKind.i64.wrap ((IntKind.i64.wrap ((IntKind.i64.wrap ((IntKind.i64.wrap ((IntKind.i64.wrap ((IntKind.i64.wrap (w28 + 1)) + 1)) + 1)) + 1)) + 1)) + 1)) + 1)) + 1)) + 1)) + 1)) + 1)) + 1)) + 1)) + 1)) + 1)) v20.node.clip.verbs) fun (w31,w32) =>
   bnd (laws_markPointS w31 v20.node.clip.points) fun (w34,w35) =>
   some (.inl ((IntKind.i64.wrap ((IntKind.i64.wrap ((IntKind.i64.wrap ((IntKind.i64.wrap ((IntKind.i64.wrap (w34 + 1)) + 1)) + 1)) + 1)) + 1)),(IntKind.i64.wrap (x18 + 1)),(List.set x19 (Int.toNat x18) (TDeed.mk x17 (TNode.mk (IntKind.i64.wrap (x17 + 1)) (IntKind.i64.wrap ((IntKind.i64.wrap (x17 + 1)) + 1)) (ieq (Int.tmod (IntKind.i64.wrap ((IntKind.i64.wrap ((IntKind.i64.wrap (x17 + 1)) + 1)) + 1)) 3) 0) (TMat.mk (IntKind.i64.wrap ((IntKind.i64.wrap ((IntKind.i64.wrap ((IntKind.i64.wrap (x17 + 1)) + 1)) + 1)) + 1)) (IntKind.i64.wrap ((IntKind.i64.wrap ((IntKind.i64.wrap ((IntKind.i64.wrap ((IntKind.i64.wrap (x17 + 1)) + 1)) + 1)) + 1)) + 1)) (IntKind.i64.wrap ((IntKind.i64.wrap ((IntKind.i64.wrap ((IntKind.i64.wrap ((IntKind.i64.wrap ((IntKind.i64.wrap (x17 + 1)) + 1)) + 1)) + 1)) + 1)) + 1)) (IntKind.i64.wrap ((IntKind.i64.wrap ((IntKind.i64.wrap ((IntKind.i64.wrap ((IntKind.i64.wrap ((IntKind.i64.wrap ((IntKind.i64.wrap (x17 + 1)) + 1)) + 1)) + 1)) + 1)) + 1)) + 1)) (IntKind.i64.wrap ((IntKind.i64.wrap ((IntKind.i64.wrap ((IntKind.i64.wrap ((IntKind.i64.wrap ((IntKind.i64.wrap ((IntKind.i64.wrap ((IntKind.i64.wrap (x17 + 1)) + 1)) + 1)) + 1)) + 1)) + 1)) + 1)) + 1)) (IntKind.i64.wrap ((IntKind.i64.wrap ((IntKind.i64.wrap ((IntKind.i64.wrap ((IntKind.i64.wrap ((IntKind.i64.wrap ((IntKind.i64.wrap ((IntKind.i64.wrap ((IntKind.i64.wrap (x17 + 1)) + 1)) + 1)) + 1)) + 1)) + 1)) + 1)) + 1)) + 1))) (TPath.mk w23 w26) (ieq (Int.tmod w25 3) 0) (IntKind.i64.wrap (w25 + 1)) w29 (TPaint.mk w28 (TColor.mk (IntKind.i64.wrap (w28 + 1)) (IntKind.i64.wrap ((IntKind.i64.wrap (w28 + 1)) + 1)) (IntKind.i64.wrap ((IntKind.i64.wrap ((IntKind.i64.wrap (w28 + 1)) + 1)) + 1)) (IntKind.i64.wrap ((IntKind.i64.wrap ((IntKind.i64.wrap ((IntKind.i64.wrap (w28 + 1)) + 1)) + 1)) + 1))) (TColor.mk (IntKind.i64.wrap ((IntKind.i64.wrap ((IntKind.i64.wrap ((IntKind.i64.wrap ((IntKind.i64.wrap (w28 + 1)) + 1)) + 1)) + 1)) + 1)) (IntKind.i64.wrap ((IntKind.i64.wrap ((IntKind.i64.wrap ((IntKind.i64.wrap ((IntKind.i64.wrap ((IntKind.i64.wrap (w28 + 1)) + 1)) + 1)) + 1)) + 1)) + 1)) (IntKind.i64.wrap ((IntKind.i64.wrap ((IntKind.i64.wrap ((IntKind.i64.wrap ((IntKind.i64.wrap ((IntKind.i64.wrap ((IntKind.i64.wrap (w28 + 1)) + 1)) + 1)) + 1)) + 1)) + 1)) + 1)) (IntKind.i64.wrap ((IntKind.i64.wrap ((IntKind.i64.wrap ((IntKind.i64.wrap ((IntKind.i64.wrap ((IntKind.i64.wrap ((IntKind.i64.wrap ((IntKind.i64.wrap (w28 + 1)) + 1)) + 1)) + 1)) + 1)) + 1)) + 1)) + 1))) (TPoint.mk (IntKind.i64.wrap ((IntKind.i64.wrap ((IntKind.i64.wrap ((IntKind.i64.wrap ((IntKind.i64.wrap ((IntKind.i64.wrap ((IntKind.i64.wrap ((IntKind.i64.wrap ((IntKind.i64.wrap (w28 + 1)) + 1)) + 1)) + 1)) + 1)) + 1)) + 1)) + 1)) + 1)) (IntKind.i64.wrap ((IntKind.i64.wrap ((IntKind.i64.wrap ((IntKind.i64.wrap ((IntKind.i64.wrap ((IntKind.i64.wrap ((IntKind.i64.wrap ((IntKind.i64.wrap ((IntKind.i64.wrap ((IntKind.i64.wrap (w28 + 1)) + 1)) + 1)) + 1)) + 1)) + 1)) + 1)) + 1)) + 1)) + 1))) (TPoint.mk (IntKind.i64.wrap ((IntKind.i64.wrap ((IntKind.i64.wrap ((IntKind.i64.wrap ((IntKind.i64.wrap ((IntKind.i64.wrap ((IntKind.i64.wrap ((IntKind.i64.wrap ((IntKind.i64.wrap ((IntKind.i64.wrap ((IntKind.i64.wrap (w28 + 1)) + 1)) + 1)) + 1)) + 1)) + 1)) + 1)) + 1)) + 1)) + 1)) + 1)) (IntKind.i64.wrap ((IntKind.i64.wrap ((IntKind.i64.wrap ((IntKind.i64.wrap ((IntKind.i64.wrap ((IntKind.i64.wrap ((IntKind.i64.wrap ((IntKind.i64.wrap ((IntKind.i64.wrap ((IntKind.i64.wrap ((IntKind.i64.wrap ((IntKind.i64.wrap (w28 + 1)) + 1)) + 1)) + 1)) + 1)) + 1)) + 1)) + 1)) + 1)) + 1)) + 1)) + 1)))) (IntKind.i64.wrap ((IntKind.i64.wrap ((IntKind.i64.wrap ((IntKind.i64.wrap ((IntKind.i64.wrap ((IntKind.i64.wrap ((IntKind.i64.wrap ((IntKind.i64.wrap ((IntKind.i64.wrap ((IntKind.i64.wrap ((IntKind.i64.wrap ((IntKind.i64.wrap ((IntKind.i64.wrap (w28 + 1)) + 1)) + 1)) + 1)) + 1)) + 1)) + 1)) + 1)) + 1)) + 1)) + 1)) + 1)) + 1)) (IntKind.i64.wrap ((IntKind.i64.wrap ((IntKind.i64.wrap ((IntKind.i64.wrap ((IntKind.i64.wrap ((IntKind.i64.wrap ((IntKind.i64.wrap ((IntKind.i64.wrap ((IntKind.i64.wrap ((IntKind.i64.wrap ((IntKind.i64.wrap ((IntKind.i64.wrap ((IntKind.i64.wrap ((IntKind.i64.wrap (w28 + 1)) + 1)) + 1)) + 1)) + 1)) + 1)) + 1)) + 1)) + 1)) + 1)) + 1)) + 1)) + 1)) + 1)) (TPath.mk w32 w35)) w34 (IntKind.i64.wrap (w34 + 1)) (IntKind.i64.wrap ((IntKind.i64.wrap (w34 + 1)) + 1)) (IntKind.i64.wrap ((IntKind.i64.wrap ((IntKind.i64.wrap (w34 + 1)) + 1)) + 1)) (IntKind.i64.wrap ((IntKind.i64.wrap ((IntKind.i64.wrap ((IntKind.i64.wrap (w34 + 1)) + 1)) + 1)) + 1)))))))
noncomputable def laws_markDeedS_l0_S  : ((Int) × (Int) × (List TDeed)) → St := fun (x17,x18,x19) => ⟨[(0,AV.osl 0 0 (List.length x19) (List.length x19)),(1,AV.int .i64 x17),(5,AV.int .i64 x18)],[(0,Ob.nar 37 (List.map eDeed x19) [0,0,0,0,0,0,0,0,0,0,1,2,0,0,1,0,0,0,0,0,0,0,0,0,0,0,0,0,0,0,1,2,0,0,0,0,0])],1⟩
noncomputable def laws_markDeedS_l0_X  : ((List TDeed) × (Int)) → Ex × St := fun (y36,y37) => ((.exit 0),⟨[(1,AV.int .i64 y37)],[(0,Ob.nar 37 (List.map eDeed y36) [0,0,0,0,0,0,0,0,0,0,1,2,0,0,1,0,0,0,0,0,0,0,0,0,0,0,0,0,0,0,1,2,0,0,0,0,0])],1⟩)
noncomputable def laws_markDeedS (a0 : Int) (a1 : List TDeed) : Option ((Int) × (List TDeed)) :=
  bnd (loopI laws_markDeedS_l0 (a0,0,a1)) fun (y36,y37) =>
  some (y37,y36)
noncomputable def laws_markDeedS_e (q : (Int) × (List TDeed)) : List AV × List Ob := ([AV.osl 0 0 (List.length q.2) (List.length q.2),AV.int .i64 q.1],[Ob.nar 37 (List.map eDeed q.2) [0,0,0,0,0,0,0,0,0,0,1,2,0,0,1,0,0,0,0,0,0,0,0,0,0,0,0,0,0,0,1,2,0,0,0,0,0]])
noncomputable def laws_markDeedS_v (q : (Int) × (List TDeed)) (r : (Int) × (List TDeed)) : AV × List Ob := (AV.int .i64 r.1,[Ob.nar 37 (List.map eDeed r.2) [0,0,0,0,0,0,0,0,0,0,1,2,0,0,1,0,0,0,0,0,0,0,0,0,0,0,0,0,0,0,1,2,0,0,0,0,0]])
noncomputable def laws_markDeedS_x : List AV → List Ob → Option (AV × List Ob) := xOf laws_markDeedS_e (fun q => laws_markDeedS q.1 q.2) laws_markDeedS_v
theorem laws_markDeedS_i : ∀ a b,laws_markDeedS_e a = laws_markDeedS_e b → a = b := by rintro ⟨x0,x1⟩ ⟨y0,y1⟩ h; simp [laws_markDeedS_e] at h; simp [h]
@[simp] theorem laws_markDeedS_k (z0 : Int) (z1 : List TDeed) : laws_markDeedS_x [AV.osl 0 0 (List.length z1) (List.length z1),AV.int .i64 z0] [Ob.nar 37 (List.map eDeed z1) [0,0,0,0,0,0,0,0,0,0,1,2,0,0,1,0,0,0,0,0,0,0,0,0,0,0,0,0,0,0,1,2,0,0,0,0,0]] = mapR (laws_markDeedS z0 z1) (fun r => (AV.int .i64 r.1,[Ob.nar 37 (List.map eDeed r.2) [0,0,0,0,0,0,0,0,0,0,1,2,0,0,1,0,0,0,0,0,0,0,0,0,0,0,0,0,0,0,1,2,0,0,0,0,0]])) :=
  xOf_eq laws_markDeedS_i (z0,z1)
theorem laws_markDeedS_n {a0 : Int} {a1 : List TDeed} {r0 : Int} {r1 : List TDeed} (h : laws_markDeedS a0 a1 = some (r0,r1)) : List.length a1 = List.length r1 := by
  unfold laws_markDeedS at h; replace h : HS _ _ := h
  obtain ⟨q,e1,h⟩ := HS.bnd h
  replace e1 := loopI_pres (P := fun s => List.length a1 = List.length s.2.2) (Q := fun s => List.length a1 = List.length s.1) e1 (by
    rintro ⟨x17,x18,x19⟩ o hp h; dsimp only at hp; unfold laws_markDeedS_l0 at h; replace h : HS _ _ := h
    rcases HS.cnd h with h | h
    · skip
      have h := HS.some h
      first | (cases h; simp_all; done) | (subst h; simp_all; done) | (simp only [Prod.mk.injEq] at h; simp_all; done)
    · skip
      obtain ⟨v20,e2,h⟩ := HS.bnd h
      clear e2
      obtain ⟨⟨w22,w23⟩,e3,h⟩ := HS.bnd h
      dsimp only at h
      replace e3 := laws_markIntS_n e3
      obtain ⟨⟨w25,w26⟩,e4,h⟩ := HS.bnd h
      dsimp only at h
      replace e4 := laws_markPointS_n e4
      obtain ⟨⟨w28,w29⟩,e5,h⟩ := HS.bnd h
      dsimp only at h
      replace e5 := laws_markIntS_n e5
      obtain ⟨⟨w31,w32⟩,e6,h⟩ := HS.bnd h
      dsimp only at h
      replace e6 := laws_markIntS_n e6
      obtain ⟨⟨w34,w35⟩,e7,h⟩ := HS.bnd h
      dsimp only at h
      replace e7 := laws_markPointS_n e7
      have h := HS.some h
      first | (cases h; simp_all; done) | (subst h; simp_all; done) | (simp only [Prod.mk.injEq] at h; simp_all; done)) (by simp)
  obtain ⟨y36,y37⟩ := q
  dsimp only at h e1
  have h := HS.some h
  first | (cases h; simp_all; done) | (subst h; simp_all; done) | (simp only [Prod.mk.injEq] at h; simp_all; done)
noncomputable def laws_heldIntS_l0 (a0 : List Int) : ((Int) × (Int)) → Option (((Int) × (Int)) ⊕ (((Int)) ⊕ (Unit))) := fun (x2,x3) =>
  cnd (ile (List.length a0 : Int) x3) (
   some (.inr (.inl x2))) (
   bnd (idx a0 x3) fun v4 =>
   cnd (ieq v4 x2) (
    some (.inl ((IntKind.i64.wrap (x2 + 1)),(IntKind.i64.wrap (x3 + 1))))) (
    some (.inr (.inr ()))))
noncomputable def laws_heldIntS_l0_S (a0 : List Int) : ((Int) × (Int)) → St := fun (x2,x3) => ⟨[(0,AV.fsl (List.map (AV.int .i64) a0)),(1,AV.int .i64 x2),(5,AV.int .i64 x3)],[],0⟩
noncomputable def laws_heldIntS_l0_X (a0 : List Int) : (((Int)) ⊕ (Unit)) → Ex × St := fun q => match q with
  | .inl y5 => ((.exit 0),⟨[(1,AV.int .i64 y5)],[],0⟩)
  | .inr _ => (.ret,⟨[(4,AV.int .i64 (-1))],[],0⟩)
noncomputable def laws_heldIntS (a0 : List Int) (a1 : Int) : Option ((Int)) :=
  bnd (loopI (laws_heldIntS_l0 a0) (a1,0)) fun q => match q with
  | .inl y5 =>
   some y5
  | .inr () =>
   some (-1)
noncomputable def laws_heldIntS_e (q : (List Int) × (Int)) : List AV × List Ob := ([AV.fsl (List.map (AV.int .i64) q.1),AV.int .i64 q.2],[])
noncomputable def laws_heldIntS_v (q : (List Int) × (Int)) (r : (Int)) : AV × List Ob := (AV.int .i64 r,[])
noncomputable def laws_heldIntS_x : List AV → List Ob → Option (AV × List Ob) := xOf laws_heldIntS_e (fun q => laws_heldIntS q.1 q.2) laws_heldIntS_v
theorem laws_heldIntS_i : ∀ a b,laws_heldIntS_e a = laws_heldIntS_e b → a = b := by rintro ⟨x0,x1⟩ ⟨y0,y1⟩ h; simp [laws_heldIntS_e] at h; simp [h]
@[simp] theorem laws_heldIntS_k (z0 : List Int) (z1 : Int) : laws_heldIntS_x [AV.fsl (List.map (AV.int .i64) z0),AV.int .i64 z1] [] = mapR (laws_heldIntS z0 z1) (fun r => (AV.int .i64 r,[])) :=
  xOf_eq laws_heldIntS_i (z0,z1)
noncomputable def laws_heldPointS_l0 (a0 : List TPoint) : ((Int) × (Int)) → Option (((Int) × (Int)) ⊕ (((Int)) ⊕ (Unit))) := fun (x2,x3) =>
  cnd (ile (List.length a0 : Int) x3) (
   some (.inr (.inl x2))) (
   bnd (idx a0 x3) fun v4 =>
   cnd (ieq v4.x x2) (
    cnd (ieq v4.y (IntKind.i64.wrap (x2 + 1))) (
     some (.inl ((IntKind.i64.wrap ((IntKind.i64.wrap (x2 + 1)) + 1)),(IntKind.i64.wrap (x3 + 1))))) (
     some (.inr (.inr ())))) (
    some (.inr (.inr ()))))
noncomputable def laws_heldPointS_l0_S (a0 : List TPoint) : ((Int) × (Int)) → St := fun (x2,x3) => ⟨[(0,AV.fsl (List.map ePoint a0)),(1,AV.int .i64 x2),(5,AV.int .i64 x3)],[],0⟩
noncomputable def laws_heldPointS_l0_X (a0 : List TPoint) : (((Int)) ⊕ (Unit)) → Ex × St := fun q => match q with
  | .inl y5 => ((.exit 0),⟨[(1,AV.int .i64 y5)],[],0⟩)
  | .inr _ => (.ret,⟨[(4,AV.int .i64 (-1))],[],0⟩)
noncomputable def laws_heldPointS (a0 : List TPoint) (a1 : Int) : Option ((Int)) :=
  bnd (loopI (laws_heldPointS_l0 a0) (a1,0)) fun q => match q with
  | .inl y5 =>
   some y5
  | .inr () =>
   some (-1)
noncomputable def laws_heldPointS_e (q : (List TPoint) × (Int)) : List AV × List Ob := ([AV.fsl (List.map ePoint q.1),AV.int .i64 q.2],[])
noncomputable def laws_heldPointS_v (q : (List TPoint) × (Int)) (r : (Int)) : AV × List Ob := (AV.int .i64 r,[])
noncomputable def laws_heldPointS_x : List AV → List Ob → Option (AV × List Ob) := xOf laws_heldPointS_e (fun q => laws_heldPointS q.1 q.2) laws_heldPointS_v
theorem laws_heldPointS_i : ∀ a b,laws_heldPointS_e a = laws_heldPointS_e b → a = b := by rintro ⟨x0,x1⟩ ⟨y0,y1⟩ h; simp [laws_heldPointS_e] at h; simp [h]
@[simp] theorem laws_heldPointS_k (z0 : List TPoint) (z1 : Int) : laws_heldPointS_x [AV.fsl (List.map ePoint z0),AV.int .i64 z1] [] = mapR (laws_heldPointS z0 z1) (fun r => (AV.int .i64 r,[])) :=
  xOf_eq laws_heldPointS_i (z0,z1)
noncomputable def laws_heldDeedS_l0 (a0 : List TDeed) : ((Int) × (Int)) → Option (((Int) × (Int)) ⊕ (((Int)) ⊕ (Unit))) := fun (x7,x8) =>
  cnd (ile (List.length a0 : Int) x8) (
   some (.inr (.inl x7))) (
   bnd (idx a0 x8) fun v9 =>
   cnd (ieq v9.kind x7) (
    cnd (ieq v9.node.id (IntKind.i64.wrap (x7 + 1))) (
     cnd (ieq v9.node.parent (IntKind.i64.wrap ((IntKind.i64.wrap (x7 + 1)) + 1))) (
      cnd (andB (decide (v9.node.group = (ieq (Int.tmod (IntKind.i64.wrap ((IntKind.i64.wrap ((IntKind.i64.wrap (x7 + 1)) + 1)) + 1)) 3) 0))) true) (
       cnd (ieq v9.node.mat.a (IntKind.i64.wrap ((IntKind.i64.wrap ((IntKind.i64.wrap ((IntKind.i64.wrap (x7 + 1)) + 1)) + 1)) + 1))) (
        cnd (ieq v9.node.mat.b (IntKind.i64.wrap ((IntKind.i64.wrap ((IntKind.i64.wrap ((IntKind.i64.wrap ((IntKind.i64.wrap (x7 + 1)) + 1)) + 1)) + 1)) + 1))) (
         cnd (ieq v9.node.mat.c (IntKind.i64.wrap ((IntKind.i64.wrap ((IntKind.i64.wrap ((IntKind.i64.wrap ((IntKind.i64.wrap ((IntKind.i64.wrap (x7 + 1)) + 1)) + 1)) + 1)) + 1)) + 1))) (
          cnd (ieq v9.node.mat.d (IntKind.i64.wrap ((IntKind.i64.wrap ((IntKind.i64.wrap ((IntKind.i64.wrap ((IntKind.i64.wrap ((IntKind.i64.wrap ((IntKind.i64.wrap (x7 + 1)) + 1)) + 1)) + 1)) + 1)) + 1)) + 1))) (
           cnd (ieq v9.node.mat.e (IntKind.i64.wrap ((IntKind.i64.wrap ((IntKind.i64.wrap ((IntKind.i64.wrap ((IntKind.i64.wrap ((IntKind.i64.wrap ((IntKind.i64.wrap ((IntKind.i64.wrap (x7 + 1)) + 1)) + 1)) + 1)) + 1)) + 1)) + 1)) + 1))) (
            cnd (ieq v9.node.mat.f (IntKind.i64.wrap ((IntKind.i64.wrap ((IntKind.i64.wrap ((IntKind.i64.wrap ((IntKind.i64.wrap ((IntKind.i64.wrap ((IntKind.i64.wrap ((IntKind.i64.wrap ((IntKind.i64.wrap (x7 + 1)) + 1)) + 1)) + 1)) + 1)) + 1)) + 1)) + 1)) + 1))) (
             bnd (laws_heldIntS v9.node.path.verbs (IntKind.i64.wrap ((IntKind.i64.wrap ((IntKind.i64.wrap ((IntKind.i64.wrap ((IntKind.i64.wrap ((IntKind.i64.wrap ((IntKind.i64.wrap ((IntKind.i64.wrap ((IntKind.i64.wrap ((IntKind.i64.wrap (x7 + 1)) + 1)) + 1)) + 1)) + 1)) + 1)) + 1)) + 1)) + 1)) + 1))) fun v10 =>
             cnd (ile 0 v10) (
              bnd (laws_heldPointS v9.node.path.points v10) fun v11 =>
              cnd (ile 0 v11) (
               cnd (andB (decide (v9.node.even = (ieq (Int.tmod v11 3) 0))) true) (
                cnd (ieq v9.node.width (IntKind.i64.wrap (v11 + 1))) (
                 bnd (laws_heldIntS v9.node.dashes (IntKind.i64.wrap ((IntKind.i64.wrap (v11 + 1)) + 1))) fun v12 =>
                 cnd (ile 0 v12) (
                  cnd (ieq v9.node.paint.kind v12) (
                   cnd (ieq v9.node.paint.first.r (IntKind.i64.wrap (v12 + 1))) (
                    cnd (ieq v9.node.paint.first.g (IntKind.i64.wrap ((IntKind.i64.wrap (v12 + 1)) + 1))) (
                     cnd (ieq v9.node.paint.first.b (IntKind.i64.wrap ((IntKind.i64.wrap ((IntKind.i64.wrap (v12 + 1)) + 1)) + 1))) (
                      cnd (ieq v9.node.paint.first.a (IntKind.i64.wrap ((IntKind.i64.wrap ((IntKind.i64.wrap ((IntKind.i64.wrap (v12 + 1)) + 1)) + 1)) + 1))) (
                       cnd (ieq v9.node.paint.last.r (IntKind.i64.wrap ((IntKind.i64.wrap ((IntKind.i64.wrap ((IntKind.i64.wrap ((IntKind.i64.wrap (v12 + 1)) + 1)) + 1)) + 1)) + 1))) (
                        cnd (ieq v9.node.paint.last.g (IntKind.i64.wrap ((IntKind.i64.wrap ((IntKind.i64.wrap ((IntKind.i64.wrap ((IntKind.i64.wrap ((IntKind.i64.wrap (v12 + 1)) + 1)) + 1)) + 1)) + 1)) + 1))) (
                         cnd (ieq v9.node.paint.last.b (IntKind.i64.wrap ((IntKind.i64.wrap ((IntKind.i64.wrap ((IntKind.i64.wrap ((IntKind.i64.wrap ((IntKind.i64.wrap ((IntKind.i64.wrap (v12 + 1)) + 1)) + 1)) + 1)) + 1)) + 1)) + 1))) (
                          cnd (ieq v9.node.paint.last.a (IntKind.i64.wrap ((IntKind.i64.wrap ((IntKind.i64.wrap ((IntKind.i64.wrap ((IntKind.i64.wrap ((IntKind.i64.wrap ((IntKind.i64.wrap ((IntKind.i64.wrap (v12 + 1)) + 1)) + 1)) + 1)) + 1)) + 1)) + 1)) + 1))) (
                           cnd (ieq v9.node.paint.from_.x (IntKind.i64.wrap ((IntKind.i64.wrap ((IntKind.i64.wrap ((IntKind.i64.wrap ((IntKind.i64.wrap ((IntKind.i64.wrap ((IntKind.i64.wrap ((IntKind.i64.wrap ((IntKind.i64.wrap (v12 + 1)) + 1)) + 1)) + 1)) + 1)) + 1)) + 1)) + 1)) + 1))) (
                            cnd (ieq v9.node.paint.from_.y (IntKind.i64.wrap ((IntKind.i64.wrap ((IntKind.i64.wrap ((IntKind.i64.wrap ((IntKind.i64.wrap ((IntKind.i64.wrap ((IntKind.i64.wrap ((IntKind.i64.wrap ((IntKind.i64.wrap ((IntKind.i64.wrap (v12 + 1)) + 1)) + 1)) + 1)) + 1)) + 1)) + 1)) + 1)) + 1)) + 1))) (
                             cnd (ieq v9.node.paint.to.x (IntKind.i64.wrap ((IntKind.i64.wrap ((IntKind.i64.wrap ((IntKind.i64.wrap ((IntKind.i64.wrap ((IntKind.i64.wrap ((IntKind.i64.wrap ((IntKind.i64.wrap ((IntKind.i64.wrap ((IntKind.i64.wrap ((IntKind.i64.wrap (v12 + 1)) + 1)) + 1)) + 1)) + 1)) + 1)) + 1)) + 1)) + 1)) + 1)) + 1))) (
                              cnd (ieq v9.node.paint.to.y (IntKind.i64.wrap ((IntKind.i64.wrap ((IntKind.i64.wrap ((IntKind.i64.wrap ((IntKind.i64.wrap ((IntKind.i64.wrap ((IntKind.i64.wrap ((IntKind.i64.wrap ((IntKind.i64.wrap ((IntKind.i64.wrap ((IntKind.i64.wrap ((IntKind.i64.wrap (v12 + 1)) + 1)) + 1)) + 1)) + 1)) + 1)) + 1)) + 1)) + 1)) + 1)) + 1)) + 1))) (
                               cnd (ieq v9.node.mode (IntKind.i64.wrap ((IntKind.i64.wrap ((IntKind.i64.wrap ((IntKind.i64.wrap ((IntKind.i64.wrap ((IntKind.i64.wrap ((IntKind.i64.wrap ((IntKind.i64.wrap ((IntKind.i64.wrap ((IntKind.i64.wrap ((IntKind.i64.wrap ((IntKind.i64.wrap ((IntKind.i64.wrap (v12 + 1)) + 1)) + 1)) + 1)) + 1)) + 1)) + 1)) + 1)) + 1)) + 1)) + 1)) + 1)) + 1))) (
                                cnd (ieq v9.node.fade (IntKind.i64.wrap ((IntKind.i64.wrap ((IntKind.i64.wrap ((IntKind.i64.wrap ((IntKind.i64.wrap ((IntKind.i64.wrap ((IntKind.i64.wrap ((IntKind.i64.wrap ((IntKind.i64.wrap ((IntKind.i64.wrap ((IntKind.i64.wrap ((IntKind.i64.wrap ((IntKind.i64.wrap ((IntKind.i64.wrap (v12 + 1)) + 1)) + 1)) + 1)) + 1)) + 1)) + 1)) + 1)) + 1)) + 1)) + 1)) + 1)) + 1)) + 1))) (
                                 bnd (laws_heldIntS v9.node.clip.verbs (IntKind.i64.wrap ((IntKind.i64.wrap ((IntKind.i64.wrap ((IntKind.i64.wrap ((IntKind.i64.wrap ((IntKind.i64.wrap ((IntKind.i64.wrap ((IntKind.i64.wrap ((IntKind.i64.wrap ((IntKind.i64.wrap ((IntKind.i64.wrap ((IntKind.i64.wrap ((IntKind.i64.wrap ((IntKind.i64.wrap ((IntKind.i64.wrap (v12 + 1)) + 1)) + 1)) + 1)) + 1)) + 1)) + 1)) + 1)) + 1)) + 1)) + 1)) + 1)) + 1)) + 1)) + 1))) fun v13 =>
                                 cnd (ile 0 v13) (
                                  bnd (laws_heldPointS v9.node.clip.points v13) fun v14 =>
                                  cnd (ile 0 v14) (
                                   cnd (ieq v9.id v14) (
                                    cnd (ieq v9.parent (IntKind.i64.wrap (v14 + 1))) (
                                     cnd (ieq v9.behind (IntKind.i64.wrap ((IntKind.i64.wrap (v14 + 1)) + 1))) (
                                      cnd (ieq v9.x (IntKind.i64.wrap ((IntKind.i64.wrap ((IntKind.i64.wrap (v14 + 1)) + 1)) + 1))) (
                                       cnd (ieq v9.y (IntKind.i64.wrap ((IntKind.i64.wrap ((IntKind.i64.wrap ((IntKind.i64.wrap (v14 + 1)) + 1)) + 1)) + 1))) (
                                        some (.inl ((IntKind.i64.wrap ((IntKind.i64.wrap ((IntKind.i64.wrap ((IntKind.i64.wrap ((IntKind.i64.wrap (v14 + 1)) + 1)) + 1)) + 1)) + 1)),(IntKind.i64.wrap (x8 + 1))))) (
                                        some (.inr (.inr ())))) (
                                       some (.inr (.inr ())))) (
                                      some (.inr (.inr ())))) (
                                     some (.inr (.inr ())))) (
                                    some (.inr (.inr ())))) (
                                   some (.inr (.inr ())))) (
                                  some (.inr (.inr ())))) (
                                 some (.inr (.inr ())))) (
                                some (.inr (.inr ())))) (
                               some (.inr (.inr ())))) (
                              some (.inr (.inr ())))) (
                             some (.inr (.inr ())))) (
                            some (.inr (.inr ())))) (
                           some (.inr (.inr ())))) (
                          some (.inr (.inr ())))) (
                         some (.inr (.inr ())))) (
                        some (.inr (.inr ())))) (
                       some (.inr (.inr ())))) (
                      some (.inr (.inr ())))) (
                     some (.inr (.inr ())))) (
                    some (.inr (.inr ())))) (
                   some (.inr (.inr ())))) (
                  some (.inr (.inr ())))) (
                 some (.inr (.inr ())))) (
                some (.inr (.inr ())))) (
               some (.inr (.inr ())))) (
              some (.inr (.inr ())))) (
             some (.inr (.inr ())))) (
            some (.inr (.inr ())))) (
           some (.inr (.inr ())))) (
          some (.inr (.inr ())))) (
         some (.inr (.inr ())))) (
        some (.inr (.inr ())))) (
       some (.inr (.inr ())))) (
      some (.inr (.inr ())))) (
     some (.inr (.inr ())))) (
    some (.inr (.inr ()))))
noncomputable def laws_heldDeedS_l0_S (a0 : List TDeed) : ((Int) × (Int)) → St := fun (x7,x8) => ⟨[(0,AV.fsl (List.map eDeed a0)),(1,AV.int .i64 x7),(5,AV.int .i64 x8)],[],0⟩
noncomputable def laws_heldDeedS_l0_X (a0 : List TDeed) : (((Int)) ⊕ (Unit)) → Ex × St := fun q => match q with
  | .inl y15 => ((.exit 0),⟨[(1,AV.int .i64 y15)],[],0⟩)
  | .inr _ => (.ret,⟨[(4,AV.int .i64 (-1))],[],0⟩)
noncomputable def laws_heldDeedS (a0 : List TDeed) (a1 : Int) : Option ((Int)) :=
  bnd (loopI (laws_heldDeedS_l0 a0) (a1,0)) fun q => match q with
  | .inl y15 =>
   some y15
  | .inr () =>
   some (-1)
noncomputable def laws_heldDeedS_e (q : (List TDeed) × (Int)) : List AV × List Ob := ([AV.fsl (List.map eDeed q.1),AV.int .i64 q.2],[])
noncomputable def laws_heldDeedS_v (q : (List TDeed) × (Int)) (r : (Int)) : AV × List Ob := (AV.int .i64 r,[])
noncomputable def laws_heldDeedS_x : List AV → List Ob → Option (AV × List Ob) := xOf laws_heldDeedS_e (fun q => laws_heldDeedS q.1 q.2) laws_heldDeedS_v
theorem laws_heldDeedS_i : ∀ a b,laws_heldDeedS_e a = laws_heldDeedS_e b → a = b := by rintro ⟨x0,x1⟩ ⟨y0,y1⟩ h; simp [laws_heldDeedS_e] at h; simp [h]
@[simp] theorem laws_heldDeedS_k (z0 : List TDeed) (z1 : Int) : laws_heldDeedS_x [AV.fsl (List.map eDeed z0),AV.int .i64 z1] [] = mapR (laws_heldDeedS z0 z1) (fun r => (AV.int .i64 r,[])) :=
  xOf_eq laws_heldDeedS_i (z0,z1)
noncomputable def laws_FnExactReadScript (a0 : List UInt8) : Option ((Bool)) :=
  cnd (ile (List.length a0 : Int) 1048576) (
   bnd (spec_ReadScript a0) fun (w2,w3,w4,w5) =>
   bnd (impl_ReadScript a0) fun (w7,w8,w9,w10) =>
   cnd (ieq w7 w2) (
    cnd (ieq w8 w3) (
     bnd (laws_eqDeedS w10 w4) fun v11 =>
     cnd v11 (
      cnd (ieq w9 w5) (
       bnd (laws_markDeedS 1 w10) fun (w13,w14) =>
       bnd (laws_heldDeedS w14 1) fun v15 =>
       cnd (ile 0 v15) (
        cnd (ieq v15 w13) (
         some true) (
         some false)) (
        some false)) (
       some false)) (
      some false)) (
     some false)) (
    some false)) (
   some true)
noncomputable def laws_FnExactReadScript_e (q : (List UInt8)) : List AV × List Ob := ([AV.str (bs q)],[])
noncomputable def laws_FnExactReadScript_v (q : (List UInt8)) (r : (Bool)) : AV × List Ob := (AV.bool r,[])
noncomputable def laws_FnExactReadScript_x : List AV → List Ob → Option (AV × List Ob) := xOf laws_FnExactReadScript_e (fun q => laws_FnExactReadScript q) laws_FnExactReadScript_v
theorem laws_FnExactReadScript_i : ∀ a b,laws_FnExactReadScript_e a = laws_FnExactReadScript_e b → a = b := by rintro x0 y0 h; simp [laws_FnExactReadScript_e] at h; simp [h]
@[simp] theorem laws_FnExactReadScript_k (z0 : List UInt8) : laws_FnExactReadScript_x [AV.str (bs z0)] [] = mapR (laws_FnExactReadScript z0) (fun r => (AV.bool r,[])) :=
  xOf_eq laws_FnExactReadScript_i z0
end Go.Proofs.YtapchldnmkfkoabDoor.Am
