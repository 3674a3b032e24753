import Derived.Test.YtfhglldoejeedaaAmT2Ty
set_option linter.unusedVariables false
set_option linter.unusedSimpArgs false
set_option linter.unusedSectionVars false
namespace Go.Proofs.Ytfhglldoejeedaa.Am
open Go Go.Proofs
set_option maxRecDepth 100000
set_option linter.unusedSimpArgs false
set_option linter.unusedVariables false
set_option maxHeartbeats 4000000
/-! laws_big: function 21 -/
noncomputable def laws_big (a0 : List Int) : Option ((Bool)) :=
  some (!(ile (List.length a0 : Int) 1048576))
noncomputable def laws_big_e (q : (List Int)) : List AV × List Ob := ([AV.fsl (List.map (AV.int .u8) q)], [])
noncomputable def laws_big_v (q : (List Int)) (r : (Bool)) : AV × List Ob := (AV.bool r, [])
noncomputable def laws_big_x : List AV → List Ob → Option (AV × List Ob) := xOf laws_big_e (fun q => laws_big q) laws_big_v
theorem laws_big_i : ∀ a b, laws_big_e a = laws_big_e b → a = b := by rintro x0 y0 h; simp [laws_big_e] at h; simp [h]
@[simp] theorem laws_big_k (z0 : List Int) : laws_big_x [AV.fsl (List.map (AV.int .u8) z0)] [] = mapR (laws_big z0) (fun r => (AV.bool r, [])) :=
  xOf_eq laws_big_i z0
/-! spec_l01New: function 94 -/
noncomputable def spec_l01New_l0 (a0 : List Int) : ((Int) × (Int)) → Option (((Int) × (Int)) ⊕ ((Int))) := fun (x2, x3) =>
  cnd (ile (List.length a0 : Int) x3) (
   some (.inr x2)) (
   cnd (ile 4000 x3) (
    some (.inr x2)) (
    bnd (idx a0 x3) fun v4 =>
    some (.inl ((andI .i64 (IntKind.i64.wrap ((IntKind.i64.wrap ((IntKind.i64.wrap (x2 * 131)) + (IntKind.i64.wrap v4))) + 7)) 1073741823), (IntKind.i64.wrap (x3 + 1))))))
noncomputable def spec_l01New_l0_S (a0 : List Int) : ((Int) × (Int)) → St := fun (x2, x3) => ⟨[(0, AV.fsl (List.map (AV.int .u8) a0)), (3, AV.int .i64 x2), (4, AV.int .i64 x3)], [], 0⟩
noncomputable def spec_l01New_l0_X (a0 : List Int) : ((Int)) → Ex × St := fun y5 => ((.exit 0), ⟨[(0, AV.fsl (List.map (AV.int .u8) a0)), (3, AV.int .i64 y5)], [], 0⟩)
noncomputable def spec_l01New (a0 : List Int) : Option ((TL01Cur)) :=
  bnd (loopI (spec_l01New_l0 a0) ((IntKind.i64.wrap (28001 + (List.length a0 : Int))), 0)) fun y5 =>
  some (TL01Cur.mk a0 0 y5)
noncomputable def spec_l01New_e (q : (List Int)) : List AV × List Ob := ([AV.fsl (List.map (AV.int .u8) q)], [])
noncomputable def spec_l01New_v (q : (List Int)) (r : (TL01Cur)) : AV × List Ob := (AV.optr 0 0 3, [Ob.box [AV.fsl (List.map (AV.int .u8) r.b), AV.int .i64 r.i, AV.int .i64 r.h]])
noncomputable def spec_l01New_x : List AV → List Ob → Option (AV × List Ob) := xOf spec_l01New_e (fun q => spec_l01New q) spec_l01New_v
theorem spec_l01New_i : ∀ a b, spec_l01New_e a = spec_l01New_e b → a = b := by rintro x0 y0 h; simp [spec_l01New_e] at h; simp [h]
@[simp] theorem spec_l01New_k (z0 : List Int) : spec_l01New_x [AV.fsl (List.map (AV.int .u8) z0)] [] = mapR (spec_l01New z0) (fun r => (AV.optr 0 0 3, [Ob.box [AV.fsl (List.map (AV.int .u8) r.b), AV.int .i64 r.i, AV.int .i64 r.h]])) :=
  xOf_eq spec_l01New_i z0
/-! spec_l01Byte: function 95 -/
noncomputable def spec_l01Byte (a0 : TL01Cur) : Option ((Int) × (TL01Cur)) :=
  cnd (ile (List.length a0.b : Int) a0.i) (
   some ((andI .i64 (xorI .i64 (shrI .i64 (IntKind.i64.wrap ((IntKind.i64.wrap (a0.h * 6364136223846793005)) + 1442695040888963407)) 33) (shrI .i64 (IntKind.i64.wrap ((IntKind.i64.wrap (a0.h * 6364136223846793005)) + 1442695040888963407)) 45)) 255), (TL01Cur.mk a0.b a0.i (IntKind.i64.wrap ((IntKind.i64.wrap (a0.h * 6364136223846793005)) + 1442695040888963407))))) (
   bnd (idx a0.b a0.i) fun v1 =>
   some ((andI .i64 (IntKind.i64.wrap ((andI .i64 (xorI .i64 (shrI .i64 (IntKind.i64.wrap ((IntKind.i64.wrap (a0.h * 6364136223846793005)) + 1442695040888963407)) 33) (shrI .i64 (IntKind.i64.wrap ((IntKind.i64.wrap (a0.h * 6364136223846793005)) + 1442695040888963407)) 45)) 255) + (IntKind.i64.wrap v1))) 255), (TL01Cur.mk a0.b (IntKind.i64.wrap (a0.i + 1)) (IntKind.i64.wrap ((IntKind.i64.wrap (a0.h * 6364136223846793005)) + 1442695040888963407)))))
noncomputable def spec_l01Byte_e (q : (TL01Cur)) : List AV × List Ob := ([AV.optr 0 0 3], [Ob.box [AV.fsl (List.map (AV.int .u8) q.b), AV.int .i64 q.i, AV.int .i64 q.h]])
noncomputable def spec_l01Byte_v (q : (TL01Cur)) (r : (Int) × (TL01Cur)) : AV × List Ob := (AV.int .i64 r.1, [Ob.box [AV.fsl (List.map (AV.int .u8) r.2.b), AV.int .i64 r.2.i, AV.int .i64 r.2.h]])
noncomputable def spec_l01Byte_x : List AV → List Ob → Option (AV × List Ob) := xOf spec_l01Byte_e (fun q => spec_l01Byte q) spec_l01Byte_v
theorem spec_l01Byte_i : ∀ a b, spec_l01Byte_e a = spec_l01Byte_e b → a = b := by rintro ⟨x0, x1, x2⟩ ⟨y0, y1, y2⟩ h; simp [spec_l01Byte_e] at h; simp [h]
@[simp] theorem spec_l01Byte_k (z0 : List Int) (z1 : Int) (z2 : Int) : spec_l01Byte_x [AV.optr 0 0 3] [Ob.box [AV.fsl (List.map (AV.int .u8) z0), AV.int .i64 z1, AV.int .i64 z2]] = mapR (spec_l01Byte ⟨z0, z1, z2⟩) (fun r => (AV.int .i64 r.1, [Ob.box [AV.fsl (List.map (AV.int .u8) r.2.b), AV.int .i64 r.2.i, AV.int .i64 r.2.h]])) :=
  xOf_eq spec_l01Byte_i ⟨z0, z1, z2⟩
/-! spec_l01Below: function 96 -/
noncomputable def spec_l01Below (a0 : Int) (a1 : TL01Cur) : Option ((Int) × (TL01Cur)) :=
  cnd (ile a0 0) (
   some (0, a1)) (
   cnd (ile a0 256) (
    bnd (spec_l01Byte a1) fun (w2, w3) =>
    chkP (¬ a0 = 0) (
    some ((Int.tmod w2 a0), w3))) (
    bnd (spec_l01Byte a1) fun (w5, w6) =>
    bnd (spec_l01Byte w6) fun (w8, w9) =>
    bnd (spec_l01Byte w9) fun (w11, w12) =>
    bnd (spec_l01Byte w12) fun (w14, w15) =>
    chkP (¬ a0 = 0) (
    some ((Int.tmod (IntKind.i64.wrap ((IntKind.i64.wrap ((IntKind.i64.wrap ((IntKind.i64.wrap (w5 * 16777216)) + (IntKind.i64.wrap (w8 * 65536)))) + (IntKind.i64.wrap (w11 * 256)))) + w14)) a0), w15))))
noncomputable def spec_l01Below_e (q : (Int) × (TL01Cur)) : List AV × List Ob := ([AV.optr 0 0 3, AV.int .i64 q.1], [Ob.box [AV.fsl (List.map (AV.int .u8) q.2.b), AV.int .i64 q.2.i, AV.int .i64 q.2.h]])
noncomputable def spec_l01Below_v (q : (Int) × (TL01Cur)) (r : (Int) × (TL01Cur)) : AV × List Ob := (AV.int .i64 r.1, [Ob.box [AV.fsl (List.map (AV.int .u8) r.2.b), AV.int .i64 r.2.i, AV.int .i64 r.2.h]])
noncomputable def spec_l01Below_x : List AV → List Ob → Option (AV × List Ob) := xOf spec_l01Below_e (fun q => spec_l01Below q.1 q.2) spec_l01Below_v
theorem spec_l01Below_i : ∀ a b, spec_l01Below_e a = spec_l01Below_e b → a = b := by rintro ⟨x0, ⟨x1, x2, x3⟩⟩ ⟨y0, ⟨y1, y2, y3⟩⟩ h; simp [spec_l01Below_e] at h; simp [h]
@[simp] theorem spec_l01Below_k (z0 : Int) (z1 : List Int) (z2 : Int) (z3 : Int) : spec_l01Below_x [AV.optr 0 0 3, AV.int .i64 z0] [Ob.box [AV.fsl (List.map (AV.int .u8) z1), AV.int .i64 z2, AV.int .i64 z3]] = mapR (spec_l01Below z0 ⟨z1, z2, z3⟩) (fun r => (AV.int .i64 r.1, [Ob.box [AV.fsl (List.map (AV.int .u8) r.2.b), AV.int .i64 r.2.i, AV.int .i64 r.2.h]])) :=
  xOf_eq spec_l01Below_i (z0, ⟨z1, z2, z3⟩)
/-! spec_DrawPlaces: function 22 -/
noncomputable def spec_DrawPlaces_l0  : ((Int) × (List Int) × (Int) × (Int) × (List Int)) → Option (((Int) × (List Int) × (Int) × (Int) × (List Int)) ⊕ ((List Int))) := fun (x8, x9, x10, x11, x12) =>
  cnd (ile 12 x8) (
   some (.inr x12)) (
   bnd (spec_l01Below 10000 (TL01Cur.mk x9 x10 x11)) fun (w14, w15) =>
   chkP ((List.length x12 + 1) * 8 ≤ 17592186044416) (
   nam ((x12 ++ [w14]) : List Int) fun l16 =>
   some (.inl ((IntKind.i64.wrap (x8 + 1)), w15.b, w15.i, w15.h, l16))))
noncomputable def spec_DrawPlaces_l0_S  : ((Int) × (List Int) × (Int) × (Int) × (List Int)) → St := fun (x8, x9, x10, x11, x12) => ⟨[(3, AV.optr 0 0 3), (4, AV.osl 1 0 (List.length x12) (List.length x12)), (5, AV.int .i64 x8)], [(0, Ob.box [AV.fsl (List.map (AV.int .u8) x9), AV.int .i64 x10, AV.int .i64 x11]), (1, Ob.arr 1 (List.map (AV.int .i64) x12) false)], 2⟩
noncomputable def spec_DrawPlaces_l0_X  : ((List Int)) → Ex × St := fun y17 => ((.exit 0), ⟨[(4, AV.osl 0 0 (List.length y17) (List.length y17))], [(0, Ob.arr 1 (List.map (AV.int .i64) y17) false)], 1⟩)
noncomputable def spec_DrawPlaces (a0 : List Int) : Option ((List Int)) :=
  bnd (spec_l01New a0) fun v1 =>
  bnd (spec_l01Byte v1) fun (w3, w4) =>
  bnd (loopI spec_DrawPlaces_l0 (0, w4.b, w4.i, w4.h, [])) fun y17 =>
  some y17
noncomputable def spec_DrawPlaces_e (q : (List Int)) : List AV × List Ob := ([AV.fsl (List.map (AV.int .u8) q)], [])
noncomputable def spec_DrawPlaces_v (q : (List Int)) (r : (List Int)) : AV × List Ob := (AV.fsl (List.map (AV.int .i64) r), [])
noncomputable def spec_DrawPlaces_x : List AV → List Ob → Option (AV × List Ob) := xOf spec_DrawPlaces_e (fun q => spec_DrawPlaces q) spec_DrawPlaces_v
theorem spec_DrawPlaces_i : ∀ a b, spec_DrawPlaces_e a = spec_DrawPlaces_e b → a = b := by rintro x0 y0 h; simp [spec_DrawPlaces_e] at h; simp [h]
@[simp] theorem spec_DrawPlaces_k (z0 : List Int) : spec_DrawPlaces_x [AV.fsl (List.map (AV.int .u8) z0)] [] = mapR (spec_DrawPlaces z0) (fun r => (AV.fsl (List.map (AV.int .i64) r), [])) :=
  xOf_eq spec_DrawPlaces_i z0
/-! impl_inRange: function 92 -/
noncomputable def impl_inRange (a0 : Int) (a1 : Int) (a2 : Int) : Option ((Bool)) :=
  cnd (ile a1 a0) (
   some (ile a0 a2)) (
   some false)
noncomputable def impl_inRange_e (q : (Int) × (Int) × (Int)) : List AV × List Ob := ([AV.int .i64 q.1, AV.int .i64 q.2.1, AV.int .i64 q.2.2], [])
noncomputable def impl_inRange_v (q : (Int) × (Int) × (Int)) (r : (Bool)) : AV × List Ob := (AV.bool r, [])
noncomputable def impl_inRange_x : List AV → List Ob → Option (AV × List Ob) := xOf impl_inRange_e (fun q => impl_inRange q.1 q.2.1 q.2.2) impl_inRange_v
theorem impl_inRange_i : ∀ a b, impl_inRange_e a = impl_inRange_e b → a = b := by rintro ⟨x0, x1, x2⟩ ⟨y0, y1, y2⟩ h; simp [impl_inRange_e] at h; simp [h]
@[simp] theorem impl_inRange_k (z0 : Int) (z1 : Int) (z2 : Int) : impl_inRange_x [AV.int .i64 z0, AV.int .i64 z1, AV.int .i64 z2] [] = mapR (impl_inRange z0 z1 z2) (fun r => (AV.bool r, [])) :=
  xOf_eq impl_inRange_i (z0, z1, z2)
/-! impl_isSide: function 90 -/
noncomputable def impl_isSide (a0 : Int) : Option ((Bool)) :=
  bnd (impl_inRange a0 1 12) fun v1 =>
  some v1
noncomputable def impl_isSide_e (q : (Int)) : List AV × List Ob := ([AV.int .i64 q], [])
noncomputable def impl_isSide_v (q : (Int)) (r : (Bool)) : AV × List Ob := (AV.bool r, [])
noncomputable def impl_isSide_x : List AV → List Ob → Option (AV × List Ob) := xOf impl_isSide_e (fun q => impl_isSide q) impl_isSide_v
theorem impl_isSide_i : ∀ a b, impl_isSide_e a = impl_isSide_e b → a = b := by rintro x0 y0 h; simp [impl_isSide_e] at h; simp [h]
@[simp] theorem impl_isSide_k (z0 : Int) : impl_isSide_x [AV.int .i64 z0] [] = mapR (impl_isSide z0) (fun r => (AV.bool r, [])) :=
  xOf_eq impl_isSide_i z0
/-! impl_tilesAlong: function 91 -/
noncomputable def impl_tilesAlong (a0 : Int) : Option ((Int)) :=
  some (IntKind.i64.wrap (Int.tdiv (IntKind.i64.wrap ((IntKind.i64.wrap (a0 + 4)) - 1)) 4))
noncomputable def impl_tilesAlong_e (q : (Int)) : List AV × List Ob := ([AV.int .i64 q], [])
noncomputable def impl_tilesAlong_v (q : (Int)) (r : (Int)) : AV × List Ob := (AV.int .i64 r, [])
noncomputable def impl_tilesAlong_x : List AV → List Ob → Option (AV × List Ob) := xOf impl_tilesAlong_e (fun q => impl_tilesAlong q) impl_tilesAlong_v
theorem impl_tilesAlong_i : ∀ a b, impl_tilesAlong_e a = impl_tilesAlong_e b → a = b := by rintro x0 y0 h; simp [impl_tilesAlong_e] at h; simp [h]
@[simp] theorem impl_tilesAlong_k (z0 : Int) : impl_tilesAlong_x [AV.int .i64 z0] [] = mapR (impl_tilesAlong z0) (fun r => (AV.int .i64 r, [])) :=
  xOf_eq impl_tilesAlong_i z0
/-! impl_TileCount: function 17 -/
noncomputable def impl_TileCount (a0 : Int) (a1 : Int) : Option ((Int)) :=
  bnd (impl_isSide a0) fun v1 =>
  cnd v1 (
   bnd (impl_isSide a1) fun v2 =>
   cnd v2 (
    bnd (impl_tilesAlong a0) fun v3 =>
    bnd (impl_tilesAlong a1) fun v4 =>
    some (IntKind.i64.wrap (v3 * v4))) (
    some 0)) (
   some 0)
noncomputable def impl_TileCount_e (q : (Int) × (Int)) : List AV × List Ob := ([AV.int .i64 q.1, AV.int .i64 q.2], [])
noncomputable def impl_TileCount_v (q : (Int) × (Int)) (r : (Int)) : AV × List Ob := (AV.int .i64 r, [])
noncomputable def impl_TileCount_x : List AV → List Ob → Option (AV × List Ob) := xOf impl_TileCount_e (fun q => impl_TileCount q.1 q.2) impl_TileCount_v
theorem impl_TileCount_i : ∀ a b, impl_TileCount_e a = impl_TileCount_e b → a = b := by rintro ⟨x0, x1⟩ ⟨y0, y1⟩ h; simp [impl_TileCount_e] at h; simp [h]
@[simp] theorem impl_TileCount_k (z0 : Int) (z1 : Int) : impl_TileCount_x [AV.int .i64 z0, AV.int .i64 z1] [] = mapR (impl_TileCount z0 z1) (fun r => (AV.int .i64 r, [])) :=
  xOf_eq impl_TileCount_i (z0, z1)
/-! impl_Empty: function 190 -/
noncomputable def impl_Empty (a0 : TBox) : Option ((Bool)) :=
  cnd (ile a0.x1 a0.x0) (
   some true) (
   some (ile a0.y1 a0.y0))
noncomputable def impl_Empty_e (q : (TBox)) : List AV × List Ob := ([AV.agg [AV.int .i64 q.x0, AV.int .i64 q.y0, AV.int .i64 q.x1, AV.int .i64 q.y1]], [])
noncomputable def impl_Empty_v (q : (TBox)) (r : (Bool)) : AV × List Ob := (AV.bool r, [])
noncomputable def impl_Empty_x : List AV → List Ob → Option (AV × List Ob) := xOf impl_Empty_e (fun q => impl_Empty q) impl_Empty_v
theorem impl_Empty_i : ∀ a b, impl_Empty_e a = impl_Empty_e b → a = b := by rintro ⟨x0, x1, x2, x3⟩ ⟨y0, y1, y2, y3⟩ h; simp [impl_Empty_e] at h; simp [h]
@[simp] theorem impl_Empty_k (z0 : Int) (z1 : Int) (z2 : Int) (z3 : Int) : impl_Empty_x [AV.agg [AV.int .i64 z0, AV.int .i64 z1, AV.int .i64 z2, AV.int .i64 z3]] [] = mapR (impl_Empty ⟨z0, z1, z2, z3⟩) (fun r => (AV.bool r, [])) :=
  xOf_eq impl_Empty_i ⟨z0, z1, z2, z3⟩
/-! impl_MeetBox: function 93 -/
noncomputable def impl_MeetBox (a0 : TBox) (a1 : TBox) : Option ((TBox)) :=
  bnd (impl_Empty (TBox.mk (max a0.x0 a1.x0) (max a0.y0 a1.y0) (min a0.x1 a1.x1) (min a0.y1 a1.y1))) fun v1 =>
  cnd v1 (
   some (TBox.mk 0 0 0 0)) (
   some (TBox.mk (max a0.x0 a1.x0) (max a0.y0 a1.y0) (min a0.x1 a1.x1) (min a0.y1 a1.y1)))
noncomputable def impl_MeetBox_e (q : (TBox) × (TBox)) : List AV × List Ob := ([AV.agg [AV.int .i64 q.1.x0, AV.int .i64 q.1.y0, AV.int .i64 q.1.x1, AV.int .i64 q.1.y1], AV.agg [AV.int .i64 q.2.x0, AV.int .i64 q.2.y0, AV.int .i64 q.2.x1, AV.int .i64 q.2.y1]], [])
noncomputable def impl_MeetBox_v (q : (TBox) × (TBox)) (r : (TBox)) : AV × List Ob := (AV.agg [AV.int .i64 r.x0, AV.int .i64 r.y0, AV.int .i64 r.x1, AV.int .i64 r.y1], [])
noncomputable def impl_MeetBox_x : List AV → List Ob → Option (AV × List Ob) := xOf impl_MeetBox_e (fun q => impl_MeetBox q.1 q.2) impl_MeetBox_v
theorem impl_MeetBox_i : ∀ a b, impl_MeetBox_e a = impl_MeetBox_e b → a = b := by rintro ⟨⟨x0, x1, x2, x3⟩, ⟨x4, x5, x6, x7⟩⟩ ⟨⟨y0, y1, y2, y3⟩, ⟨y4, y5, y6, y7⟩⟩ h; simp [impl_MeetBox_e] at h; simp [h]
@[simp] theorem impl_MeetBox_k (z0 : Int) (z1 : Int) (z2 : Int) (z3 : Int) (z4 : Int) (z5 : Int) (z6 : Int) (z7 : Int) : impl_MeetBox_x [AV.agg [AV.int .i64 z0, AV.int .i64 z1, AV.int .i64 z2, AV.int .i64 z3], AV.agg [AV.int .i64 z4, AV.int .i64 z5, AV.int .i64 z6, AV.int .i64 z7]] [] = mapR (impl_MeetBox ⟨z0, z1, z2, z3⟩ ⟨z4, z5, z6, z7⟩) (fun r => (AV.agg [AV.int .i64 r.x0, AV.int .i64 r.y0, AV.int .i64 r.x1, AV.int .i64 r.y1], [])) :=
  xOf_eq impl_MeetBox_i (⟨z0, z1, z2, z3⟩, ⟨z4, z5, z6, z7⟩)
/-! impl_TileBox: function 19 -/
noncomputable def impl_TileBox (a0 : Int) (a1 : Int) (a2 : Int) : Option ((TBox)) :=
  bnd (impl_TileCount a0 a1) fun v1 =>
  bnd (impl_inRange a2 0 (IntKind.i64.wrap (v1 - 1))) fun v2 =>
  cnd v2 (
   bnd (impl_tilesAlong a0) fun v3 =>
   chkP (¬ v3 = 0) (
   bnd (impl_MeetBox (TBox.mk (IntKind.i64.wrap ((Int.tmod a2 v3) * 4)) (IntKind.i64.wrap ((IntKind.i64.wrap (Int.tdiv a2 v3)) * 4)) (IntKind.i64.wrap ((IntKind.i64.wrap ((Int.tmod a2 v3) * 4)) + 4)) (IntKind.i64.wrap ((IntKind.i64.wrap ((IntKind.i64.wrap (Int.tdiv a2 v3)) * 4)) + 4))) (TBox.mk 0 0 a0 a1)) fun v4 =>
   some v4)) (
   some (TBox.mk 0 0 0 0))
noncomputable def impl_TileBox_e (q : (Int) × (Int) × (Int)) : List AV × List Ob := ([AV.int .i64 q.1, AV.int .i64 q.2.1, AV.int .i64 q.2.2], [])
noncomputable def impl_TileBox_v (q : (Int) × (Int) × (Int)) (r : (TBox)) : AV × List Ob := (AV.agg [AV.int .i64 r.x0, AV.int .i64 r.y0, AV.int .i64 r.x1, AV.int .i64 r.y1], [])
noncomputable def impl_TileBox_x : List AV → List Ob → Option (AV × List Ob) := xOf impl_TileBox_e (fun q => impl_TileBox q.1 q.2.1 q.2.2) impl_TileBox_v
theorem impl_TileBox_i : ∀ a b, impl_TileBox_e a = impl_TileBox_e b → a = b := by rintro ⟨x0, x1, x2⟩ ⟨y0, y1, y2⟩ h; simp [impl_TileBox_e] at h; simp [h]
@[simp] theorem impl_TileBox_k (z0 : Int) (z1 : Int) (z2 : Int) : impl_TileBox_x [AV.int .i64 z0, AV.int .i64 z1, AV.int .i64 z2] [] = mapR (impl_TileBox z0 z1 z2) (fun r => (AV.agg [AV.int .i64 r.x0, AV.int .i64 r.y0, AV.int .i64 r.x1, AV.int .i64 r.y1], [])) :=
  xOf_eq impl_TileBox_i (z0, z1, z2)
/-! spec_InBox: function 23 -/
noncomputable def spec_InBox (a0 : TBox) (a1 : TPoint) : Option ((Bool)) :=
  cnd (ile a0.x0 a1.x) (
   cnd (ile a0.x1 a1.x) (
    some false) (
    cnd (ile a0.y0 a1.y) (
     some (!(ile a0.y1 a1.y))) (
     some false))) (
   some false)
noncomputable def spec_InBox_e (q : (TBox) × (TPoint)) : List AV × List Ob := ([AV.agg [AV.int .i64 q.1.x0, AV.int .i64 q.1.y0, AV.int .i64 q.1.x1, AV.int .i64 q.1.y1], AV.agg [AV.int .i64 q.2.x, AV.int .i64 q.2.y]], [])
noncomputable def spec_InBox_v (q : (TBox) × (TPoint)) (r : (Bool)) : AV × List Ob := (AV.bool r, [])
noncomputable def spec_InBox_x : List AV → List Ob → Option (AV × List Ob) := xOf spec_InBox_e (fun q => spec_InBox q.1 q.2) spec_InBox_v
theorem spec_InBox_i : ∀ a b, spec_InBox_e a = spec_InBox_e b → a = b := by rintro ⟨⟨x0, x1, x2, x3⟩, ⟨x4, x5⟩⟩ ⟨⟨y0, y1, y2, y3⟩, ⟨y4, y5⟩⟩ h; simp [spec_InBox_e] at h; simp [h]
@[simp] theorem spec_InBox_k (z0 : Int) (z1 : Int) (z2 : Int) (z3 : Int) (z4 : Int) (z5 : Int) : spec_InBox_x [AV.agg [AV.int .i64 z0, AV.int .i64 z1, AV.int .i64 z2, AV.int .i64 z3], AV.agg [AV.int .i64 z4, AV.int .i64 z5]] [] = mapR (spec_InBox ⟨z0, z1, z2, z3⟩ ⟨z4, z5⟩) (fun r => (AV.bool r, [])) :=
  xOf_eq spec_InBox_i (⟨z0, z1, z2, z3⟩, ⟨z4, z5⟩)
/-! spec_DrawBoxes: function 24 -/
noncomputable def spec_DrawBoxes (a0 : List Int) : Option ((TBox) × (TBox) × (TPoint)) :=
  bnd (spec_l01New a0) fun v1 =>
  bnd (spec_l01Below 9 v1) fun (w3, w4) =>
  bnd (spec_l01Below 9 w4) fun (w6, w7) =>
  bnd (spec_l01Below 9 w7) fun (w9, w10) =>
  bnd (spec_l01Below 9 w10) fun (w12, w13) =>
  bnd (spec_l01Below 9 w13) fun (w15, w16) =>
  bnd (spec_l01Below 9 w16) fun (w18, w19) =>
  bnd (spec_l01Below 9 w19) fun (w21, w22) =>
  bnd (spec_l01Below 9 w22) fun (w24, w25) =>
  bnd (spec_l01Below 18 w25) fun (w27, w28) =>
  bnd (spec_l01Below 18 w28) fun (w30, w31) =>
  some ((TBox.mk w3 w6 (IntKind.i64.wrap (w3 + w9)) (IntKind.i64.wrap (w6 + w12))), (TBox.mk w15 w18 (IntKind.i64.wrap (w15 + w21)) (IntKind.i64.wrap (w18 + w24))), (TPoint.mk w27 w30))
noncomputable def spec_DrawBoxes_e (q : (List Int)) : List AV × List Ob := ([AV.fsl (List.map (AV.int .u8) q)], [])
noncomputable def spec_DrawBoxes_v (q : (List Int)) (r : (TBox) × (TBox) × (TPoint)) : AV × List Ob := (AV.tup [AV.agg [AV.int .i64 r.1.x0, AV.int .i64 r.1.y0, AV.int .i64 r.1.x1, AV.int .i64 r.1.y1], AV.agg [AV.int .i64 r.2.1.x0, AV.int .i64 r.2.1.y0, AV.int .i64 r.2.1.x1, AV.int .i64 r.2.1.y1], AV.agg [AV.int .i64 r.2.2.x, AV.int .i64 r.2.2.y]], [])
noncomputable def spec_DrawBoxes_x : List AV → List Ob → Option (AV × List Ob) := xOf spec_DrawBoxes_e (fun q => spec_DrawBoxes q) spec_DrawBoxes_v
theorem spec_DrawBoxes_i : ∀ a b, spec_DrawBoxes_e a = spec_DrawBoxes_e b → a = b := by rintro x0 y0 h; simp [spec_DrawBoxes_e] at h; simp [h]
@[simp] theorem spec_DrawBoxes_k (z0 : List Int) : spec_DrawBoxes_x [AV.fsl (List.map (AV.int .u8) z0)] [] = mapR (spec_DrawBoxes z0) (fun r => (AV.tup [AV.agg [AV.int .i64 r.1.x0, AV.int .i64 r.1.y0, AV.int .i64 r.1.x1, AV.int .i64 r.1.y1], AV.agg [AV.int .i64 r.2.1.x0, AV.int .i64 r.2.1.y0, AV.int .i64 r.2.1.x1, AV.int .i64 r.2.1.y1], AV.agg [AV.int .i64 r.2.2.x, AV.int .i64 r.2.2.y]], [])) :=
  xOf_eq spec_DrawBoxes_i z0
/-! impl_meetsAny: function 97 -/
noncomputable def impl_meetsAny_l0 (a0 : TBox) (a1 : List TBox) : ((Int)) → Option (((Int)) ⊕ ((Unit) ⊕ (Unit))) := fun x4 =>
  cnd (ile (List.length a1 : Int) x4) (
   some (.inr (.inl ()))) (
   bnd (idx a1 x4) fun v5 =>
   bnd (impl_MeetBox a0 v5) fun v6 =>
   bnd (impl_Empty v6) fun v7 =>
   cnd v7 (
    some (.inl (IntKind.i64.wrap (x4 + 1)))) (
    some (.inr (.inr ()))))
noncomputable def impl_meetsAny_l0_S (a0 : TBox) (a1 : List TBox) : ((Int)) → St := fun x4 => ⟨[(2, AV.optr 0 0 4), (7, AV.fsl (List.map eBox a1)), (8, AV.int .i64 (List.length a1 : Int)), (9, AV.int .i64 x4)], [(0, Ob.box [AV.int .i64 a0.x0, AV.int .i64 a0.y0, AV.int .i64 a0.x1, AV.int .i64 a0.y1])], 1⟩
noncomputable def impl_meetsAny_l0_X (a0 : TBox) (a1 : List TBox) : ((Unit) ⊕ (Unit)) → Ex × St := fun q => match q with
  | .inl _ => ((.exit 0), ⟨[], [], 0⟩)
  | .inr _ => (.ret, ⟨[(4, AV.bool true)], [], 0⟩)
noncomputable def impl_meetsAny (a0 : TBox) (a1 : List TBox) : Option ((Bool)) :=
  bnd (loopI (impl_meetsAny_l0 a0 a1) 0) fun q => match q with
  | .inl () =>
   some false
  | .inr () =>
   some true
noncomputable def impl_meetsAny_e (q : (TBox) × (List TBox)) : List AV × List Ob := ([AV.agg [AV.int .i64 q.1.x0, AV.int .i64 q.1.y0, AV.int .i64 q.1.x1, AV.int .i64 q.1.y1], AV.fsl (List.map eBox q.2)], [])
noncomputable def impl_meetsAny_v (q : (TBox) × (List TBox)) (r : (Bool)) : AV × List Ob := (AV.bool r, [])
noncomputable def impl_meetsAny_x : List AV → List Ob → Option (AV × List Ob) := xOf impl_meetsAny_e (fun q => impl_meetsAny q.1 q.2) impl_meetsAny_v
theorem impl_meetsAny_i : ∀ a b, impl_meetsAny_e a = impl_meetsAny_e b → a = b := by rintro ⟨⟨x0, x1, x2, x3⟩, x4⟩ ⟨⟨y0, y1, y2, y3⟩, y4⟩ h; simp [impl_meetsAny_e] at h; simp [h]
@[simp] theorem impl_meetsAny_k (z0 : Int) (z1 : Int) (z2 : Int) (z3 : Int) (z4 : List TBox) : impl_meetsAny_x [AV.agg [AV.int .i64 z0, AV.int .i64 z1, AV.int .i64 z2, AV.int .i64 z3], AV.fsl (List.map eBox z4)] [] = mapR (impl_meetsAny ⟨z0, z1, z2, z3⟩ z4) (fun r => (AV.bool r, [])) :=
  xOf_eq impl_meetsAny_i (⟨z0, z1, z2, z3⟩, z4)
/-! impl_TilesOf: function 25 -/
noncomputable def impl_TilesOf_l0 (a0 : Int) (a1 : Int) (a2 : List TBox) (v1 : Int) : ((List Int) × (Int)) → Option (((List Int) × (Int)) ⊕ ((List Int))) := fun (x4, x5) =>
  cnd (ile v1 x5) (
   some (.inr x4)) (
   bnd (impl_TileBox a0 a1 x5) fun v6 =>
   bnd (impl_meetsAny v6 a2) fun v7 =>
   cnd v7 (
    chkP ((List.length x4 + 1) * 8 ≤ 17592186044416) (
    nam ((x4 ++ [x5]) : List Int) fun l8 =>
    some (.inl (l8, (IntKind.i64.wrap (x5 + 1)))))) (
    some (.inl (x4, (IntKind.i64.wrap (x5 + 1))))))
noncomputable def impl_TilesOf_l0_S (a0 : Int) (a1 : Int) (a2 : List TBox) (v1 : Int) : ((List Int) × (Int)) → St := fun (x4, x5) => ⟨[(0, AV.int .i64 a0), (1, AV.int .i64 a1), (2, AV.fsl (List.map eBox a2)), (7, AV.osl 0 0 (List.length x4) (List.length x4)), (11, AV.int .i64 v1), (12, AV.int .i64 x5)], [(0, Ob.arr 1 (List.map (AV.int .i64) x4) false)], 1⟩
noncomputable def impl_TilesOf_l0_X (a0 : Int) (a1 : Int) (a2 : List TBox) (v1 : Int) : ((List Int)) → Ex × St := fun y9 => ((.exit 0), ⟨[(7, AV.osl 0 0 (List.length y9) (List.length y9))], [(0, Ob.arr 1 (List.map (AV.int .i64) y9) false)], 1⟩)
noncomputable def impl_TilesOf (a0 : Int) (a1 : Int) (a2 : List TBox) : Option ((List Int)) :=
  bnd (impl_TileCount a0 a1) fun v1 =>
  bnd (loopI (impl_TilesOf_l0 a0 a1 a2 v1) ([], 0)) fun y9 =>
  some y9
noncomputable def impl_TilesOf_e (q : (Int) × (Int) × (List TBox)) : List AV × List Ob := ([AV.int .i64 q.1, AV.int .i64 q.2.1, AV.fsl (List.map eBox q.2.2)], [])
noncomputable def impl_TilesOf_v (q : (Int) × (Int) × (List TBox)) (r : (List Int)) : AV × List Ob := (AV.fsl (List.map (AV.int .i64) r), [])
noncomputable def impl_TilesOf_x : List AV → List Ob → Option (AV × List Ob) := xOf impl_TilesOf_e (fun q => impl_TilesOf q.1 q.2.1 q.2.2) impl_TilesOf_v
theorem impl_TilesOf_i : ∀ a b, impl_TilesOf_e a = impl_TilesOf_e b → a = b := by rintro ⟨x0, x1, x2⟩ ⟨y0, y1, y2⟩ h; simp [impl_TilesOf_e] at h; simp [h]
@[simp] theorem impl_TilesOf_k (z0 : Int) (z1 : Int) (z2 : List TBox) : impl_TilesOf_x [AV.int .i64 z0, AV.int .i64 z1, AV.fsl (List.map eBox z2)] [] = mapR (impl_TilesOf z0 z1 z2) (fun r => (AV.fsl (List.map (AV.int .i64) r), [])) :=
  xOf_eq impl_TilesOf_i (z0, z1, z2)
/-! laws_in: function 26 -/
noncomputable def laws_in_l0 (a0 : List Int) (a1 : Int) : ((Int)) → Option (((Int)) ⊕ ((Unit) ⊕ (Unit))) := fun x2 =>
  cnd (ile (List.length a0 : Int) x2) (
   some (.inr (.inl ()))) (
   bnd (idx a0 x2) fun v3 =>
   cnd (ieq v3 a1) (
    some (.inr (.inr ()))) (
    some (.inl (IntKind.i64.wrap (x2 + 1)))))
noncomputable def laws_in_l0_S (a0 : List Int) (a1 : Int) : ((Int)) → St := fun x2 => ⟨[(0, AV.fsl (List.map (AV.int .i64) a0)), (1, AV.int .i64 a1), (5, AV.int .i64 x2)], [], 0⟩
noncomputable def laws_in_l0_X (a0 : List Int) (a1 : Int) : ((Unit) ⊕ (Unit)) → Ex × St := fun q => match q with
  | .inl _ => ((.exit 0), ⟨[], [], 0⟩)
  | .inr _ => (.ret, ⟨[(4, AV.bool true)], [], 0⟩)
noncomputable def laws_in (a0 : List Int) (a1 : Int) : Option ((Bool)) :=
  bnd (loopI (laws_in_l0 a0 a1) 0) fun q => match q with
  | .inl () =>
   some false
  | .inr () =>
   some true
noncomputable def laws_in_e (q : (List Int) × (Int)) : List AV × List Ob := ([AV.fsl (List.map (AV.int .i64) q.1), AV.int .i64 q.2], [])
noncomputable def laws_in_v (q : (List Int) × (Int)) (r : (Bool)) : AV × List Ob := (AV.bool r, [])
noncomputable def laws_in_x : List AV → List Ob → Option (AV × List Ob) := xOf laws_in_e (fun q => laws_in q.1 q.2) laws_in_v
theorem laws_in_i : ∀ a b, laws_in_e a = laws_in_e b → a = b := by rintro ⟨x0, x1⟩ ⟨y0, y1⟩ h; simp [laws_in_e] at h; simp [h]
@[simp] theorem laws_in_k (z0 : List Int) (z1 : Int) : laws_in_x [AV.fsl (List.map (AV.int .i64) z0), AV.int .i64 z1] [] = mapR (laws_in z0 z1) (fun r => (AV.bool r, [])) :=
  xOf_eq laws_in_i (z0, z1)
/-! spec_l05Most: function 98 -/
noncomputable def spec_l05Most (a0 : Int) (a1 : Int) : Option ((Int)) :=
  cnd (ile a0 a1) (
   some a1) (
   some a0)
noncomputable def spec_l05Most_e (q : (Int) × (Int)) : List AV × List Ob := ([AV.int .i64 q.1, AV.int .i64 q.2], [])
noncomputable def spec_l05Most_v (q : (Int) × (Int)) (r : (Int)) : AV × List Ob := (AV.int .i64 r, [])
noncomputable def spec_l05Most_x : List AV → List Ob → Option (AV × List Ob) := xOf spec_l05Most_e (fun q => spec_l05Most q.1 q.2) spec_l05Most_v
theorem spec_l05Most_i : ∀ a b, spec_l05Most_e a = spec_l05Most_e b → a = b := by rintro ⟨x0, x1⟩ ⟨y0, y1⟩ h; simp [spec_l05Most_e] at h; simp [h]
@[simp] theorem spec_l05Most_k (z0 : Int) (z1 : Int) : spec_l05Most_x [AV.int .i64 z0, AV.int .i64 z1] [] = mapR (spec_l05Most z0 z1) (fun r => (AV.int .i64 r, [])) :=
  xOf_eq spec_l05Most_i (z0, z1)
/-! spec_l05Least: function 99 -/
noncomputable def spec_l05Least (a0 : Int) (a1 : Int) : Option ((Int)) :=
  cnd (ile a1 a0) (
   some a1) (
   some a0)
noncomputable def spec_l05Least_e (q : (Int) × (Int)) : List AV × List Ob := ([AV.int .i64 q.1, AV.int .i64 q.2], [])
noncomputable def spec_l05Least_v (q : (Int) × (Int)) (r : (Int)) : AV × List Ob := (AV.int .i64 r, [])
noncomputable def spec_l05Least_x : List AV → List Ob → Option (AV × List Ob) := xOf spec_l05Least_e (fun q => spec_l05Least q.1 q.2) spec_l05Least_v
theorem spec_l05Least_i : ∀ a b, spec_l05Least_e a = spec_l05Least_e b → a = b := by rintro ⟨x0, x1⟩ ⟨y0, y1⟩ h; simp [spec_l05Least_e] at h; simp [h]
@[simp] theorem spec_l05Least_k (z0 : Int) (z1 : Int) : spec_l05Least_x [AV.int .i64 z0, AV.int .i64 z1] [] = mapR (spec_l05Least z0 z1) (fun r => (AV.int .i64 r, [])) :=
  xOf_eq spec_l05Least_i (z0, z1)
/-! spec_Empty: function 27 -/
noncomputable def spec_Empty (a0 : TBox) : Option ((Bool)) :=
  cnd (ile a0.x1 a0.x0) (
   some true) (
   some (ile a0.y1 a0.y0))
noncomputable def spec_Empty_e (q : (TBox)) : List AV × List Ob := ([AV.agg [AV.int .i64 q.x0, AV.int .i64 q.y0, AV.int .i64 q.x1, AV.int .i64 q.y1]], [])
noncomputable def spec_Empty_v (q : (TBox)) (r : (Bool)) : AV × List Ob := (AV.bool r, [])
noncomputable def spec_Empty_x : List AV → List Ob → Option (AV × List Ob) := xOf spec_Empty_e (fun q => spec_Empty q) spec_Empty_v
theorem spec_Empty_i : ∀ a b, spec_Empty_e a = spec_Empty_e b → a = b := by rintro ⟨x0, x1, x2, x3⟩ ⟨y0, y1, y2, y3⟩ h; simp [spec_Empty_e] at h; simp [h]
@[simp] theorem spec_Empty_k (z0 : Int) (z1 : Int) (z2 : Int) (z3 : Int) : spec_Empty_x [AV.agg [AV.int .i64 z0, AV.int .i64 z1, AV.int .i64 z2, AV.int .i64 z3]] [] = mapR (spec_Empty ⟨z0, z1, z2, z3⟩) (fun r => (AV.bool r, [])) :=
  xOf_eq spec_Empty_i ⟨z0, z1, z2, z3⟩
/-! spec_MeetBox: function 28 -/
noncomputable def spec_MeetBox (a0 : TBox) (a1 : TBox) : Option ((TBox)) :=
  bnd (spec_l05Most a0.x0 a1.x0) fun v1 =>
  bnd (spec_l05Most a0.y0 a1.y0) fun v2 =>
  bnd (spec_l05Least a0.x1 a1.x1) fun v3 =>
  bnd (spec_l05Least a0.y1 a1.y1) fun v4 =>
  bnd (spec_Empty (TBox.mk v1 v2 v3 v4)) fun v5 =>
  cnd v5 (
   some (TBox.mk 0 0 0 0)) (
   some (TBox.mk v1 v2 v3 v4))
noncomputable def spec_MeetBox_e (q : (TBox) × (TBox)) : List AV × List Ob := ([AV.agg [AV.int .i64 q.1.x0, AV.int .i64 q.1.y0, AV.int .i64 q.1.x1, AV.int .i64 q.1.y1], AV.agg [AV.int .i64 q.2.x0, AV.int .i64 q.2.y0, AV.int .i64 q.2.x1, AV.int .i64 q.2.y1]], [])
noncomputable def spec_MeetBox_v (q : (TBox) × (TBox)) (r : (TBox)) : AV × List Ob := (AV.agg [AV.int .i64 r.x0, AV.int .i64 r.y0, AV.int .i64 r.x1, AV.int .i64 r.y1], [])
noncomputable def spec_MeetBox_x : List AV → List Ob → Option (AV × List Ob) := xOf spec_MeetBox_e (fun q => spec_MeetBox q.1 q.2) spec_MeetBox_v
theorem spec_MeetBox_i : ∀ a b, spec_MeetBox_e a = spec_MeetBox_e b → a = b := by rintro ⟨⟨x0, x1, x2, x3⟩, ⟨x4, x5, x6, x7⟩⟩ ⟨⟨y0, y1, y2, y3⟩, ⟨y4, y5, y6, y7⟩⟩ h; simp [spec_MeetBox_e] at h; simp [h]
@[simp] theorem spec_MeetBox_k (z0 : Int) (z1 : Int) (z2 : Int) (z3 : Int) (z4 : Int) (z5 : Int) (z6 : Int) (z7 : Int) : spec_MeetBox_x [AV.agg [AV.int .i64 z0, AV.int .i64 z1, AV.int .i64 z2, AV.int .i64 z3], AV.agg [AV.int .i64 z4, AV.int .i64 z5, AV.int .i64 z6, AV.int .i64 z7]] [] = mapR (spec_MeetBox ⟨z0, z1, z2, z3⟩ ⟨z4, z5, z6, z7⟩) (fun r => (AV.agg [AV.int .i64 r.x0, AV.int .i64 r.y0, AV.int .i64 r.x1, AV.int .i64 r.y1], [])) :=
  xOf_eq spec_MeetBox_i (⟨z0, z1, z2, z3⟩, ⟨z4, z5, z6, z7⟩)
/-! spec_l01In: function 89 -/
noncomputable def spec_l01In (a0 : Int) (a1 : Int) (a2 : Int) : Option ((Bool)) :=
  cnd (ile a1 a0) (
   some (ile a0 a2)) (
   some false)
noncomputable def spec_l01In_e (q : (Int) × (Int) × (Int)) : List AV × List Ob := ([AV.int .i64 q.1, AV.int .i64 q.2.1, AV.int .i64 q.2.2], [])
noncomputable def spec_l01In_v (q : (Int) × (Int) × (Int)) (r : (Bool)) : AV × List Ob := (AV.bool r, [])
noncomputable def spec_l01In_x : List AV → List Ob → Option (AV × List Ob) := xOf spec_l01In_e (fun q => spec_l01In q.1 q.2.1 q.2.2) spec_l01In_v
theorem spec_l01In_i : ∀ a b, spec_l01In_e a = spec_l01In_e b → a = b := by rintro ⟨x0, x1, x2⟩ ⟨y0, y1, y2⟩ h; simp [spec_l01In_e] at h; simp [h]
@[simp] theorem spec_l01In_k (z0 : Int) (z1 : Int) (z2 : Int) : spec_l01In_x [AV.int .i64 z0, AV.int .i64 z1, AV.int .i64 z2] [] = mapR (spec_l01In z0 z1 z2) (fun r => (AV.bool r, [])) :=
  xOf_eq spec_l01In_i (z0, z1, z2)
/-! spec_TileCount: function 16 -/
noncomputable def spec_TileCount (a0 : Int) (a1 : Int) : Option ((Int)) :=
  bnd (spec_l01In a0 1 12) fun v1 =>
  cnd v1 (
   bnd (spec_l01In a1 1 12) fun v2 =>
   cnd v2 (
    some (IntKind.i64.wrap ((IntKind.i64.wrap (Int.tdiv (IntKind.i64.wrap (a0 + 3)) 4)) * (IntKind.i64.wrap (Int.tdiv (IntKind.i64.wrap (a1 + 3)) 4))))) (
    some 0)) (
   some 0)
noncomputable def spec_TileCount_e (q : (Int) × (Int)) : List AV × List Ob := ([AV.int .i64 q.1, AV.int .i64 q.2], [])
noncomputable def spec_TileCount_v (q : (Int) × (Int)) (r : (Int)) : AV × List Ob := (AV.int .i64 r, [])
noncomputable def spec_TileCount_x : List AV → List Ob → Option (AV × List Ob) := xOf spec_TileCount_e (fun q => spec_TileCount q.1 q.2) spec_TileCount_v
theorem spec_TileCount_i : ∀ a b, spec_TileCount_e a = spec_TileCount_e b → a = b := by rintro ⟨x0, x1⟩ ⟨y0, y1⟩ h; simp [spec_TileCount_e] at h; simp [h]
@[simp] theorem spec_TileCount_k (z0 : Int) (z1 : Int) : spec_TileCount_x [AV.int .i64 z0, AV.int .i64 z1] [] = mapR (spec_TileCount z0 z1) (fun r => (AV.int .i64 r, [])) :=
  xOf_eq spec_TileCount_i (z0, z1)
/-! laws_FnTiles: function 5 -/
noncomputable def laws_FnTiles_l0 (a0 : List Int) (v3 : Int) (v4 : Int) (v5 : Int) (x21 : Int) (x29 : Int) : ((Int) × (Int)) → Option (((Int) × (Int)) ⊕ ((Int))) := fun (x32, x33) =>
  cnd (ile v5 x33) (
   some (.inr x32)) (
   bnd (impl_TileBox (IntKind.i64.wrap (1 + (Int.tmod v3 12))) (IntKind.i64.wrap (1 + (Int.tmod v4 12))) x33) fun v34 =>
   bnd (spec_InBox v34 (TPoint.mk x29 x21)) fun v35 =>
   cnd v35 (
    some (.inl ((IntKind.i64.wrap (x32 + 1)), (IntKind.i64.wrap (x33 + 1))))) (
    some (.inl (x32, (IntKind.i64.wrap (x33 + 1))))))
noncomputable def laws_FnTiles_l0_S (a0 : List Int) (v3 : Int) (v4 : Int) (v5 : Int) (x21 : Int) (x29 : Int) : ((Int) × (Int)) → St := fun (x32, x33) => ⟨[(0, AV.fsl (List.map (AV.int .u8) a0)), (4, AV.int .i64 (IntKind.i64.wrap (1 + (Int.tmod v3 12)))), (5, AV.int .i64 (IntKind.i64.wrap (1 + (Int.tmod v4 12)))), (6, AV.int .i64 v5), (7, AV.int .i64 x21), (8, AV.int .i64 x29), (9, AV.int .i64 x32), (10, AV.int .i64 x33)], [], 0⟩
noncomputable def laws_FnTiles_l0_X (a0 : List Int) (v3 : Int) (v4 : Int) (v5 : Int) (x21 : Int) (x29 : Int) : ((Int)) → Ex × St := fun y36 => ((.exit 4), ⟨[(0, AV.fsl (List.map (AV.int .u8) a0)), (4, AV.int .i64 (IntKind.i64.wrap (1 + (Int.tmod v3 12)))), (5, AV.int .i64 (IntKind.i64.wrap (1 + (Int.tmod v4 12)))), (6, AV.int .i64 v5), (7, AV.int .i64 x21), (8, AV.int .i64 x29), (9, AV.int .i64 y36)], [], 0⟩)
noncomputable def laws_FnTiles_l1 (a0 : List Int) (v3 : Int) (v4 : Int) (v5 : Int) (x21 : Int) : ((Int)) → Option (((Int)) ⊕ ((Unit) ⊕ (Unit))) := fun x29 =>
  cnd (ile (IntKind.i64.wrap (1 + (Int.tmod v3 12))) x29) (
   some (.inr (.inl ()))) (
   bnd (loopI (laws_FnTiles_l0 a0 v3 v4 v5 x21 x29) (0, 0)) fun y36 =>
   cnd (ieq y36 1) (
    some (.inl (IntKind.i64.wrap (x29 + 1)))) (
    some (.inr (.inr ()))))
noncomputable def laws_FnTiles_l1_S (a0 : List Int) (v3 : Int) (v4 : Int) (v5 : Int) (x21 : Int) : ((Int)) → St := fun x29 => ⟨[(0, AV.fsl (List.map (AV.int .u8) a0)), (4, AV.int .i64 (IntKind.i64.wrap (1 + (Int.tmod v3 12)))), (5, AV.int .i64 (IntKind.i64.wrap (1 + (Int.tmod v4 12)))), (6, AV.int .i64 v5), (7, AV.int .i64 x21), (8, AV.int .i64 x29)], [], 0⟩
noncomputable def laws_FnTiles_l1_X (a0 : List Int) (v3 : Int) (v4 : Int) (v5 : Int) (x21 : Int) : ((Unit) ⊕ (Unit)) → Ex × St := fun q => match q with
  | .inl _ => ((.exit 2), ⟨[(0, AV.fsl (List.map (AV.int .u8) a0)), (4, AV.int .i64 (IntKind.i64.wrap (1 + (Int.tmod v3 12)))), (5, AV.int .i64 (IntKind.i64.wrap (1 + (Int.tmod v4 12)))), (6, AV.int .i64 v5), (7, AV.int .i64 x21)], [], 0⟩)
  | .inr _ => (.ret, ⟨[(2, AV.bool false)], [], 0⟩)
noncomputable def laws_FnTiles_l2 (a0 : List Int) (v3 : Int) (v4 : Int) (v5 : Int) : ((Int)) → Option (((Int)) ⊕ ((Unit) ⊕ (Unit))) := fun x21 =>
  cnd (ile (IntKind.i64.wrap (1 + (Int.tmod v4 12))) x21) (
   some (.inr (.inl ()))) (
   bnd (loopI (laws_FnTiles_l1 a0 v3 v4 v5 x21) 0) fun q => match q with
   | .inl () =>
    some (.inl (IntKind.i64.wrap (x21 + 1)))
   | .inr () =>
    some (.inr (.inr ())))
noncomputable def laws_FnTiles_l2_S (a0 : List Int) (v3 : Int) (v4 : Int) (v5 : Int) : ((Int)) → St := fun x21 => ⟨[(0, AV.fsl (List.map (AV.int .u8) a0)), (4, AV.int .i64 (IntKind.i64.wrap (1 + (Int.tmod v3 12)))), (5, AV.int .i64 (IntKind.i64.wrap (1 + (Int.tmod v4 12)))), (6, AV.int .i64 v5), (7, AV.int .i64 x21)], [], 0⟩
noncomputable def laws_FnTiles_l2_X (a0 : List Int) (v3 : Int) (v4 : Int) (v5 : Int) : ((Unit) ⊕ (Unit)) → Ex × St := fun q => match q with
  | .inl _ => ((.exit 0), ⟨[(0, AV.fsl (List.map (AV.int .u8) a0)), (4, AV.int .i64 (IntKind.i64.wrap (1 + (Int.tmod v3 12)))), (5, AV.int .i64 (IntKind.i64.wrap (1 + (Int.tmod v4 12)))), (6, AV.int .i64 v5)], [], 0⟩)
  | .inr _ => (.ret, ⟨[(2, AV.bool false)], [], 0⟩)
noncomputable def laws_FnTiles_l3 (v3 : Int) (v4 : Int) (v5 : Int) (v41 : List Int) (w38 : TBox) (w39 : TBox) : ((Int)) → Option (((Int)) ⊕ ((Unit) ⊕ (Unit))) := fun x48 =>
  cnd (ile v5 x48) (
   some (.inr (.inl ()))) (
   bnd (impl_TileBox (IntKind.i64.wrap (1 + (Int.tmod v3 12))) (IntKind.i64.wrap (1 + (Int.tmod v4 12))) x48) fun v49 =>
   bnd (laws_in v41 x48) fun v50 =>
   bnd (spec_MeetBox v49 w38) fun v51 =>
   bnd (spec_Empty v51) fun v52 =>
   cnd v52 (
    bnd (spec_MeetBox v49 w39) fun v53 =>
    bnd (spec_Empty v53) fun v54 =>
    cnd (decide (v50 = (!v54)) && true) (
     some (.inl (IntKind.i64.wrap (x48 + 1)))) (
     some (.inr (.inr ())))) (
    cnd (decide (v50 = true) && true) (
     some (.inl (IntKind.i64.wrap (x48 + 1)))) (
     some (.inr (.inr ())))))
noncomputable def laws_FnTiles_l3_S (v3 : Int) (v4 : Int) (v5 : Int) (v41 : List Int) (w38 : TBox) (w39 : TBox) : ((Int)) → St := fun x48 => ⟨[(4, AV.int .i64 (IntKind.i64.wrap (1 + (Int.tmod v3 12)))), (5, AV.int .i64 (IntKind.i64.wrap (1 + (Int.tmod v4 12)))), (6, AV.int .i64 v5), (11, AV.optr 0 0 4), (12, AV.optr 1 0 4), (14, AV.fsl (List.map (AV.int .i64) v41)), (15, AV.int .i64 x48)], [(0, Ob.box [AV.int .i64 w38.x0, AV.int .i64 w38.y0, AV.int .i64 w38.x1, AV.int .i64 w38.y1]), (1, Ob.box [AV.int .i64 w39.x0, AV.int .i64 w39.y0, AV.int .i64 w39.x1, AV.int .i64 w39.y1])], 2⟩
noncomputable def laws_FnTiles_l3_X (v3 : Int) (v4 : Int) (v5 : Int) (v41 : List Int) (w38 : TBox) (w39 : TBox) : ((Unit) ⊕ (Unit)) → Ex × St := fun q => match q with
  | .inl _ => ((.exit 6), ⟨[(4, AV.int .i64 (IntKind.i64.wrap (1 + (Int.tmod v3 12)))), (5, AV.int .i64 (IntKind.i64.wrap (1 + (Int.tmod v4 12)))), (6, AV.int .i64 v5), (14, AV.fsl (List.map (AV.int .i64) v41))], [], 0⟩)
  | .inr _ => (.ret, ⟨[(2, AV.bool false)], [], 0⟩)
noncomputable def laws_FnTiles_l4 (v3 : Int) (v4 : Int) (v5 : Int) (v41 : List Int) : ((Int)) → Option (((Int)) ⊕ ((Unit) ⊕ (Unit))) := fun x57 =>
  cnd (ile (List.length v41 : Int) x57) (
   some (.inr (.inl ()))) (
   bnd (idx v41 (IntKind.i64.wrap (x57 - 1))) fun v58 =>
   bnd (idx v41 x57) fun v59 =>
   cnd (ile v59 v58) (
    some (.inr (.inr ()))) (
    some (.inl (IntKind.i64.wrap (x57 + 1)))))
noncomputable def laws_FnTiles_l4_S (v3 : Int) (v4 : Int) (v5 : Int) (v41 : List Int) : ((Int)) → St := fun x57 => ⟨[(4, AV.int .i64 (IntKind.i64.wrap (1 + (Int.tmod v3 12)))), (5, AV.int .i64 (IntKind.i64.wrap (1 + (Int.tmod v4 12)))), (6, AV.int .i64 v5), (14, AV.fsl (List.map (AV.int .i64) v41)), (17, AV.int .i64 x57)], [], 0⟩
noncomputable def laws_FnTiles_l4_X (v3 : Int) (v4 : Int) (v5 : Int) (v41 : List Int) : ((Unit) ⊕ (Unit)) → Ex × St := fun q => match q with
  | .inl _ => ((.exit 8), ⟨[(4, AV.int .i64 (IntKind.i64.wrap (1 + (Int.tmod v3 12)))), (5, AV.int .i64 (IntKind.i64.wrap (1 + (Int.tmod v4 12)))), (6, AV.int .i64 v5)], [], 0⟩)
  | .inr _ => (.ret, ⟨[(2, AV.bool false)], [], 0⟩)
noncomputable def laws_FnTiles (a0 : List Int) : Option ((Bool)) :=
  bnd (laws_big a0) fun v1 =>
  cnd v1 (
   some true) (
   bnd (spec_DrawPlaces a0) fun v2 =>
   bnd (idx v2 0) fun v3 =>
   bnd (idx v2 1) fun v4 =>
   bnd (impl_TileCount (IntKind.i64.wrap (1 + (Int.tmod v3 12))) (IntKind.i64.wrap (1 + (Int.tmod v4 12)))) fun v5 =>
   bnd (loopI (laws_FnTiles_l2 a0 v3 v4 v5) 0) fun q => match q with
   | .inl () =>
    bnd (spec_DrawBoxes a0) fun (w38, w39, w40) =>
    bnd (impl_TilesOf (IntKind.i64.wrap (1 + (Int.tmod v3 12))) (IntKind.i64.wrap (1 + (Int.tmod v4 12))) [w38, w39]) fun v41 =>
    bnd (loopI (laws_FnTiles_l3 v3 v4 v5 v41 w38 w39) 0) fun q => match q with
    | .inl () =>
     bnd (loopI (laws_FnTiles_l4 v3 v4 v5 v41) 1) fun q => match q with
     | .inl () =>
      bnd (spec_TileCount (IntKind.i64.wrap (1 + (Int.tmod v3 12))) (IntKind.i64.wrap (1 + (Int.tmod v4 12)))) fun v60 =>
      cnd (ieq v5 v60) (
       bnd (impl_TileBox (IntKind.i64.wrap (1 + (Int.tmod v3 12))) (IntKind.i64.wrap (1 + (Int.tmod v4 12))) v5) fun v61 =>
       bnd (spec_Empty v61) fun v62 =>
       cnd v62 (
        bnd (impl_TilesOf (IntKind.i64.wrap (1 + (Int.tmod v3 12))) (IntKind.i64.wrap (1 + (Int.tmod v4 12))) []) fun v63 =>
        some (ieq (List.length v63 : Int) 0)) (
        some false)) (
       some false)
     | .inr () =>
      some false
    | .inr () =>
     some false
   | .inr () =>
    some false)
noncomputable def laws_FnTiles_e (q : (List Int)) : List AV × List Ob := ([AV.fsl (List.map (AV.int .u8) q)], [])
noncomputable def laws_FnTiles_v (q : (List Int)) (r : (Bool)) : AV × List Ob := (AV.bool r, [])
noncomputable def laws_FnTiles_x : List AV → List Ob → Option (AV × List Ob) := xOf laws_FnTiles_e (fun q => laws_FnTiles q) laws_FnTiles_v
theorem laws_FnTiles_i : ∀ a b, laws_FnTiles_e a = laws_FnTiles_e b → a = b := by rintro x0 y0 h; simp [laws_FnTiles_e] at h; simp [h]
@[simp] theorem laws_FnTiles_k (z0 : List Int) : laws_FnTiles_x [AV.fsl (List.map (AV.int .u8) z0)] [] = mapR (laws_FnTiles z0) (fun r => (AV.bool r, [])) :=
  xOf_eq laws_FnTiles_i z0
end Go.Proofs.Ytfhglldoejeedaa.Am
