import Derived.Test.YtapchldnmkfkoabAmDnMo
import Derived.Test.YtapchldnmkfkoabAmRo
import Derived.Test.YtapchldnmkfkoabAmLw
set_option linter.unusedVariables false
set_option linter.unusedSimpArgs false
set_option linter.unusedSectionVars false
namespace Go.Proofs.Ytapchldnmkfkoab.Am
open Go Go.Proofs
def ok_Mat (x : TMat) : Prop := (okN .i64) x.a ∧ (okN .i64) x.b ∧ (okN .i64) x.c ∧ (okN .i64) x.d ∧ (okN .i64) x.e ∧ (okN .i64) x.f
theorem dm_Mat : Dm (.struct [.int .i64, .int .i64, .int .i64, .int .i64, .int .i64, .int .i64]) eMat ok_Mat := ⟨fun cs h => by
  rw [Dom] at h; simp only [DomL] at h
  obtain ⟨_, _, rfl, h0, _, _, rfl, h1, _, _, rfl, h2, _, _, rfl, h3, _, _, rfl, h4, _, _, rfl, h5, rfl⟩ := h
  obtain ⟨x0, rfl, k0⟩ := dm_int.c h0
  obtain ⟨x1, rfl, k1⟩ := dm_int.c h1
  obtain ⟨x2, rfl, k2⟩ := dm_int.c h2
  obtain ⟨x3, rfl, k3⟩ := dm_int.c h3
  obtain ⟨x4, rfl, k4⟩ := dm_int.c h4
  obtain ⟨x5, rfl, k5⟩ := dm_int.c h5
  exact ⟨⟨x0, x1, x2, x3, x4, x5⟩, by simp [elA, Ty.isS], k0, k1, k2, k3, k4, k5⟩⟩
def ok_Point (x : TPoint) : Prop := (okN .i64) x.x ∧ (okN .i64) x.y
theorem dm_Point : Dm (.struct [.int .i64, .int .i64]) ePoint ok_Point := ⟨fun cs h => by
  rw [Dom] at h; simp only [DomL] at h
  obtain ⟨_, _, rfl, h0, _, _, rfl, h1, rfl⟩ := h
  obtain ⟨x0, rfl, k0⟩ := dm_int.c h0
  obtain ⟨x1, rfl, k1⟩ := dm_int.c h1
  exact ⟨⟨x0, x1⟩, by simp [elA, Ty.isS], k0, k1⟩⟩
def ok_Path (x : TPath) : Prop := (okL (okN .i64)) x.verbs ∧ (okL ok_Point) x.points
theorem dm_Path : Dm (.struct [.slice (.int .i64), .slice (.struct [.int .i64, .int .i64])]) ePath ok_Path := ⟨fun cs h => by
  rw [Dom] at h; simp only [DomL] at h
  obtain ⟨_, _, rfl, h0, _, _, rfl, h1, rfl⟩ := h
  obtain ⟨x0, rfl, k0⟩ := (dm_sl dm_int).c h0
  obtain ⟨x1, rfl, k1⟩ := (dm_sl dm_Point).c h1
  exact ⟨⟨x0, x1⟩, by simp [elA, Ty.isS], k0, k1⟩⟩
def ok_Color (x : TColor) : Prop := (okN .i64) x.r ∧ (okN .i64) x.g ∧ (okN .i64) x.b ∧ (okN .i64) x.a
theorem dm_Color : Dm (.struct [.int .i64, .int .i64, .int .i64, .int .i64]) eColor ok_Color := ⟨fun cs h => by
  rw [Dom] at h; simp only [DomL] at h
  obtain ⟨_, _, rfl, h0, _, _, rfl, h1, _, _, rfl, h2, _, _, rfl, h3, rfl⟩ := h
  obtain ⟨x0, rfl, k0⟩ := dm_int.c h0
  obtain ⟨x1, rfl, k1⟩ := dm_int.c h1
  obtain ⟨x2, rfl, k2⟩ := dm_int.c h2
  obtain ⟨x3, rfl, k3⟩ := dm_int.c h3
  exact ⟨⟨x0, x1, x2, x3⟩, by simp [elA, Ty.isS], k0, k1, k2, k3⟩⟩
def ok_Paint (x : TPaint) : Prop := (okN .i64) x.kind ∧ ok_Color x.first ∧ ok_Color x.last ∧ ok_Point x.from_ ∧ ok_Point x.to
theorem dm_Paint : Dm (.struct [.int .i64, .struct [.int .i64, .int .i64, .int .i64, .int .i64], .struct [.int .i64, .int .i64, .int .i64, .int .i64], .struct [.int .i64, .int .i64], .struct [.int .i64, .int .i64]]) ePaint ok_Paint := ⟨fun cs h => by
  rw [Dom] at h; simp only [DomL] at h
  obtain ⟨_, _, rfl, h0, _, _, rfl, h1, _, _, rfl, h2, _, _, rfl, h3, _, _, rfl, h4, rfl⟩ := h
  obtain ⟨x0, rfl, k0⟩ := dm_int.c h0
  obtain ⟨x1, rfl, k1⟩ := dm_Color.c h1
  obtain ⟨x2, rfl, k2⟩ := dm_Color.c h2
  obtain ⟨x3, rfl, k3⟩ := dm_Point.c h3
  obtain ⟨x4, rfl, k4⟩ := dm_Point.c h4
  exact ⟨⟨x0, x1, x2, x3, x4⟩, by simp [elA, Ty.isS], k0, k1, k2, k3, k4⟩⟩
def ok_Node (x : TNode) : Prop := (okN .i64) x.id ∧ (okN .i64) x.parent ∧ (fun _ : Bool => True) x.group ∧ ok_Mat x.mat ∧ ok_Path x.path ∧ (fun _ : Bool => True) x.even ∧ (okN .i64) x.width ∧ (okL (okN .i64)) x.dashes ∧ ok_Paint x.paint ∧ (okN .i64) x.mode ∧ (okN .i64) x.fade ∧ ok_Path x.clip
theorem dm_Node : Dm (.struct [.int .i64, .int .i64, .bool, .struct [.int .i64, .int .i64, .int .i64, .int .i64, .int .i64, .int .i64], .struct [.slice (.int .i64), .slice (.struct [.int .i64, .int .i64])], .bool, .int .i64, .slice (.int .i64), .struct [.int .i64, .struct [.int .i64, .int .i64, .int .i64, .int .i64], .struct [.int .i64, .int .i64, .int .i64, .int .i64], .struct [.int .i64, .int .i64], .struct [.int .i64, .int .i64]], .int .i64, .int .i64, .struct [.slice (.int .i64), .slice (.struct [.int .i64, .int .i64])]]) eNode ok_Node := ⟨fun cs h => by
  rw [Dom] at h; simp only [DomL] at h
  obtain ⟨_, _, rfl, h0, _, _, rfl, h1, _, _, rfl, h2, _, _, rfl, h3, _, _, rfl, h4, _, _, rfl, h5, _, _, rfl, h6, _, _, rfl, h7, _, _, rfl, h8, _, _, rfl, h9, _, _, rfl, h10, _, _, rfl, h11, rfl⟩ := h
  obtain ⟨x0, rfl, k0⟩ := dm_int.c h0
  obtain ⟨x1, rfl, k1⟩ := dm_int.c h1
  obtain ⟨x2, rfl, k2⟩ := dm_bool.c h2
  obtain ⟨x3, rfl, k3⟩ := dm_Mat.c h3
  obtain ⟨x4, rfl, k4⟩ := dm_Path.c h4
  obtain ⟨x5, rfl, k5⟩ := dm_bool.c h5
  obtain ⟨x6, rfl, k6⟩ := dm_int.c h6
  obtain ⟨x7, rfl, k7⟩ := (dm_sl dm_int).c h7
  obtain ⟨x8, rfl, k8⟩ := dm_Paint.c h8
  obtain ⟨x9, rfl, k9⟩ := dm_int.c h9
  obtain ⟨x10, rfl, k10⟩ := dm_int.c h10
  obtain ⟨x11, rfl, k11⟩ := dm_Path.c h11
  exact ⟨⟨x0, x1, x2, x3, x4, x5, x6, x7, x8, x9, x10, x11⟩, by simp [elA, Ty.isS], k0, k1, k2, k3, k4, k5, k6, k7, k8, k9, k10, k11⟩⟩
def ok_Scene (x : TScene) : Prop := (okL ok_Node) x.nodes
theorem dm_Scene : Dm (.struct [.slice (.struct [.int .i64, .int .i64, .bool, .struct [.int .i64, .int .i64, .int .i64, .int .i64, .int .i64, .int .i64], .struct [.slice (.int .i64), .slice (.struct [.int .i64, .int .i64])], .bool, .int .i64, .slice (.int .i64), .struct [.int .i64, .struct [.int .i64, .int .i64, .int .i64, .int .i64], .struct [.int .i64, .int .i64, .int .i64, .int .i64], .struct [.int .i64, .int .i64], .struct [.int .i64, .int .i64]], .int .i64, .int .i64, .struct [.slice (.int .i64), .slice (.struct [.int .i64, .int .i64])]])]) eScene ok_Scene := ⟨fun cs h => by
  rw [Dom] at h; simp only [DomL] at h
  obtain ⟨_, _, rfl, h0, rfl⟩ := h
  obtain ⟨x0, rfl, k0⟩ := (dm_sl dm_Node).c h0
  exact ⟨⟨x0⟩, by simp [elA, Ty.isS], k0⟩⟩
end Go.Proofs.Ytapchldnmkfkoab.Am
namespace Go.Proofs.Ytapchldnmkfkoab.Am
open Go Go.Proofs
set_option linter.unusedVariables false
set_option linter.unusedSimpArgs false
theorem f_laws_szIntS {a : List Int} {left : Int} (ho : okL (okN .i64) a) (h0 : 0 ≤ left) (h1 : left ≤ 1048576) : ∃ v, laws_szIntS a left = some v ∧ szR v left (gdL tt a) := by
  unfold laws_szIntS; exact sz_row (maxL ho.1) h0 h1
theorem f_laws_szPointS {a : List TPoint} {left : Int} (ho : okL ok_Point a) (h0 : 0 ≤ left) (h1 : left ≤ 1048576) : ∃ v, laws_szPointS a left = some v ∧ szR v left (gdL tt a) := by
  unfold laws_szPointS; exact sz_row (maxL ho.1) h0 h1
def gd_Path (x : TPath) : Prop := (gdL tt) x.verbs ∧ (gdL tt) x.points
theorem f_laws_szPath {a : TPath} {left : Int} (ho : ok_Path a) (h0 : 0 ≤ left) (h1 : left ≤ 1048576) : ∃ v, laws_szPath a left = some v ∧ szR v left (gd_Path a) := by
  obtain ⟨o0, o1⟩ := ho
  unfold laws_szPath
  obtain ⟨v0, e0, l0, m0, g0⟩ := f_laws_szIntS o0 h0 (by omega)
  rw [e0, bnd_some]
  by_cases c0 : 0 ≤ v0
  case neg => rw [ilf (by omega), cnd_false]; exact ⟨-1, rfl, by omega, by omega, fun h => by omega⟩
  rw [ilt c0, cnd_true]
  obtain ⟨v1, e1, l1, m1, g1⟩ := f_laws_szPointS o1 c0 (by omega)
  rw [e1, bnd_some]
  by_cases c1 : 0 ≤ v1
  case neg => rw [ilf (by omega), cnd_false]; exact ⟨-1, rfl, by omega, by omega, fun h => by omega⟩
  rw [ilt c1, cnd_true]
  exact ⟨v1, rfl, by omega, by omega, fun _ => ⟨g0 c0, g1 c1⟩⟩
def gd_Node (x : TNode) : Prop := gd_Path x.path ∧ (gdL tt) x.dashes ∧ gd_Path x.clip
theorem f_laws_szNode {a : TNode} {left : Int} (ho : ok_Node a) (h0 : 0 ≤ left) (h1 : left ≤ 1048576) : ∃ v, laws_szNode a left = some v ∧ szR v left (gd_Node a) := by
  obtain ⟨o0, o1, o2, o3, o4, o5, o6, o7, o8, o9, o10, o11⟩ := ho
  unfold laws_szNode
  obtain ⟨v4, e4, l4, m4, g4⟩ := f_laws_szPath o4 h0 (by omega)
  rw [e4, bnd_some]
  by_cases c4 : 0 ≤ v4
  case neg => rw [ilf (by omega), cnd_false]; exact ⟨-1, rfl, by omega, by omega, fun h => by omega⟩
  rw [ilt c4, cnd_true]
  obtain ⟨v7, e7, l7, m7, g7⟩ := f_laws_szIntS o7 c4 (by omega)
  rw [e7, bnd_some]
  by_cases c7 : 0 ≤ v7
  case neg => rw [ilf (by omega), cnd_false]; exact ⟨-1, rfl, by omega, by omega, fun h => by omega⟩
  rw [ilt c7, cnd_true]
  obtain ⟨v11, e11, l11, m11, g11⟩ := f_laws_szPath o11 c7 (by omega)
  rw [e11, bnd_some]
  by_cases c11 : 0 ≤ v11
  case neg => rw [ilf (by omega), cnd_false]; exact ⟨-1, rfl, by omega, by omega, fun h => by omega⟩
  rw [ilt c11, cnd_true]
  exact ⟨v11, rfl, by omega, by omega, fun _ => ⟨g4 c4, g7 c7, g11 c11⟩⟩
theorem f_laws_szNodeS {a : List TNode} {left : Int} (ho : okL ok_Node a) (h0 : 0 ≤ left) (h1 : left ≤ 1048576) : ∃ v, laws_szNodeS a left = some v ∧ szR v left ((gdL gd_Node) a) := by
  unfold laws_szNodeS
  have hl := maxL ho.1
  rw [wr_in (by omega)]
  by_cases h : 0 ≤ left - (a.length : Int)
  · rw [ilt h, cnd_true]
    obtain ⟨v, ⟨v1, v2, v3⟩, e⟩ := sz_loop (szE := laws_szNode) (g := gd_Node) (f := laws_szNodeS_l0 a) (left := left - (a.length : Int)) (fun x hx left => f_laws_szNode (ho.2 x hx)) (fun _ _ => rfl) h (by omega) (by omega)
    refine ⟨v, ?_, by omega, v2, v3⟩
    rcases e with ⟨e, _⟩ | ⟨e, rfl⟩ <;> rw [e] <;> rfl
  · rw [ilf (by omega), cnd_false]
    exact ⟨_, rfl, by omega, by omega, fun h => by omega⟩
def gd_Scene (x : TScene) : Prop := (gdL gd_Node) x.nodes
theorem f_laws_szScene {a : TScene} {left : Int} (ho : ok_Scene a) (h0 : 0 ≤ left) (h1 : left ≤ 1048576) : ∃ v, laws_szScene a left = some v ∧ szR v left (gd_Scene a) := by
  have o0 := ho
  unfold laws_szScene
  obtain ⟨v0, e0, l0, m0, g0⟩ := f_laws_szNodeS o0 h0 (by omega)
  rw [e0, bnd_some]
  by_cases c0 : 0 ≤ v0
  case neg => rw [ilf (by omega), cnd_false]; exact ⟨-1, rfl, by omega, by omega, fun h => by omega⟩
  rw [ilt c0, cnd_true]
  exact ⟨v0, rfl, by omega, by omega, fun _ => g0 c0⟩
theorem f_laws_toMat {a : TMat} : laws_toMat a = some a := by
  unfold laws_toMat
  rfl
theorem f_laws_toIntS {a : List Int} (hg : (gdL tt) a) : laws_toIntS a = some a := by
  unfold laws_toIntS
  rw [chkP_pos (ch_row hg.1 (by omega))]
  have h := to_loop (f := laws_toIntS_l0 a) (toE := some) (0) (fun _ _ => rfl) (fun _ _ => rfl) hg.1
  simp only [nam_eq, h, bnd_some]
theorem f_laws_toPoint {a : TPoint} : laws_toPoint a = some a := by
  unfold laws_toPoint
  rfl
theorem f_laws_toPointS {a : List TPoint} (hg : (gdL tt) a) : laws_toPointS a = some a := by
  unfold laws_toPointS
  rw [chkP_pos (ch_row hg.1 (by omega))]
  have h := to_loop (f := laws_toPointS_l0 a) (toE := laws_toPoint) ((TPoint.mk 0 0)) (fun x hx => f_laws_toPoint ) (fun _ _ => rfl) hg.1
  simp only [nam_eq, h, bnd_some]
theorem f_laws_toPath {a : TPath} (hg : gd_Path a) : laws_toPath a = some (a.verbs, a.points) := by
  obtain ⟨h0, h1⟩ := hg
  unfold laws_toPath
  simp only [bnd_some, f_laws_toIntS h0, f_laws_toPointS h1]
theorem f_laws_toColor {a : TColor} : laws_toColor a = some a := by
  unfold laws_toColor
  rfl
theorem f_laws_toPaint {a : TPaint} : laws_toPaint a = some a := by
  unfold laws_toPaint
  simp only [bnd_some, f_laws_toColor, f_laws_toPoint]
theorem f_laws_toNode {a : TNode} (hg : gd_Node a) : laws_toNode a = some (a.id, a.parent, a.group, a.mat, a.even, a.width, a.paint, a.mode, a.fade, a.path.verbs, a.path.points, a.dashes, a.clip.verbs, a.clip.points) := by
  obtain ⟨h0, h1, h2⟩ := hg
  unfold laws_toNode
  simp only [bnd_some, f_laws_toMat, f_laws_toPath h0, f_laws_toPath h2, f_laws_toIntS h1, f_laws_toPaint]
theorem f_laws_toNodeS {a : List TNode} (hg : (gdL gd_Node) a) : laws_toNodeS a = some a := by
  unfold laws_toNodeS
  rw [chkP_pos (ch_row hg.1 (by omega))]
  have h := to_loop (f := laws_toNodeS_l0 a) (toE := fun v => bnd (laws_toNode v) fun (r0, r1, r2, r3, r4, r5, r6, r7, r8, r9, r10, r11, r12, r13) => some (TNode.mk r0 r1 r2 (TMat.mk r3.a r3.b r3.c r3.d r3.e r3.f) (TPath.mk r9 r10) r4 r5 r11 (TPaint.mk r6.kind (TColor.mk r6.first.r r6.first.g r6.first.b r6.first.a) (TColor.mk r6.last.r r6.last.g r6.last.b r6.last.a) (TPoint.mk r6.from_.x r6.from_.y) (TPoint.mk r6.to.x r6.to.y)) r7 r8 (TPath.mk r12 r13))) ((TNode.mk 0 0 false (TMat.mk 0 0 0 0 0 0) (TPath.mk [] []) false 0 [] (TPaint.mk 0 (TColor.mk 0 0 0 0) (TColor.mk 0 0 0 0) (TPoint.mk 0 0) (TPoint.mk 0 0)) 0 0 (TPath.mk [] []))) (fun x hx => by rw [f_laws_toNode (hg.2 x hx)]; rfl) (fun _ _ => congrArg (cnd _ _) (congrArg (bnd _) (funext fun v => by cases laws_toNode v <;> rfl))) hg.1
  simp only [nam_eq, h, bnd_some]
theorem f_laws_toScene {a : TScene} (hg : gd_Scene a) : laws_toScene a = some a.nodes := by
  have h0 := hg
  unfold laws_toScene
  simp only [bnd_some, f_laws_toNodeS h0]
theorem f_laws_eqMat {a : TMat} : laws_eqMat a a = some true := by
  unfold laws_eqMat
  simp only [bnd_some, cnd_true, iqt, andB, decide_true, Bool.and_self, Bool.and_true]
theorem f_laws_eqIntS {a : List Int} (hg : (gdL tt) a) : laws_eqIntS a a = some true := by
  unfold laws_eqIntS
  have h := eq_loop (f := laws_eqIntS_l0 a a) (eqE := (fun x y => some (ieq x y))) (fun _ _ => by simp [ieq, sq']) (fun _ => rfl) hg.1
  rw [iqt, cnd_true, h]; rfl
theorem f_laws_eqPoint {a : TPoint} : laws_eqPoint a a = some true := by
  unfold laws_eqPoint
  simp only [bnd_some, cnd_true, iqt, andB, decide_true, Bool.and_self, Bool.and_true]
theorem f_laws_eqPointS {a : List TPoint} (hg : (gdL tt) a) : laws_eqPointS a a = some true := by
  unfold laws_eqPointS
  have h := eq_loop (f := laws_eqPointS_l0 a a) (eqE := laws_eqPoint) (fun x hx => f_laws_eqPoint ) (fun _ => rfl) hg.1
  rw [iqt, cnd_true, h]; rfl
theorem f_laws_eqPath {a : TPath} (hg : gd_Path a) : laws_eqPath a a = some true := by
  obtain ⟨h0, h1⟩ := hg
  unfold laws_eqPath
  simp only [bnd_some, cnd_true, iqt, andB, decide_true, Bool.and_self, Bool.and_true, f_laws_eqIntS h0, f_laws_eqPointS h1]
theorem f_laws_eqColor {a : TColor} : laws_eqColor a a = some true := by
  unfold laws_eqColor
  simp only [bnd_some, cnd_true, iqt, andB, decide_true, Bool.and_self, Bool.and_true]
theorem f_laws_eqPaint {a : TPaint} : laws_eqPaint a a = some true := by
  unfold laws_eqPaint
  simp only [bnd_some, cnd_true, iqt, andB, decide_true, Bool.and_self, Bool.and_true, f_laws_eqColor, f_laws_eqPoint]
theorem f_laws_eqNode {a : TNode} (hg : gd_Node a) : laws_eqNode a a = some true := by
  obtain ⟨h0, h1, h2⟩ := hg
  unfold laws_eqNode
  simp only [bnd_some, cnd_true, iqt, andB, decide_true, Bool.and_self, Bool.and_true, f_laws_eqMat, f_laws_eqPath h0, f_laws_eqPath h2, f_laws_eqIntS h1, f_laws_eqPaint]
theorem f_laws_eqNodeS {a : List TNode} (hg : (gdL gd_Node) a) : laws_eqNodeS a a = some true := by
  unfold laws_eqNodeS
  have h := eq_loop (f := laws_eqNodeS_l0 a a) (eqE := laws_eqNode) (fun x hx => f_laws_eqNode (hg.2 x hx)) (fun _ => rfl) hg.1
  rw [iqt, cnd_true, h]; rfl
theorem f_laws_eqScene {a : TScene} (hg : gd_Scene a) : laws_eqScene a a = some true := by
  have h0 := hg
  unfold laws_eqScene
  simp only [bnd_some, cnd_true, iqt, andB, decide_true, Bool.and_self, Bool.and_true, f_laws_eqNodeS h0]
end Go.Proofs.Ytapchldnmkfkoab.Am
namespace Go.Proofs.Ytapchldnmkfkoab.Am
open Go Go.Proofs
set_option linter.unusedSimpArgs false
set_option linter.unusedVariables false
set_option maxRecDepth 100000
/-! ## Small words -/
def tin (x a b : Int) : Bool := ile a x && ile x b
theorem tin_t {x a b : Int} : tin x a b = true ↔ a ≤ x ∧ x ≤ b := by simp [tin, ile_t]
@[simp] theorem m_spec_l01In (x a b : Int) : spec_l01In x a b = some (tin x a b) := by
  unfold spec_l01In tin; cases ile a x <;> simp
@[simp] theorem m_impl_inRange (x a b : Int) : impl_inRange x a b = some (tin x a b) := by
  unfold impl_inRange tin; cases ile a x <;> simp
def tileCount (w h : Int) : Int := if tin w 1 12 && tin h 1 12 then ((w + 3) / 4) * ((h + 3) / 4) else 0
theorem four {w : Int} (h : tin w 1 12 = true) : (w + 3) / 4 = 1 ∨ (w + 3) / 4 = 2 ∨ (w + 3) / 4 = 3 := by rw [tin_t] at h; omega
theorem wr9 {w h : Int} (hw : tin w 1 12 = true) (hh : tin h 1 12 = true) : IntKind.i64.wrap ((w + 3) / 4 * ((h + 3) / 4)) = (w + 3) / 4 * ((h + 3) / 4) := by
  refine wr_in ?_
  rcases four hw with e | e | e <;> rcases four hh with f | f | f <;> rw [e, f] <;> decide
theorem up4 {w : Int} (h : tin w 1 12 = true) : IntKind.i64.wrap ((IntKind.i64.wrap (w + 3)).tdiv 4) = (w + 3) / 4 := by
  rw [tin_t] at h
  rw [wr_in (n := w + 3) (by omega), Int.tdiv_eq_ediv_of_nonneg (by omega), wr_in (by omega)]
theorem tc_bd (w h : Int) : 0 ≤ tileCount w h ∧ tileCount w h ≤ 9 := by
  unfold tileCount
  cases hw : tin w 1 12 <;> cases hh : tin h 1 12 <;> simp
  rcases four hw with e | e | e <;> rcases four hh with f | f | f <;> rw [e, f] <;> decide
@[simp] theorem tc_wrap (w h : Int) : IntKind.i64.wrap (tileCount w h - 1) = tileCount w h - 1 := by
  have := tc_bd w h
  exact wr_in (by omega)
theorem tb_facts {w h i : Int} (hi : tin i 0 (tileCount w h - 1) = true) : tin w 1 12 = true ∧ 0 ≤ i ∧ i ≤ 8 := by
  have := tc_bd w h
  rw [tin_t] at hi
  refine ⟨?_, by omega, by omega⟩
  cases hw : tin w 1 12 with
  | true => rfl
  | false =>
    have : tileCount w h = 0 := by simp [tileCount, hw]
    omega
theorem tb_x {r i : Int} (hr : r = 1 ∨ r = 2 ∨ r = 3) (h0 : 0 ≤ i) (h1 : i ≤ 8) : IntKind.i64.wrap (i.tmod r * 4) = i % r * 4 ∧ IntKind.i64.wrap (i % r * 4 + 4) = i % r * 4 + 4 ∧
    IntKind.i64.wrap (IntKind.i64.wrap (i.tdiv r) * 4) = i / r * 4 ∧ IntKind.i64.wrap (i / r * 4 + 4) = i / r * 4 + 4 := by
  rw [Int.tmod_eq_emod_of_nonneg h0, Int.tdiv_eq_ediv_of_nonneg h0]
  rcases hr with rfl | rfl | rfl
  · rw [wr_in (n := i / 1) (by omega)]; exact ⟨wr_in (by omega), wr_in (by omega), wr_in (by omega), wr_in (by omega)⟩
  · rw [wr_in (n := i / 2) (by omega)]; exact ⟨wr_in (by omega), wr_in (by omega), wr_in (by omega), wr_in (by omega)⟩
  · rw [wr_in (n := i / 3) (by omega)]; exact ⟨wr_in (by omega), wr_in (by omega), wr_in (by omega), wr_in (by omega)⟩
theorem four' {w : Int} (h : tin w 1 12 = true) : ¬ (w + 3) / 4 = 0 := by rcases four h with e | e | e <;> omega
/-! ## Draws -/
theorem idx_of {α : Type} {l : List α} {i : Int} (h0 : 0 ≤ i) (h1 : i < l.length) : ∃ x, idx l i = some x ∧ x ∈ l := by
  have : i.toNat < l.length := by omega
  refine ⟨l[i.toNat], ?_, List.getElem_mem this⟩
  unfold idx; rw [if_pos h0]; exact List.getElem?_eq_getElem this
/-! ## Each square is in one tile -/
section
variable {a0 : List Int} {v3 v4 w h : Int}
end

/-! ## Loops that ask the same of all -/
theorem loopI_all {f : Int → Option (Int ⊕ (Unit ⊕ Unit))} (n : Nat) (p : Nat → Bool) (hn : n ≤ 9223372036854775807)
    (hs : ∀ i : Nat, i < n → f (i : Int) = cnd (p i) (some (.inl (IntKind.i64.wrap ((i : Int) + 1)))) (some (.inr (.inr ())))) (he : f (n : Int) = some (.inr (.inl ()))) :
    loopI f 0 = some (if (List.range n).all p then .inl () else .inr ()) := by
  have h := loopI_find (f := f) (fun i : Nat => (i : Int)) n (fun i => !(p i)) (fun _ => .inr ()) (r := .inl ()) (fun i hi => by
    rw [hs i hi, wr_in (by omega)]
    cases p i <;> simp) he
  have e : loopI f 0 = loopI f ((0 : Nat) : Int) := rfl
  rw [e, h]
  congr 1
  cases hq : (List.range n).find? (fun i => !(p i)) with
  | none =>
    rw [List.find?_eq_none] at hq
    have : (List.range n).all p = true := List.all_eq_true.2 fun x hx => by simpa using hq x hx
    rw [this]; rfl
  | some i =>
    have h1 := List.find?_some hq
    have h2 := List.mem_of_find?_eq_some hq
    have : (List.range n).all p = false := by
      rw [List.all_eq_false]; exact ⟨i, h2, by simpa using h1⟩
    rw [this]; rfl
theorem range_all {α : Type} {l : List α} {q : α → Bool} {p : Nat → Bool} (h : ∀ i (hi : i < l.length), p i = q l[i]) : (List.range l.length).all p = l.all q := by
  rw [Bool.eq_iff_iff, List.all_eq_true, List.all_eq_true]
  constructor
  · intro k x hx
    obtain ⟨i, hi, rfl⟩ := List.getElem_of_mem hx
    rw [← h i hi]; exact k i (List.mem_range.2 hi)
  · intro k i hi
    have hi := List.mem_range.1 hi
    rw [h i hi]; exact k _ (List.getElem_mem hi)
/-- Of a row, each element asked the same. -/
theorem loopI_row {α : Type} {l : List α} {f : Int → Option (Int ⊕ (Unit ⊕ Unit))} (q : α → Bool) (hn : l.length ≤ 9223372036854775807)
    (hs : ∀ (i : Nat) (h : i < l.length), f (i : Int) = cnd (q l[i]) (some (.inl (IntKind.i64.wrap ((i : Int) + 1)))) (some (.inr (.inr ())))) (he : f (l.length : Int) = some (.inr (.inl ()))) :
    loopI f 0 = some (if l.all q then .inl () else .inr ()) := by
  have h := loopI_all (f := f) l.length (fun i => if h : i < l.length then q l[i] else false) hn (fun i hi => by rw [hs i hi]; simp [hi]) he
  rw [h, range_all (q := q) (fun i hi => by simp [hi])]

/-! ## Masks -/
/-! ## The first of a row that is asked for -/
def fst {α : Type} (q : α → Bool) (l : List α) : Int := match l.findIdx? q with | some i => (i : Int) | none => -1
theorem loopI_index {α ρ : Type} {l : List α} {f : Int → Option (Int ⊕ ρ)} (q : α → Bool) (a : ρ) (b : Int → ρ) (hn : l.length ≤ 9223372036854775807)
    (hs : ∀ (i : Nat) (h : i < l.length), f (i : Int) = cnd (q l[i]) (some (.inr (b (i : Int)))) (some (.inl (IntKind.i64.wrap ((i : Int) + 1))))) (he : f (l.length : Int) = some (.inr a)) :
    loopI f 0 = some (match l.findIdx? q with | some i => b (i : Int) | none => a) := by
  have h := loopI_find (f := f) (fun i : Nat => (i : Int)) l.length (fun i => match l[i]? with | some x => q x | none => false) (fun i => b (i : Int)) (r := a) (fun i hi => by
    rw [hs i hi, wr_in (by omega), List.getElem?_eq_getElem hi]
    cases h : q l[i] <;> simp [h]) he
  have e : loopI f 0 = loopI f ((0 : Nat) : Int) := rfl
  rw [e, h]
  have : (List.range l.length).find? (fun i => match l[i]? with | some x => q x | none => false) = l.findIdx? q := by
    cases hq : l.findIdx? q with
    | none =>
      rw [List.findIdx?_eq_none_iff] at hq
      rw [List.find?_eq_none]
      intro i hi
      have hi := List.mem_range.1 hi
      rw [List.getElem?_eq_getElem hi]
      simp [hq _ (List.getElem_mem hi)]
    | some i =>
      rw [List.findIdx?_eq_some_iff_getElem] at hq
      obtain ⟨h1, h2, h3⟩ := hq
      rw [List.find?_range_eq_some]
      refine ⟨by rw [List.getElem?_eq_getElem h1]; exact h2, by simpa using h1, fun j hj => ?_⟩
      have := h3 j hj
      rw [List.getElem?_eq_getElem (by omega)]
      simpa using this
  rw [this]
  cases l.findIdx? q <;> rfl
/-! ## Caches -/
/-! ## Surfaces -/
theorem m_spec_ColorOk (c : TColor) : spec_ColorOk c = some (tin c.r 0 255 && tin c.g 0 255 && tin c.b 0 255 && tin c.a 0 255) := by
  unfold spec_ColorOk
  simp only [m_spec_l01In, bnd_some]
  cases tin c.r 0 255 <;> cases tin c.g 0 255 <;> cases tin c.b 0 255 <;> simp
theorem m_impl_isByte (x : Int) : impl_isByte x = some (tin x 0 255) := by unfold impl_isByte; simp only [m_impl_inRange, bnd_some]
theorem m_impl_ColorOk (c : TColor) : impl_ColorOk c = some (tin c.r 0 255 && tin c.g 0 255 && tin c.b 0 255 && tin c.a 0 255) := by
  unfold impl_ColorOk
  simp only [m_impl_isByte, bnd_some]
  cases tin c.r 0 255 <;> cases tin c.g 0 255 <;> cases tin c.b 0 255 <;> simp
/-! ## Loops from a number to another one -/
/-! ## Sparing -/
/-! ## Marks -/
def marked {α : Type} (mk : Int → α) (c k : Int) (n : Nat) : List α := (List.range n).map fun i : Nat => mk (k + c * (i : Int))
theorem marked_len {α : Type} {mk : Int → α} {c k : Int} {n : Nat} : (marked mk c k n).length = n := by simp [marked]
theorem cmul {c : Int} {i n : Nat} (hc : 0 ≤ c ∧ c ≤ 64) (hi : i ≤ n) (hn : n ≤ 1048576) : 0 ≤ c * (i : Int) ∧ c * (i : Int) ≤ 67108864 := by
  refine ⟨Int.mul_nonneg hc.1 (by omega), ?_⟩
  calc c * (i : Int) ≤ 64 * (i : Int) := Int.mul_le_mul_of_nonneg_right hc.2 (by omega)
    _ ≤ 67108864 := by omega
theorem csucc {c : Int} {i : Nat} : c * ((i + 1 : Nat) : Int) = c * (i : Int) + c := by
  rw [show ((i + 1 : Nat) : Int) = (i : Int) + 1 by omega, Int.mul_add, Int.mul_one]
theorem mark_loop {α : Type} (c : Int) (mk : Int → α) {f : Int × Int × List α → Option ((Int × Int × List α) ⊕ (List α × Int))} {a : List α} {k0 : Int} (hc : 0 ≤ c ∧ c ≤ 64) (h0 : 0 ≤ k0 ∧ k0 ≤ 1125899906842624) (ha : a.length ≤ 1048576)
    (he : ∀ (k : Int) (l : List α), f (k, (l.length : Int), l) = some (.inr (l, k)))
    (hf : ∀ (k : Int) (i : Nat) (l : List α), i < l.length → l.length ≤ 1048576 → 0 ≤ k → k ≤ 4503599627370496 → f (k, (i : Int), l) = some (.inl (k + c, ((i + 1 : Nat) : Int), l.set i (mk k)))) :
    loopI f (k0, 0, a) = some (marked mk c k0 a.length, k0 + c * (a.length : Int)) := by
  have key := loopI_n (f := f) (fun i => (k0 + c * (i : Int), (i : Int), marked mk c k0 i ++ a.drop i)) a.length (r := (marked mk c k0 a.length, k0 + c * (a.length : Int))) (fun i hi => ?_) ?_
  · have e : (k0 + c * ((0 : Nat) : Int), ((0 : Nat) : Int), marked mk c k0 0 ++ a.drop 0) = (k0, 0, a) := by simp [marked]
    rwa [e] at key
  · obtain ⟨b1, b2⟩ := cmul (n := a.length) hc (Nat.le_of_lt hi) ha
    have hl : (marked mk c k0 i ++ a.drop i).length = a.length := by simp [marked_len]; omega
    rw [hf _ i _ (by omega) (by omega) (by omega) (by omega)]
    have e1 : k0 + c * (i : Int) + c = k0 + c * ((i + 1 : Nat) : Int) := by rw [csucc]; omega
    have e2 : (marked mk c k0 i ++ a.drop i).set i (mk (k0 + c * (i : Int))) = marked mk c k0 (i + 1) ++ a.drop (i + 1) := by
      have h1 : a.drop i = a[i] :: a.drop (i + 1) := List.drop_eq_getElem_cons hi
      rw [List.set_append_right _ _ (by rw [marked_len]; omega), marked_len, Nat.sub_self, h1, List.set_cons_zero]
      unfold marked
      rw [List.range_succ, List.map_append, List.append_assoc]
      rfl
    rw [e1, e2]
  · have e : marked mk c k0 a.length ++ a.drop a.length = marked mk c k0 a.length := by simp
    try dsimp only
    rw [e]
    have := he (k0 + c * (a.length : Int)) (marked mk c k0 a.length)
    rwa [marked_len] at this
theorem held_loop {α : Type} (c : Int) (mk : Int → α) {f : Int × Int → Option ((Int × Int) ⊕ (Int ⊕ Unit))} {n : Nat} {k0 : Int} (hc : 0 ≤ c ∧ c ≤ 64) (h0 : 0 ≤ k0 ∧ k0 ≤ 1125899906842624) (hn : n ≤ 1048576)
    (he : ∀ k : Int, f (k, (n : Int)) = some (.inr (.inl k)))
    (hf : ∀ (k : Int) (i : Nat) (x : α), (marked mk c k0 n)[i]? = some x → i < n → x = mk k → 0 ≤ k → k ≤ 4503599627370496 → f (k, (i : Int)) = some (.inl (k + c, ((i + 1 : Nat) : Int)))) :
    loopI f (k0, 0) = some (.inl (k0 + c * (n : Int))) := by
  have key := loopI_n (f := f) (fun i => (k0 + c * (i : Int), (i : Int))) n (r := .inl (k0 + c * (n : Int))) (fun i hi => ?_) (he _)
  · have e : (k0 + c * ((0 : Nat) : Int), ((0 : Nat) : Int)) = (k0, (0 : Int)) := by simp
    rwa [e] at key
  · obtain ⟨b1, b2⟩ := cmul (n := n) hc (Nat.le_of_lt hi) hn
    rw [hf (k0 + c * (i : Int)) i (mk (k0 + c * (i : Int))) (by unfold marked; rw [List.getElem?_map, List.getElem?_range hi]; rfl) hi rfl (by omega) (by omega)]
    rw [csucc, Int.add_assoc]
theorem m_markIntS {k : Int} {l : List Int} (hk : 0 ≤ k ∧ k ≤ 1125899906842624) (hl : l.length ≤ 1048576) : laws_markIntS k l = some (k + 1 * (l.length : Int), marked (fun k => k) 1 k l.length) := by
  unfold laws_markIntS
  rw [mark_loop (f := laws_markIntS_l0) 1 (fun k => k) (by omega) hk hl (fun k l => by rw [laws_markIntS_l0, ilt (by omega), cnd_true]) (fun k i l hi hl h0 h1 => by
    rw [laws_markIntS_l0, ilf (by omega), cnd_false, idx_nat hi, bnd_some, nam_eq, Int.toNat_natCast, wr_in (n := k + 1) (by omega), wr_in (by omega)]; rfl)]
  rfl
theorem m_heldIntS {k : Int} {n : Nat} (hk : 0 ≤ k ∧ k ≤ 1125899906842624) (hl : n ≤ 1048576) : laws_heldIntS (marked (fun k => k) 1 k n) k = some (k + 1 * (n : Int)) := by
  unfold laws_heldIntS
  rw [held_loop (f := laws_heldIntS_l0 (marked (fun k => k) 1 k n)) 1 (fun k => k) (n := n) (by omega) hk hl (fun k => by rw [laws_heldIntS_l0, marked_len, ilt (by omega), cnd_true]) (fun k i x hx hi he h0 h1 => by
    rw [laws_heldIntS_l0, marked_len, ilf (by omega), cnd_false, idx_some hx, bnd_some, he, iqt, cnd_true, wr_in (n := k + 1) (by omega), wr_in (by omega)]; rfl)]
  rfl
/-! ## TilesOf -/
/-! ## Painting a part of a surface -/
section
variable {α : Type}
end

/-! ## Colours: the program's words are the reference's -/
/-! ## LayOver -/
/-! ## Paints -/
instance decCol : DecidableEq TColor := fun a b => decidable_of_iff (a.r = b.r ∧ a.g = b.g ∧ a.b = b.b ∧ a.a = b.a) (by cases a; cases b; simp)
instance decPt : DecidableEq TPoint := fun a b => decidable_of_iff (a.x = b.x ∧ a.y = b.y) (by cases a; cases b; simp)
theorem s_PointOk (p : TPoint) : impl_PointOk p = spec_PointOk p := by
  unfold impl_PointOk spec_PointOk impl_isFar
  rw [m_impl_inRange, m_spec_l01In, m_impl_inRange, m_spec_l01In]; rfl
theorem t_PointOk (p : TPoint) : spec_PointOk p = some (tin p.x (-8388608) 8388608 && tin p.y (-8388608) 8388608) := by
  unfold spec_PointOk
  rw [m_spec_l01In, bnd_some, m_spec_l01In]
  cases tin p.x (-8388608) 8388608 <;> simp
def pointOk (p : TPoint) : Bool := tin p.x (-8388608) 8388608 && tin p.y (-8388608) 8388608
def colOk (c : TColor) : Bool := tin c.r 0 255 && tin c.g 0 255 && tin c.b 0 255 && tin c.a 0 255
def paintOk (p : TPaint) : Bool := colOk p.first && if p.kind = 1 then decide (p.last = ⟨0, 0, 0, 0⟩) && decide (p.from_ = ⟨0, 0⟩) && decide (p.to = ⟨0, 0⟩)
  else decide (p.kind = 2) && colOk p.last && pointOk p.from_ && pointOk p.to && !decide (p.from_ = p.to)
theorem col_eq {c d : TColor} : andB (decide (c.r = d.r)) (andB (decide (c.g = d.g)) (andB (decide (c.b = d.b)) (andB (decide (c.a = d.a)) true))) = decide (c = d) := by
  cases c; cases d; simp [andB, Bool.decide_and]
theorem pt_eq {c d : TPoint} : andB (decide (c.x = d.x)) (andB (decide (c.y = d.y)) true) = decide (c = d) := by
  cases c; cases d; simp [andB, Bool.decide_and]
theorem m_spec_PaintOk (p : TPaint) : spec_PaintOk p = some (paintOk p) := by
  unfold spec_PaintOk paintOk
  rw [m_spec_ColorOk, bnd_some]
  have e1 := col_eq (c := p.last) (d := ⟨0, 0, 0, 0⟩)
  have e2 := pt_eq (c := p.from_) (d := ⟨0, 0⟩)
  have e3 := pt_eq (c := p.to) (d := ⟨0, 0⟩)
  have e4 := pt_eq (c := p.from_) (d := p.to)
  dsimp only at e1 e2 e3
  rw [e1, e2, e3, e4, m_spec_ColorOk, t_PointOk, t_PointOk]
  show cnd (colOk p.first) _ _ = _
  cases colOk p.first
  · rfl
  rw [cnd_true, Bool.true_and]
  by_cases h1 : p.kind = 1
  · rw [h1, iqt, cnd_true, if_pos rfl]
    cases decide (p.last = ⟨0, 0, 0, 0⟩) <;> simp only [cnd_true, cnd_false, Bool.false_and, Bool.true_and]
    cases decide (p.from_ = ⟨0, 0⟩) <;> simp
  · rw [iqf h1, cnd_false, if_neg h1]
    by_cases h2 : p.kind = 2
    · rw [h2, iqt, cnd_true]
      simp only [bnd_some, decide_true, Bool.true_and]
      show cnd (colOk p.last) _ _ = _
      cases colOk p.last <;> simp only [cnd_true, cnd_false, Bool.false_and, Bool.true_and]
      show cnd (pointOk p.from_) _ _ = _
      cases pointOk p.from_ <;> simp only [cnd_true, cnd_false, Bool.false_and, Bool.true_and]
      show cnd (pointOk p.to) _ _ = _
      cases pointOk p.to <;> simp
    · rw [iqf h2, cnd_false]; simp [h2]
theorem m_impl_PaintOk (p : TPaint) : impl_PaintOk p = some (paintOk p) := by
  unfold impl_PaintOk paintOk
  have e1 := col_eq (c := p.last) (d := ⟨0, 0, 0, 0⟩)
  have e2 := pt_eq (c := p.from_) (d := ⟨0, 0⟩)
  have e3 := pt_eq (c := p.to) (d := ⟨0, 0⟩)
  have e4 := pt_eq (c := p.from_) (d := p.to)
  dsimp only at e1 e2 e3
  by_cases h1 : p.kind = 1
  · rw [h1, iqt, cnd_true, m_impl_ColorOk, bnd_some, if_pos rfl]
    show cnd (colOk p.first) _ _ = _
    cases colOk p.first
    · rfl
    rw [cnd_true, Bool.true_and]
    congr 1
    rw [← e1, ← e2, ← e3]
    simp only [andB, decide_true, Bool.true_and, Bool.and_true, Bool.and_assoc]
  · rw [iqf h1, cnd_false, if_neg h1]
    by_cases h2 : p.kind = 2
    · rw [h2, iqt, cnd_true, e4, m_impl_ColorOk, m_impl_ColorOk, s_PointOk, s_PointOk, t_PointOk, t_PointOk]
      simp only [bnd_some, decide_true, Bool.true_and]
      show cnd (colOk p.first) _ _ = _
      cases colOk p.first <;> simp only [cnd_true, cnd_false, Bool.false_and, Bool.true_and]
      show cnd (colOk p.last) _ _ = _
      cases colOk p.last <;> simp only [cnd_true, cnd_false, Bool.false_and, Bool.true_and]
      show cnd (pointOk p.from_) _ _ = _
      cases pointOk p.from_ <;> simp only [cnd_true, cnd_false, Bool.false_and, Bool.true_and]
      show cnd (pointOk p.to) _ _ = _
      cases pointOk p.to <;> simp
    · rw [iqf h2, cnd_false]; simp [h2]
/-! ## PaintMask -/
/-! ## What blending yields -/
/-! ## Draws: each is told -/
theorem loopI_tot {σ ρ : Type} {f : σ → Option (σ ⊕ ρ)} (I : σ → Prop) (Q : ρ → Prop) (rk : σ → Nat) (hs : ∀ x, I x → (∃ y, f x = some (.inl y) ∧ I y ∧ rk y < rk x) ∨ (∃ r, f x = some (.inr r) ∧ Q r)) {x : σ} (hx : I x) : ∃ r, loopI f x = some r ∧ Q r := by
  have key : ∀ (n : Nat) (x : σ), rk x < n → I x → ∃ r, loopI f x = some r ∧ Q r := by
    intro n
    induction n with
    | zero => intro x h; omega
    | succ n ih =>
      intro x h hI
      rcases hs x hI with ⟨y, h1, h2, h3⟩ | ⟨r, h1, h2⟩
      · rw [loopI_go h1]; exact ih y (by omega) h2
      · exact ⟨r, loopI_end h1, h2⟩
  exact key (rk x + 1) x (by omega) hx
def need (v : Int) : Int := if v = 1 then 1 else if v = 2 then 1 else if v = 3 then 2 else if v = 4 then 3 else if v = 5 then 0 else -1
theorem m_NeedOf (v : Int) : spec_NeedOf v = some (need v) := by
  unfold spec_NeedOf
  rw [m_spec_l01In, bnd_some]
  cases h : tin v 1 5 with
  | false =>
    have h' : ¬ (1 ≤ v ∧ v ≤ 5) := by rw [← tin_t, h]; simp
    rw [cnd_false]; unfold need
    rw [if_neg (by omega), if_neg (by omega), if_neg (by omega), if_neg (by omega), if_neg (by omega)]
  | true =>
    rw [tin_t] at h
    have : v = 1 ∨ v = 2 ∨ v = 3 ∨ v = 4 ∨ v = 5 := by omega
    rcases this with rfl | rfl | rfl | rfl | rfl <;> decide
theorem need_bd (v : Int) : -1 ≤ need v ∧ need v ≤ 3 := by unfold need; repeat' split <;> omega
/-! ## Lines and masks of drawn paths: each is told -/
def nsum (vs : List Int) (i : Nat) : Int := ((vs.take i).map need).sum
theorem nsum_succ {vs : List Int} {i : Nat} (h : i < vs.length) : nsum vs (i + 1) = nsum vs i + need vs[i] := by
  unfold nsum
  rw [List.take_add_one, List.getElem?_eq_getElem h, List.map_append, List.sum_append]
  simp
structure VOk (vs : List Int) (n : Int) : Prop where
  all : ∀ i (h : i < vs.length), 0 ≤ need vs[i]
  one : ∀ h : 0 < vs.length, vs[0] = 1
  sum : nsum vs vs.length = n
theorem nsum_bd {vs : List Int} : ∀ i, i ≤ vs.length → (∀ j (h : j < vs.length), j < i → 0 ≤ need vs[j]) → 0 ≤ nsum vs i ∧ nsum vs i ≤ 3 * (i : Int) := by
  intro i
  induction i with
  | zero => intro _ _; simp [nsum]
  | succ i ih =>
    intro hi h
    have h1 := ih (by omega) (fun j hj hji => h j hj (by omega))
    have h2 := h i (by omega) (by omega)
    have h3 := need_bd vs[i]
    rw [nsum_succ (by omega)]
    omega
theorem pathOk_t (p : TPath) : ∃ b, spec_PathOk p = some b ∧ (b = true → p.verbs.length ≤ 24 ∧ p.points.length ≤ 24 ∧ VOk p.verbs (p.points.length : Int)) := by
  unfold spec_PathOk
  by_cases h1 : (p.points.length : Int) ≤ 24
  case neg => rw [ilf (by omega), cnd_false]; exact ⟨false, rfl, fun h => by cases h⟩
  by_cases h2 : (p.verbs.length : Int) ≤ 24
  case neg => rw [ilt h1, cnd_true, ilf (by omega), cnd_false]; exact ⟨false, rfl, fun h => by cases h⟩
  rw [ilt h1, ilt h2, cnd_true, cnd_true]
  obtain ⟨r, e1, e2⟩ := loopI_tot (f := spec_PathOk_l0 p) (fun s => ∃ i : Nat, s.2 = (i : Int) ∧ i ≤ p.verbs.length ∧ s.1 = nsum p.verbs i ∧ (∀ j (h : j < p.verbs.length), j < i → 0 ≤ need p.verbs[j]) ∧ (∀ h : 0 < p.verbs.length, 0 < i → p.verbs[0] = 1))
    (fun r => match r with | .inl y => y = nsum p.verbs p.verbs.length ∧ (∀ j (h : j < p.verbs.length), 0 ≤ need p.verbs[j]) ∧ (∀ h : 0 < p.verbs.length, p.verbs[0] = 1) | .inr _ => True) (fun s => (p.verbs.length - s.2).toNat)
    (by
      rintro ⟨x, y⟩ ⟨i, hy, hi, hx, ha, ho⟩
      dsimp only at hy hx
      subst hy; subst hx
      have hb := nsum_bd i hi ha
      rw [spec_PathOk_l0]
      by_cases hlt : i < p.verbs.length
      case neg =>
        right
        rw [ilt (by omega), cnd_true]
        have : i = p.verbs.length := by omega
        subst this
        exact ⟨_, rfl, rfl, fun j h => ha j h h, fun h => ho h h⟩
      have nb := need_bd p.verbs[i]
      rw [ilf (by omega), cnd_false, idx_nat hlt, bnd_some, m_NeedOf, bnd_some]
      by_cases hn : 0 ≤ need p.verbs[i]
      case neg => right; rw [ilf (by omega), cnd_false]; exact ⟨_, rfl, trivial⟩
      rw [ilt hn, cnd_true, wr_in (n := nsum p.verbs i + need p.verbs[i]) (by omega), wr_in (n := (i : Int) + 1) (by omega)]
      have step : ∀ ho' : (∀ h : 0 < p.verbs.length, p.verbs[0] = 1), ∃ k : Nat, (nsum p.verbs i + need p.verbs[i], (i : Int) + 1).2 = (k : Int) ∧ k ≤ p.verbs.length ∧ (nsum p.verbs i + need p.verbs[i], (i : Int) + 1).1 = nsum p.verbs k ∧ (∀ j (h : j < p.verbs.length), j < k → 0 ≤ need p.verbs[j]) ∧ (∀ h : 0 < p.verbs.length, 0 < k → p.verbs[0] = 1) := by
        intro ho'
        refine ⟨i + 1, by simp, by omega, (nsum_succ hlt).symm, fun j h hj => ?_, fun h _ => ho' h⟩
        by_cases hji : j = i
        · subst hji; exact hn
        · exact ha j h (by omega)
      by_cases h0 : i = 0
      · subst h0
        have z : ((0 : Nat) : Int) = 0 := rfl
        rw [z, iqt, cnd_true]
        by_cases hv : p.verbs[0] = 1
        · left
          rw [hv, iqt, cnd_true]
          rw [hv] at step
          exact ⟨_, rfl, step (fun _ => hv), by (try dsimp only) <;> omega⟩
        · right; rw [iqf hv, cnd_false]; exact ⟨_, rfl, trivial⟩
      · rw [iqf (by omega), cnd_false, wr_in (n := (i : Int) - 1) (by omega)]
        obtain ⟨q, hq, _⟩ := idx_of (l := p.verbs) (i := (i : Int) - 1) (by omega) (by omega)
        have ho' : ∀ h : 0 < p.verbs.length, p.verbs[0] = 1 := fun h => ho h (by omega)
        rw [hq, bnd_some]
        by_cases h5 : q = 5
        · rw [h5, iqt, cnd_true]
          by_cases hv : p.verbs[i] = 1
          · left
            rw [hv, iqt, cnd_true]
            rw [hv] at step
            exact ⟨_, rfl, step ho', by (try dsimp only) <;> omega⟩
          · right; rw [iqf hv, cnd_false]; exact ⟨_, rfl, trivial⟩
        · left
          rw [iqf h5, cnd_false]
          exact ⟨_, rfl, step ho', by (try dsimp only) <;> omega⟩)
    (x := (0, 0)) ⟨0, rfl, by omega, by simp [nsum], fun j _ h => by omega, fun _ h => by omega⟩
  rw [e1, bnd_some]
  rcases r with y | u
  · have key := loopI_row (l := p.points) (f := spec_PathOk_l1 p y) (fun q => tin q.x (-8388608) 8388608 && tin q.y (-8388608) 8388608) (by omega) (fun i hi => by rw [spec_PathOk_l1, ilf (by omega), cnd_false, idx_nat hi, bnd_some, t_PointOk, bnd_some]) (by rw [spec_PathOk_l1, ilt (by omega), cnd_true])
    try dsimp only
    rw [key, bnd_some]
    cases p.points.all (fun q => tin q.x (-8388608) 8388608 && tin q.y (-8388608) 8388608)
    · exact ⟨false, rfl, fun h => by cases h⟩
    · refine ⟨ieq y (p.points.length : Int), rfl, fun h => ⟨by omega, by omega, e2.2.1, e2.2.2, ?_⟩⟩
      have : y = (p.points.length : Int) := by simpa [ieq] using h
      rw [← e2.1]; exact this
  · exact ⟨false, rfl, fun h => by cases h⟩
/-! ## Masks of lines -/
/-! ## FnLayers -/
/-! ## FnPaintsOn -/
/-! ## Scenes: the program's word is the reference's -/
theorem loopI_congr {σ ρ : Type} {f g : σ → Option (σ ⊕ ρ)} (I : σ → Prop) (h : ∀ x, I x → f x = g x) (hi : ∀ x y, I x → f x = some (.inl y) → I y) {x : σ} (hx : I x) : loopI f x = loopI g x := by
  have key : ∀ (k : Nat) (x : σ), I x → loopN' f k x = loopN' g k x := by
    intro k
    induction k with
    | zero => intro x _; rfl
    | succ k ih =>
      intro x hI
      rw [loopN', loopN', ← h x hI]
      cases hf : f x with
      | none => rfl
      | some o => cases o with
        | inl y => exact ih y (hi x y hI hf)
        | inr r => rfl
  refine opt_ext fun r => ?_
  rw [loopI_iff, loopI_iff]
  constructor
  · rintro ⟨k, hk⟩; exact ⟨k, by rw [← key k x hx]; exact hk⟩
  · rintro ⟨k, hk⟩; exact ⟨k, by rw [key k x hx]; exact hk⟩
def matOk (m : TMat) : Bool := tin m.a (-1048576) 1048576 && tin m.b (-1048576) 1048576 && tin m.c (-1048576) 1048576 && tin m.d (-1048576) 1048576 && tin m.e (-8388608) 8388608 && tin m.f (-8388608) 8388608
theorem m_spec_MatOk (m : TMat) : spec_MatOk m = some (matOk m) := by
  unfold spec_MatOk matOk
  have e : IntKind.i64.wrap (0 - 1048576) = -1048576 := by decide
  rw [e]
  simp only [m_spec_l01In, bnd_some]
  cases tin m.a (-1048576) 1048576 <;> cases tin m.b (-1048576) 1048576 <;> cases tin m.c (-1048576) 1048576 <;> cases tin m.d (-1048576) 1048576 <;> cases tin m.e (-8388608) 8388608 <;> simp
theorem m_impl_MatOk (m : TMat) : impl_MatOk m = some (matOk m) := by
  unfold impl_MatOk matOk
  have key := loopI_row (l := [m.a, m.b, m.c, m.d]) (f := impl_MatOk_l0 m) (fun x => tin x (-1048576) 1048576) (by simp) (fun i hi => by
    have hi' : i < 4 := hi
    rw [impl_MatOk_l0, ilf (by omega), cnd_false, idx_nat hi, bnd_some, m_impl_inRange, bnd_some]) (by rw [impl_MatOk_l0, ilt (by simp), cnd_true])
  rw [key]
  unfold impl_isFar
  simp only [m_impl_inRange, bnd_some, List.all_cons, List.all_nil, Bool.and_true]
  cases tin m.a (-1048576) 1048576 <;> cases tin m.b (-1048576) 1048576 <;> cases tin m.c (-1048576) 1048576 <;> cases tin m.d (-1048576) 1048576 <;> cases tin m.e (-8388608) 8388608 <;> simp
theorem m_impl_NeedOf (v : Int) : impl_NeedOf v = some (need v) := by
  unfold impl_NeedOf need
  by_cases h1 : v = 1
  · subst h1; simp [ieq]
  by_cases h2 : v = 2
  · subst h2; simp [ieq]
  by_cases h3 : v = 3
  · subst h3; simp [ieq]
  by_cases h4 : v = 4
  · subst h4; simp [ieq]
  by_cases h5 : v = 5
  · subst h5; simp [ieq]
  simp [ieq, h1, h2, h3, h4, h5]
theorem pathL0_eq (p : TPath) (hl : p.verbs.length ≤ 24) : loopI (impl_PathOk_l0 p) (0, 0) = loopI (spec_PathOk_l0 p) (0, 0) := by
  refine loopI_congr (fun s => ∃ i : Nat, s.2 = (i : Int) ∧ i ≤ p.verbs.length) ?_ ?_ ⟨0, rfl, by omega⟩
  · rintro ⟨x, y⟩ ⟨i, hy, hi⟩
    dsimp only at hy
    subst hy
    rw [impl_PathOk_l0, spec_PathOk_l0]
    by_cases hlt : i < p.verbs.length
    case neg => rw [ilt (by omega), cnd_true, cnd_true]
    rw [ilf (by omega), cnd_false, cnd_false, idx_nat hlt, bnd_some, bnd_some, m_impl_NeedOf, m_NeedOf, bnd_some, bnd_some]
    by_cases h0 : i = 0
    · subst h0
      have z : ((0 : Nat) : Int) = 0 := rfl
      rw [z, iqt, cnd_true, cnd_true]
    · rw [iqf (by omega), cnd_false, cnd_false, wr_in (n := (i : Int) - 1) (by omega)]
      obtain ⟨q, hq, _⟩ := idx_of (l := p.verbs) (i := (i : Int) - 1) (by omega) (by omega)
      rw [hq, bnd_some, bnd_some]
  · rintro ⟨x, y⟩ ⟨x', y'⟩ ⟨i, hy, hi⟩ hf
    dsimp only at hy
    subst hy
    rw [impl_PathOk_l0] at hf
    by_cases hlt : i < p.verbs.length
    case neg => rw [ilt (by omega), cnd_true] at hf; cases hf
    refine ⟨i + 1, ?_, by omega⟩
    rw [ilf (by omega), cnd_false, idx_nat hlt, bnd_some, m_impl_NeedOf, bnd_some, wr_in (n := (i : Int) + 1) (by omega)] at hf
    have fin : ∀ {z : Int}, (some (.inl (z, (i : Int) + 1)) : Option ((Int × Int) ⊕ (Int ⊕ Unit))) = some (.inl (x', y')) → y' = ((i + 1 : Nat) : Int) := by
      intro z h; simp only [Option.some.injEq, Sum.inl.injEq, Prod.mk.injEq] at h; omega
    by_cases h0 : i = 0
    · subst h0
      have z : ((0 : Nat) : Int) = 0 := rfl
      rw [z, iqt, cnd_true] at hf
      cases h1 : ile 0 (need p.verbs[0]) <;> rw [h1] at hf
      · cases hf
      · rw [cnd_true] at hf
        cases h2 : ieq p.verbs[0] 1 <;> rw [h2] at hf
        · cases hf
        · exact fin hf
    · rw [iqf (by omega), cnd_false, wr_in (n := (i : Int) - 1) (by omega)] at hf
      obtain ⟨q, hq, _⟩ := idx_of (l := p.verbs) (i := (i : Int) - 1) (by omega) (by omega)
      rw [hq, bnd_some] at hf
      cases h1 : ile 0 (need p.verbs[i]) <;> rw [h1] at hf
      · cases hf
      · rw [cnd_true] at hf
        cases h3 : ieq q 5 <;> rw [h3] at hf
        · exact fin hf
        · rw [cnd_true] at hf
          cases h2 : ieq p.verbs[i] 1 <;> rw [h2] at hf
          · cases hf
          · exact fin hf
theorem pathL0_t (p : TPath) (hl : p.verbs.length ≤ 24) : ∃ r, loopI (spec_PathOk_l0 p) (0, 0) = some r := by
  obtain ⟨r, e, _⟩ := loopI_tot (f := spec_PathOk_l0 p) (fun s => ∃ i : Nat, s.2 = (i : Int) ∧ i ≤ p.verbs.length) (fun _ => True) (fun s => ((p.verbs.length : Int) - s.2).toNat)
    (by
      rintro ⟨x, y⟩ ⟨i, hy, hi⟩
      dsimp only at hy
      subst hy
      rw [spec_PathOk_l0]
      by_cases hlt : i < p.verbs.length
      case neg => right; rw [ilt (by omega), cnd_true]; exact ⟨_, rfl, trivial⟩
      rw [ilf (by omega), cnd_false, idx_nat hlt, bnd_some, m_NeedOf, bnd_some, wr_in (n := (i : Int) + 1) (by omega)]
      have fin : ∀ z : Int, ∃ y : Int × Int, (some (.inl (z, (i : Int) + 1)) : Option ((Int × Int) ⊕ (Int ⊕ Unit))) = some (.inl y) ∧ (∃ k : Nat, y.2 = (k : Int) ∧ k ≤ p.verbs.length) ∧ ((p.verbs.length : Int) - y.2).toNat < ((p.verbs.length : Int) - (x, (i : Int)).2).toNat := by
        intro z
        exact ⟨_, rfl, ⟨i + 1, by simp, by omega⟩, by (try dsimp only) <;> omega⟩
      cases ile 0 (need p.verbs[i])
      · right; exact ⟨_, rfl, trivial⟩
      rw [cnd_true]
      by_cases h0 : i = 0
      · subst h0
        have z : ((0 : Nat) : Int) = 0 := rfl
        rw [z, iqt, cnd_true]
        cases ieq p.verbs[0] 1
        · right; exact ⟨_, rfl, trivial⟩
        · left; exact fin _
      · rw [iqf (by omega), cnd_false, wr_in (n := (i : Int) - 1) (by omega)]
        obtain ⟨q, hq, _⟩ := idx_of (l := p.verbs) (i := (i : Int) - 1) (by omega) (by omega)
        rw [hq, bnd_some]
        cases ieq q 5
        · left; exact fin _
        · rw [cnd_true]
          cases ieq p.verbs[i] 1
          · right; exact ⟨_, rfl, trivial⟩
          · left; exact fin _)
    (x := (0, 0)) ⟨0, rfl, by omega⟩
  exact ⟨r, e⟩
theorem s_PathOk (p : TPath) : impl_PathOk p = spec_PathOk p ∧ ∃ b, spec_PathOk p = some b := by
  obtain ⟨b, e, _⟩ := pathOk_t p
  refine ⟨?_, b, e⟩
  unfold impl_PathOk spec_PathOk
  by_cases h1 : (p.points.length : Int) ≤ 24
  case neg => rw [ilf (by omega), cnd_false, cnd_false]
  by_cases h2 : (p.verbs.length : Int) ≤ 24
  case neg => rw [ilt h1, cnd_true, cnd_true, ilf (by omega), cnd_false, cnd_false]
  rw [ilt h1, ilt h2]
  simp only [cnd_true]
  obtain ⟨r, er⟩ := pathL0_t p (by omega)
  rw [pathL0_eq p (by omega), er]
  have k1 := loopI_row (l := p.points) (f := impl_pointsOk_l0 p.points) (fun q => tin q.x (-8388608) 8388608 && tin q.y (-8388608) 8388608) (by omega) (fun i hi => by rw [impl_pointsOk_l0, ilf (by omega), cnd_false, idx_nat hi, bnd_some, s_PointOk, t_PointOk, bnd_some]) (by rw [impl_pointsOk_l0, ilt (by omega), cnd_true])
  unfold impl_pointsOk
  rw [k1]
  simp only [bnd_some]
  rcases r with y | u
  · have k2 := loopI_row (l := p.points) (f := spec_PathOk_l1 p y) (fun q => tin q.x (-8388608) 8388608 && tin q.y (-8388608) 8388608) (by omega) (fun i hi => by rw [spec_PathOk_l1, ilf (by omega), cnd_false, idx_nat hi, bnd_some, t_PointOk, bnd_some]) (by rw [spec_PathOk_l1, ilt (by omega), cnd_true])
    simp only
    rw [k2]
    cases p.points.all (fun q => tin q.x (-8388608) 8388608 && tin q.y (-8388608) 8388608) <;> rfl
  · simp only
    cases p.points.all (fun q => tin q.x (-8388608) 8388608 && tin q.y (-8388608) 8388608) <;> rfl
theorem s_DashOk {l : List Int} (hl : l.length ≤ 1048576) : impl_DashOk l = spec_DashOk l ∧ ∃ b, spec_DashOk l = some b := by
  have k1 := loopI_row (l := l) (f := impl_DashOk_l0 l) (fun x => tin x 1 20000) (by omega) (fun i hi => by rw [impl_DashOk_l0, ilf (by omega), cnd_false, idx_nat hi, bnd_some, m_impl_inRange, bnd_some]) (by rw [impl_DashOk_l0, ilt (by omega), cnd_true])
  have k2 := loopI_row (l := l) (f := spec_DashOk_l0 l) (fun x => tin x 1 20000) (by omega) (fun i hi => by rw [spec_DashOk_l0, ilf (by omega), cnd_false, idx_nat hi, bnd_some, m_spec_l01In, bnd_some]) (by rw [spec_DashOk_l0, ilt (by omega), cnd_true])
  unfold impl_DashOk spec_DashOk
  rw [k1, k2]
  cases l.all (fun x => tin x 1 20000)
  · (first | exact ⟨rfl, _, rfl⟩ | exact ⟨trivial, _, rfl⟩)
  · simp only [if_true, bnd_some]
    cases ieq ((l.length : Int).tmod 2) 0 <;> (first | exact ⟨rfl, _, rfl⟩ | exact ⟨trivial, _, rfl⟩)
theorem s_NodeOk {x : TNode} (hl : x.dashes.length ≤ 1048576) : impl_NodeOk x = spec_NodeOk x ∧ ∃ b, spec_NodeOk x = some b := by
  obtain ⟨d1, db, d2⟩ := s_DashOk hl
  obtain ⟨p1, pb, p2⟩ := s_PathOk x.path
  obtain ⟨q1, qb, q2⟩ := s_PathOk x.clip
  unfold impl_NodeOk spec_NodeOk impl_isMode impl_Path_isNone spec_l15NoPath spec_l15NoPaint
  rw [d1, d2, p1, p2, q1, q2]
  simp only [m_impl_inRange, m_spec_l01In, bnd_some, m_impl_MatOk, m_spec_MatOk, m_impl_isByte, m_impl_PaintOk, m_spec_PaintOk]
  cases tin x.id 1 99
  · (first | exact ⟨rfl, _, rfl⟩ | exact ⟨trivial, _, rfl⟩)
  cases tin x.parent 0 99
  · (first | exact ⟨rfl, _, rfl⟩ | exact ⟨trivial, _, rfl⟩)
  cases ieq x.id x.parent
  case true => (first | exact ⟨rfl, _, rfl⟩ | exact ⟨trivial, _, rfl⟩)
  cases matOk x.mat
  · (first | exact ⟨rfl, _, rfl⟩ | exact ⟨trivial, _, rfl⟩)
  cases pb
  · (first | exact ⟨rfl, _, rfl⟩ | exact ⟨trivial, _, rfl⟩)
  cases qb
  · (first | exact ⟨rfl, _, rfl⟩ | exact ⟨trivial, _, rfl⟩)
  cases tin x.width 0 2048
  · (first | exact ⟨rfl, _, rfl⟩ | exact ⟨trivial, _, rfl⟩)
  cases db
  · (first | exact ⟨rfl, _, rfl⟩ | exact ⟨trivial, _, rfl⟩)
  cases tin x.mode 1 5
  · (first | exact ⟨rfl, _, rfl⟩ | exact ⟨trivial, _, rfl⟩)
  cases tin x.fade 0 255
  · (first | exact ⟨rfl, _, rfl⟩ | exact ⟨trivial, _, rfl⟩)
  cases x.group
  · (first | exact ⟨rfl, _, rfl⟩ | exact ⟨trivial, _, rfl⟩)
  simp only [cnd_true, cnd_false]
  generalize (andB (decide (x.paint.kind = 0)) _) = u
  cases u <;> cases ieq (x.path.verbs.length : Int) 0 <;> simp only [cnd_true, cnd_false, bnd_some]
  · (first | exact ⟨rfl, _, rfl⟩ | exact ⟨trivial, _, rfl⟩)
  · cases ieq (x.path.points.length : Int) 0 <;> (first | exact ⟨rfl, _, rfl⟩ | exact ⟨trivial, _, rfl⟩)
  · (first | exact ⟨rfl, _, rfl⟩ | exact ⟨trivial, _, rfl⟩)
  · cases ieq (x.path.points.length : Int) 0 <;> simp only [cnd_true, cnd_false]
    · (first | exact ⟨rfl, _, rfl⟩ | exact ⟨trivial, _, rfl⟩)
    · cases ieq x.width 0 <;> simp only [cnd_true, cnd_false]
      · (first | exact ⟨rfl, _, rfl⟩ | exact ⟨trivial, _, rfl⟩)
      · cases ieq (x.dashes.length : Int) 0 <;> (first | exact ⟨rfl, _, rfl⟩ | exact ⟨trivial, _, rfl⟩)
def nodeAt (s : TScene) (id : Int) : Int := fst (fun k => ieq k.id id) s.nodes
theorem fst_in {α : Type} {q : α → Bool} {l : List α} (h : 0 ≤ fst q l) : ∃ x, idx l (fst q l) = some x := by
  unfold fst at h ⊢
  cases hq : l.findIdx? q with
  | none => rw [hq] at h; simp at h
  | some i =>
    rw [List.findIdx?_eq_some_iff_getElem] at hq
    obtain ⟨h1, _⟩ := hq
    exact ⟨_, idx_nat h1⟩
theorem m_impl_NodeAt {s : TScene} {id : Int} (h : s.nodes.length ≤ 1048576) : impl_NodeAt s id = some (nodeAt s id) := by
  unfold impl_NodeAt slices_IndexFunc_Node_NodeAt_1
  have e : s.nodes.length ≤ 9223372036854775807 := by omega
  rw [loopI_index (l := s.nodes) (fun k => ieq k.id id) (.inl ()) .inr e (fun i hi => ?_) ?_]
  · unfold nodeAt fst
    cases List.findIdx? (fun k : TNode => ieq k.id id) s.nodes <;> rfl
  · rw [slices_IndexFunc_Node_NodeAt_1_l0, ilt (by omega), cnd_true]
  · rw [slices_IndexFunc_Node_NodeAt_1_l0, ilf (by omega), cnd_false, idx_nat hi, bnd_some, impl_NodeAt_1, bnd_some]
theorem m_spec_NodeAt {s : TScene} {id : Int} (h : s.nodes.length ≤ 1048576) : spec_NodeAt s id = some (nodeAt s id) := by
  unfold spec_NodeAt
  have e : s.nodes.length ≤ 9223372036854775807 := by omega
  rw [loopI_index (l := s.nodes) (fun k => ieq k.id id) (.inl ()) .inr e (fun i hi => ?_) ?_]
  · unfold nodeAt fst
    cases List.findIdx? (fun k : TNode => ieq k.id id) s.nodes <;> rfl
  · rw [spec_NodeAt_l0, ilt (by omega), cnd_true]
  · rw [spec_NodeAt_l0, ilf (by omega), cnd_false, idx_nat hi, bnd_some]
def outI : Int ⊕ Unit → Int
  | .inl y => y
  | .inr _ => 0
theorem depth_eq {s : TScene} (h : s.nodes.length ≤ 1048576) : ∀ (m : Nat) (n : Int) (id : Int), n + (m : Int) = 9 → 1 ≤ n → id ≠ 0 → ∃ q q', loopI (impl_DepthOf_l0 s) (id, n) = some q ∧ loopI (spec_DepthOf_l0 s) (id, n - 1, n - 1) = some q' ∧ outI q = outI q' := by
  intro m
  induction m with
  | zero =>
    intro n id hn h1 hid
    have : n = 9 := by omega
    subst this
    have e1 : loopI (impl_DepthOf_l0 s) (id, 9) = some (.inr ()) := loopI_end (by rw [impl_DepthOf_l0, ilf (by omega), cnd_false])
    by_cases ha : 0 ≤ nodeAt s id
    · obtain ⟨x, hx⟩ := fst_in ha
      have hx' : idx s.nodes (nodeAt s id) = some x := hx
      have e2 : spec_DepthOf_l0 s (id, 9 - 1, 9 - 1) = some (.inl (x.parent, 9, 9)) := by
        rw [spec_DepthOf_l0, ilt (by omega), cnd_true, iqf hid, cnd_false, m_spec_NodeAt h, bnd_some, ilt ha, cnd_true, hx', bnd_some, wr_in (by omega)]; rfl
      have e3 : loopI (spec_DepthOf_l0 s) (x.parent, 9, 9) = some (.inr ()) := loopI_end (by rw [spec_DepthOf_l0, ilf (by omega), cnd_false])
      exact ⟨_, _, e1, by rw [loopI_go e2]; exact e3, rfl⟩
    · have e2 : loopI (spec_DepthOf_l0 s) (id, 9 - 1, 9 - 1) = some (.inl 0) := loopI_end (by
        rw [spec_DepthOf_l0, ilt (by omega), cnd_true, iqf hid, cnd_false, m_spec_NodeAt h, bnd_some, ilf (by omega), cnd_false])
      exact ⟨_, _, e1, e2, rfl⟩
  | succ m ih =>
    intro n id hn h1 hid
    by_cases ha : 0 ≤ nodeAt s id
    · obtain ⟨x, hx⟩ := fst_in ha
      have hx' : idx s.nodes (nodeAt s id) = some x := hx
      have e2 : spec_DepthOf_l0 s (id, n - 1, n - 1) = some (.inl (x.parent, n, n)) := by
        rw [spec_DepthOf_l0, ilt (by omega), cnd_true, iqf hid, cnd_false, m_spec_NodeAt h, bnd_some, ilt ha, cnd_true, hx', bnd_some, wr_in (by omega), show n - 1 + 1 = n by omega]
      by_cases hp : x.parent = 0
      · have e1 : loopI (impl_DepthOf_l0 s) (id, n) = some (.inl n) := loopI_end (by
          rw [impl_DepthOf_l0, ilt (by omega), cnd_true, m_impl_NodeAt h, bnd_some, ilt ha, cnd_true, hx', bnd_some, hp, iqt, cnd_true])
        have e3 : loopI (spec_DepthOf_l0 s) (x.parent, n, n) = some (.inl n) := loopI_end (by rw [spec_DepthOf_l0, ilt (by omega), cnd_true, hp, iqt, cnd_true])
        exact ⟨_, _, e1, by rw [loopI_go e2]; exact e3, rfl⟩
      · have e1 : impl_DepthOf_l0 s (id, n) = some (.inl (x.parent, n + 1)) := by
          rw [impl_DepthOf_l0, ilt (by omega), cnd_true, m_impl_NodeAt h, bnd_some, ilt ha, cnd_true, hx', bnd_some, iqf hp, cnd_false, wr_in (by omega)]
        obtain ⟨q, q', f1, f2, f3⟩ := ih (n + 1) x.parent (by omega) (by omega) hp
        have f2' : loopI (spec_DepthOf_l0 s) (x.parent, n, n) = some q' := by
          rw [show n + 1 - 1 = n by omega] at f2; exact f2
        exact ⟨q, q', by rw [loopI_go e1]; exact f1, by rw [loopI_go e2]; exact f2', f3⟩
    · have e1 : loopI (impl_DepthOf_l0 s) (id, n) = some (.inl 0) := loopI_end (by
        rw [impl_DepthOf_l0, ilt (by omega), cnd_true, m_impl_NodeAt h, bnd_some, ilf (by omega), cnd_false])
      have e2 : loopI (spec_DepthOf_l0 s) (id, n - 1, n - 1) = some (.inl 0) := loopI_end (by
        rw [spec_DepthOf_l0, ilt (by omega), cnd_true, iqf hid, cnd_false, m_spec_NodeAt h, bnd_some, ilf (by omega), cnd_false])
      exact ⟨_, _, e1, e2, rfl⟩
theorem s_DepthOf {s : TScene} (h : s.nodes.length ≤ 1048576) (id : Int) : ∃ v, impl_DepthOf s id = some v ∧ spec_DepthOf s id = some v := by
  unfold impl_DepthOf spec_DepthOf
  by_cases hid : id = 0
  · subst hid
    have e : loopI (spec_DepthOf_l0 s) (0, 0, 0) = some (.inl 0) := loopI_end (by rw [spec_DepthOf_l0, ilt (by omega), cnd_true, iqt, cnd_true])
    rw [iqt, cnd_true, e]
    exact ⟨0, rfl, rfl⟩
  · obtain ⟨q, q', e1, e2, e3⟩ := depth_eq h 8 1 id (by omega) (by omega) hid
    have e2' : loopI (spec_DepthOf_l0 s) (id, 0, 0) = some q' := e2
    rw [iqf hid, cnd_false, e1, e2']
    refine ⟨outI q, ?_, ?_⟩
    · cases q <;> rfl
    · rw [e3]; cases q' <;> rfl
structure RowsS (s : TScene) : Prop where
  n : s.nodes.length ≤ 1048576
  d : ∀ x ∈ s.nodes, x.dashes.length ≤ 1048576
theorem s_SceneOk {s : TScene} (h : RowsS s) : impl_SceneOk s = spec_SceneOk s ∧ ∃ b, spec_SceneOk s = some b := by
  have hn := h.n
  unfold impl_SceneOk spec_SceneOk
  by_cases h8 : (s.nodes.length : Int) ≤ 8
  case neg => rw [ilf (by omega), cnd_false, cnd_false]; (first | exact ⟨rfl, _, rfl⟩ | exact ⟨trivial, _, rfl⟩)
  rw [ilt h8, cnd_true, cnd_true]
  have step : ∀ (i : Nat) (hi : i < s.nodes.length), ∃ b : Bool, impl_SceneOk_l0 s (i : Int) = cnd b (some (.inl (IntKind.i64.wrap ((i : Int) + 1)))) (some (.inr (.inr ()))) ∧ spec_SceneOk_l0 s (i : Int) = cnd b (some (.inl (IntKind.i64.wrap ((i : Int) + 1)))) (some (.inr (.inr ()))) := by
    intro i hi
    obtain ⟨n1, nb, n2⟩ := s_NodeOk (h.d _ (List.getElem_mem hi))
    obtain ⟨v, v1, v2⟩ := s_DepthOf hn (s.nodes[i]).id
    rw [impl_SceneOk_l0, spec_SceneOk_l0, ilf (by omega), cnd_false, cnd_false, idx_nat hi, bnd_some, bnd_some, n1, n2, bnd_some, bnd_some]
    cases nb
    · exact ⟨false, rfl, rfl⟩
    rw [cnd_true, cnd_true, m_impl_NodeAt hn, m_spec_NodeAt hn, bnd_some, bnd_some]
    cases ieq (nodeAt s (s.nodes[i]).id) (i : Int)
    · exact ⟨false, rfl, rfl⟩
    rw [cnd_true, cnd_true, v2, bnd_some, m_spec_l01In, bnd_some, m_spec_NodeAt hn]
    unfold impl_Scene_isParent
    rw [m_impl_NodeAt hn, bnd_some]
    by_cases hp : (s.nodes[i]).parent = 0
    · rw [hp, iqt, cnd_true, bnd_some, cnd_true, v1, bnd_some, m_impl_inRange, bnd_some, bnd_some, cnd_true]
      exact ⟨tin v 1 4, rfl, rfl⟩
    · rw [iqf hp, cnd_false, bnd_some, cnd_false]
      by_cases ha : 0 ≤ nodeAt s (s.nodes[i]).parent
      · obtain ⟨x, hx⟩ := fst_in ha
        have hx' : idx s.nodes (nodeAt s (s.nodes[i]).parent) = some x := hx
        rw [ilt ha, cnd_true, cnd_true, hx', bnd_some, bnd_some, bnd_some, v1, bnd_some, m_impl_inRange, bnd_some]
        refine ⟨x.group && tin v 1 4, ?_, ?_⟩
        · cases x.group <;> cases tin v 1 4 <;> rfl
        · cases x.group <;> cases tin v 1 4 <;> rfl
      · rw [ilf (by omega), cnd_false, cnd_false, bnd_some, cnd_false]
        refine ⟨false, rfl, ?_⟩
        cases tin v 1 4 <;> rfl
  have hc : ∀ (i : Nat), ∃ b : Bool, ∀ hi : i < s.nodes.length, impl_SceneOk_l0 s (i : Int) = cnd b (some (.inl (IntKind.i64.wrap ((i : Int) + 1)))) (some (.inr (.inr ()))) ∧ spec_SceneOk_l0 s (i : Int) = cnd b (some (.inl (IntKind.i64.wrap ((i : Int) + 1)))) (some (.inr (.inr ()))) := by
    intro i
    by_cases hi : i < s.nodes.length
    · obtain ⟨b, h1⟩ := step i hi; exact ⟨b, fun _ => h1⟩
    · exact ⟨false, fun h => absurd h hi⟩
  let B : Nat → Bool := fun i => (hc i).choose
  have hB : ∀ i (hi : i < s.nodes.length), impl_SceneOk_l0 s (i : Int) = cnd (B i) (some (.inl (IntKind.i64.wrap ((i : Int) + 1)))) (some (.inr (.inr ()))) ∧ spec_SceneOk_l0 s (i : Int) = cnd (B i) (some (.inl (IntKind.i64.wrap ((i : Int) + 1)))) (some (.inr (.inr ()))) := fun i hi => (hc i).choose_spec hi
  have k1 := loopI_all (f := impl_SceneOk_l0 s) s.nodes.length B (by omega) (fun i hi => (hB i hi).1) (by rw [impl_SceneOk_l0, ilt (by omega), cnd_true])
  have k2 := loopI_all (f := spec_SceneOk_l0 s) s.nodes.length B (by omega) (fun i hi => (hB i hi).2) (by rw [spec_SceneOk_l0, ilt (by omega), cnd_true])
  rw [k1, k2]
  cases (List.range s.nodes.length).all B <;> (first | exact ⟨rfl, _, rfl⟩ | exact ⟨trivial, _, rfl⟩)

/-! ## EngineOk -/
/-! ## EngineNew -/
/-! ## FnSets: draws -/
/-! Copies -/
structure NB (x : TNode) : Prop where
  v : x.path.verbs.length ≤ 1048576
  p : x.path.points.length ≤ 1048576
  d : x.dashes.length ≤ 1048576
  cv : x.clip.verbs.length ≤ 1048576
  cp : x.clip.points.length ≤ 1048576
theorem copy_loop {α : Type} {l : List α} {f : Int × List α → Option ((Int × List α) ⊕ (List α))} (hs : ∀ (i : Nat) (h : i < l.length), f ((i : Int), l.take i) = some (.inl (((i + 1 : Nat) : Int), l.take i ++ [l[i]]))) (he : f ((l.length : Int), l) = some (.inr l)) : loopI f (0, []) = some l := by
  have key := loopI_n (f := f) (fun i => ((i : Int), l.take i)) l.length (r := l) (fun i hi => ?_) (by (try dsimp only); rw [List.take_length]; exact he)
  · exact key
  · try dsimp only
    rw [hs i hi, List.take_add_one, List.getElem?_eq_getElem hi]; rfl
structure SB (s : TScene) : Prop where
  n : s.nodes.length ≤ 1048576
  x : ∀ y ∈ s.nodes, NB y
theorem SB.rows {s : TScene} (h : SB s) : RowsS s := ⟨h.n, fun y hy => (h.x y hy).d⟩
/-! Any scenes and nodes -/
/-! ## FnSets: the law -/
/-! Sameness -/
/-! Right scenes -/
/-! ## Masks drawn are right -/
/-! ## Rows: deleted from, put into -/
/-! ## Caches: right ones, remembered, recalled, forgotten -/
/-! ## Deleting by a test; what is first -/
theorem fst_cases {α : Type} (q : α → Bool) (l : List α) : (fst q l = -1 ∧ ∀ x ∈ l, q x = false) ∨ ∃ (i : Nat) (hi : i < l.length), fst q l = (i : Int) ∧ q l[i] = true ∧ ∀ (k : Nat) (hk : k < i), q l[k] = false := by
  unfold fst
  cases h : l.findIdx? q with
  | none => exact .inl ⟨rfl, List.findIdx?_eq_none_iff.1 h⟩
  | some i =>
    obtain ⟨hi, h1, h2⟩ := List.findIdx?_eq_some_iff_getElem.1 h
    exact .inr ⟨i, hi, rfl, h1, fun k hk => by simpa using h2 k hk⟩
theorem filter_take_succ {α : Type} {p : α → Bool} {l : List α} {j : Nat} (hj : j < l.length) : (l.take (j + 1)).filter p = (l.take j).filter p ++ (if p l[j] then [l[j]] else []) := by
  rw [List.take_add_one, List.getElem?_eq_getElem hj, List.filter_append]
  congr 1
  simp only [Option.toList, List.filter_cons, List.filter_nil]
def isIn (x : Int) (l : List Int) : Bool := l.any fun y => ieq x y
/-! ## Scenes as maps of parents -/
def upOf (s : TScene) (id : Int) : Option Int := (idx s.nodes (nodeAt s id)).map (·.parent)
def ct (p : Int → Option Int) : Nat → Int → Int → Bool
  | 0, id, top => ieq id top
  | f + 1, id, top => if ieq id top then true else match p id with
    | none => false
    | some q => ct p f q top
theorem idx_at {s : TScene} {id : Int} : (0 ≤ nodeAt s id ∧ ∃ x, idx s.nodes (nodeAt s id) = some x ∧ upOf s id = some x.parent ∧ x.id = id ∧ x ∈ s.nodes) ∨ (nodeAt s id < 0 ∧ upOf s id = none ∧ ∀ x ∈ s.nodes, x.id ≠ id) := by
  rcases fst_cases (fun k : TNode => ieq k.id id) s.nodes with ⟨h1, h2⟩ | ⟨i, hi, h1, h2, _⟩
  · right
    have h0 : nodeAt s id = -1 := h1
    refine ⟨by omega, ?_, fun x hx e => ?_⟩
    · unfold upOf; rw [h0]; rfl
    · have := h2 x hx
      rw [e, iqt] at this; cases this
  · left
    have h0 : nodeAt s id = (i : Int) := h1
    refine ⟨by omega, s.nodes[i], by rw [h0, idx_nat hi], ?_, by simpa [ieq] using h2, List.getElem_mem hi⟩
    unfold upOf; rw [h0, idx_nat hi]; rfl
theorem m_comesTo {s : TScene} (h : s.nodes.length ≤ 1048576) (a b : Int) : impl_Scene_comesTo s a b = some (ct (upOf s) 8 a b) := by
  unfold impl_Scene_comesTo
  have key : ∀ (f : Nat) (id n : Int), n + (f : Int) = 8 → 0 ≤ n → ∃ q, loopI (impl_Scene_comesTo_l0 s b) (id, n) = some q ∧ ieq q b = ct (upOf s) f id b := by
    intro f
    induction f with
    | zero =>
      intro id n hn h1
      exact ⟨id, loopI_end (by rw [impl_Scene_comesTo_l0, ilt (by omega), cnd_true]), rfl⟩
    | succ f ih =>
      intro id n hn h1
      by_cases he : id = b
      · exact ⟨id, loopI_end (by rw [impl_Scene_comesTo_l0, ilf (by omega), cnd_false, m_impl_NodeAt h, bnd_some, he, iqt, cnd_true]), by rw [ct, he, iqt, if_pos rfl]⟩
      rcases idx_at (s := s) (id := id) with ⟨ha, x, hx, hp, _⟩ | ⟨ha, hp, _⟩
      · obtain ⟨q, q1, q2⟩ := ih x.parent (n + 1) (by omega) (by omega)
        have e1 : impl_Scene_comesTo_l0 s b (id, n) = some (.inl (x.parent, n + 1)) := by
          rw [impl_Scene_comesTo_l0, ilf (by omega), cnd_false, m_impl_NodeAt h, bnd_some, iqf he, cnd_false, ilt ha, cnd_true, hx, bnd_some, wr_in (by omega)]
        refine ⟨q, by rw [loopI_go e1]; exact q1, ?_⟩
        rw [q2, ct, iqf he, hp]; rfl
      · refine ⟨id, loopI_end (by rw [impl_Scene_comesTo_l0, ilf (by omega), cnd_false, m_impl_NodeAt h, bnd_some, iqf he, cnd_false, ilf (by omega), cnd_false]), ?_⟩
        rw [ct, iqf he, hp]; rfl
  obtain ⟨q, q1, q2⟩ := key 8 a 0 (by omega) (by omega)
  rw [q1, bnd_some, q2]
theorem m_Under {s : TScene} (h : s.nodes.length ≤ 1048576) (a b : Int) : spec_l15Under s a b = some (ct (upOf s) 8 a b) := by
  unfold spec_l15Under
  have key : ∀ (f : Nat) (id n : Int), n + (f : Int) = 8 → 0 ≤ n → ∃ q : Bool ⊕ Unit, loopI (spec_l15Under_l0 s b) (id, n) = some q ∧ (match q with | .inl y => y | .inr _ => false) = ct (upOf s) f id b := by
    intro f
    induction f with
    | zero =>
      intro id n hn h1
      have : n = 8 := by omega
      subst this
      by_cases he : id = b
      · exact ⟨.inl true, loopI_end (by rw [spec_l15Under_l0, ilt (by omega), cnd_true, he, iqt, cnd_true]), by rw [ct, he, iqt]⟩
      rcases idx_at (s := s) (id := id) with ⟨ha, x, hx, hp, _⟩ | ⟨ha, hp, _⟩
      · have e1 : spec_l15Under_l0 s b (id, 8) = some (.inl (x.parent, 9)) := by
          rw [spec_l15Under_l0, ilt (by omega), cnd_true, iqf he, cnd_false, m_spec_NodeAt h, bnd_some, ilt ha, cnd_true, hx, bnd_some, wr_in (by omega)]; rfl
        refine ⟨.inr (), by rw [loopI_go e1]; exact loopI_end (by rw [spec_l15Under_l0, ilf (by omega), cnd_false]), ?_⟩
        rw [ct, iqf he]
      · refine ⟨.inl false, loopI_end (by rw [spec_l15Under_l0, ilt (by omega), cnd_true, iqf he, cnd_false, m_spec_NodeAt h, bnd_some, ilf (by omega), cnd_false]), ?_⟩
        rw [ct, iqf he]
    | succ f ih =>
      intro id n hn h1
      by_cases he : id = b
      · exact ⟨.inl true, loopI_end (by rw [spec_l15Under_l0, ilt (by omega), cnd_true, he, iqt, cnd_true]), by rw [ct, he, iqt]; rfl⟩
      rcases idx_at (s := s) (id := id) with ⟨ha, x, hx, hp, _⟩ | ⟨ha, hp, _⟩
      · obtain ⟨q, q1, q2⟩ := ih x.parent (n + 1) (by omega) (by omega)
        have e1 : spec_l15Under_l0 s b (id, n) = some (.inl (x.parent, n + 1)) := by
          rw [spec_l15Under_l0, ilt (by omega), cnd_true, iqf he, cnd_false, m_spec_NodeAt h, bnd_some, ilt ha, cnd_true, hx, bnd_some, wr_in (by omega)]
        refine ⟨q, by rw [loopI_go e1]; exact q1, ?_⟩
        rw [q2, ct, iqf he, hp]; rfl
      · refine ⟨.inl false, loopI_end (by rw [spec_l15Under_l0, ilt (by omega), cnd_true, iqf he, cnd_false, m_spec_NodeAt h, bnd_some, ilf (by omega), cnd_false]), ?_⟩
        rw [ct, iqf he, hp]; rfl
  obtain ⟨q, q1, q2⟩ := key 8 a 0 (by omega) (by omega)
  rw [q1, bnd_some, ← q2]
  cases q <;> rfl
def underOf (s : TScene) (id : Int) : List Int := if 0 ≤ nodeAt s id then (s.nodes.filter fun x => ct (upOf s) 8 x.id id).map (·.id) else []
theorem m_impl_UnderOf {s : TScene} (h : s.nodes.length ≤ 1048576) (id : Int) : impl_UnderOf s id = some (underOf s id) := by
  unfold impl_UnderOf underOf
  rw [m_impl_NodeAt h, bnd_some]
  by_cases ha : 0 ≤ nodeAt s id
  case neg => rw [ilf (by omega), cnd_false, if_neg ha]
  rw [ilt ha, cnd_true, if_pos ha]
  have key := loopI_n (f := impl_UnderOf_l0 s id) (fun i => (((s.nodes.take i).filter fun x => ct (upOf s) 8 x.id id).map (·.id), (i : Int))) s.nodes.length (r := (s.nodes.filter fun x => ct (upOf s) 8 x.id id).map (·.id)) (fun i hi => ?_) ?_
  · have e : loopI (impl_UnderOf_l0 s id) ([], 0) = some ((s.nodes.filter fun x => ct (upOf s) 8 x.id id).map (·.id)) := key
    rw [e]; rfl
  · try dsimp only
    have kl : (((s.nodes.take i).filter fun x => ct (upOf s) 8 x.id id).map (·.id)).length ≤ s.nodes.length := by
      rw [List.length_map]
      have h1 := List.length_filter_le (fun x : TNode => ct (upOf s) 8 x.id id) (s.nodes.take i)
      rw [List.length_take] at h1; omega
    rw [filter_take_succ hi, List.map_append, impl_UnderOf_l0, ilf (by omega), cnd_false, idx_nat hi, bnd_some, m_comesTo h, bnd_some, wr_in (by omega)]
    cases ct (upOf s) 8 (s.nodes[i]).id id with
    | true => rw [cnd_true, chkP_pos (by omega), nam_eq]; rfl
    | false => rw [cnd_false]; simp
  · try dsimp only
    rw [impl_UnderOf_l0, ilt (by omega), cnd_true, List.take_length]
/-! ## A node placed -/
section
variable {s : TScene} {id p b : Int} {k : Nat}
end

/-! ## A node placed: the program and the reference -/
section
variable {s : TScene} {id p b : Int} {k : Nat}
theorem under_len (hn : s.nodes.length ≤ 1048576) : (underOf s id).length ≤ 1048576 := by
  unfold underOf; split
  · rw [List.length_map]; have := List.length_filter_le (fun x : TNode => ct (upOf s) 8 x.id id) s.nodes; omega
  · simp
end

/-! ## FnPlaces: the law -/
section
variable {s : TScene} {id p b : Int} {k : Nat}
end
/-! ## FnCreates: what is drawn is right -/
/-! ## FnCreates: nodes drawn -/
/-! ## FnCreates: a node more -/
/-! ## FnCreates: created and dropped -/
theorem under_in {s : TScene} {id : Int} (ha : 0 ≤ nodeAt s id) {k : TNode} (hk : k ∈ s.nodes) : isIn k.id (underOf s id) = ct (upOf s) 8 k.id id := by
  rw [Bool.eq_iff_iff]
  unfold isIn underOf
  rw [if_pos ha, List.any_eq_true]
  constructor
  · rintro ⟨y, hy, he⟩
    obtain ⟨z, hz, rfl⟩ := List.mem_map.1 hy
    have e : k.id = z.id := by simpa [ieq] using he
    rw [e]
    exact (List.mem_filter.1 hz).2
  · intro h
    exact ⟨k.id, List.mem_map.2 ⟨k, List.mem_filter.2 ⟨hk, h⟩, rfl⟩, iqt⟩
/-! ## FnExactShowFrame -/
/-! ## Marks of rows of things that hold rows -/
theorem m_markPointS {k : Int} {l : List TPoint} (hk : 0 ≤ k ∧ k ≤ 1125899906842624) (hl : l.length ≤ 1048576) : laws_markPointS k l = some (k + 2 * (l.length : Int), marked (fun k => ⟨k, k + 1⟩) 2 k l.length) := by
  unfold laws_markPointS
  rw [mark_loop (f := laws_markPointS_l0) 2 (fun k => (⟨k, k + 1⟩ : TPoint)) (by omega) hk hl (fun k l => by rw [laws_markPointS_l0, ilt (by omega), cnd_true]) (fun k i l hi hl h0 h1 => by
    rw [laws_markPointS_l0, ilf (by omega), cnd_false, idx_nat hi, bnd_some, nam_eq, Int.toNat_natCast, idx_nat (by rw [List.length_set]; exact hi), bnd_some, nam_eq, wr_in (n := k + 1) (by omega), wr_in (n := k + 1 + 1) (by omega), wr_in (by omega)]
    simp only [List.set_set, List.getElem_set_self]
    rw [show k + 1 + 1 = k + 2 from by omega]; rfl)]
  rfl
theorem m_heldPointS {k : Int} {n : Nat} (hk : 0 ≤ k ∧ k ≤ 1125899906842624) (hl : n ≤ 1048576) : laws_heldPointS (marked (fun k => ⟨k, k + 1⟩) 2 k n) k = some (k + 2 * (n : Int)) := by
  unfold laws_heldPointS
  rw [held_loop (f := laws_heldPointS_l0 (marked (fun k => ⟨k, k + 1⟩) 2 k n)) 2 (fun k => (⟨k, k + 1⟩ : TPoint)) (n := n) (by omega) hk hl (fun k => by rw [laws_heldPointS_l0, marked_len, ilt (by omega), cnd_true]) (fun k i x hx hi he h0 h1 => by
    rw [laws_heldPointS_l0, marked_len, ilf (by omega), cnd_false, idx_some hx, bnd_some, he, wr_in (n := k + 1) (by omega), wr_in (n := k + 1 + 1) (by omega), wr_in (by omega)]
    simp only [iqt, cnd_true]
    rw [show k + 1 + 1 = k + 2 from by omega]; rfl)]
  rfl
theorem mh_loop {α : Type} {f : Int × Int × List α → Option ((Int × Int × List α) ⊕ (List α × Int))} {g : List α → Int × Int → Option ((Int × Int) ⊕ (Int ⊕ Unit))} (a : List α) (C : Nat)
    (hl : a.length ≤ 1048576) (hC : C ≤ 16777216)
    (fe : ∀ k l, f (k, (l.length : Int), l) = some (.inr (l, k))) (ge : ∀ k l, g l (k, (l.length : Int)) = some (.inr (.inl k)))
    (st : ∀ x ∈ a, ∀ k : Int, 0 ≤ k → k ≤ 562949953421312 → ∃ (y : α) (k' : Int), k ≤ k' ∧ k' ≤ k + (C : Int) ∧
      (∀ (i : Nat) (l : List α), i < 1048576 → l[i]? = some x → f (k, (i : Int), l) = some (.inl (k', ((i + 1 : Nat) : Int), l.set i y))) ∧
      (∀ (i : Nat) (l : List α), i < 1048576 → l[i]? = some y → g l (k, (i : Int)) = some (.inl (k', ((i + 1 : Nat) : Int)))))
    {k0 : Int} (h0 : 0 ≤ k0) (h1 : k0 ≤ 1048576) : ∃ (L : List α) (k : Int), (k0 ≤ k ∧ k ≤ k0 + 17592186044416) ∧ L.length = a.length ∧ loopI f (k0, 0, a) = some (L, k) ∧ loopI (g L) (k0, 0) = some (.inl k) := by
  have key : ∀ n, n ≤ a.length → ∃ (D : List α) (k : Int), D.length = n ∧ k0 ≤ k ∧ k ≤ k0 + (C : Int) * (n : Int) ∧ loopI f (k0, 0, a) = loopI f (k, (n : Int), D ++ a.drop n) ∧
      ∀ L : List α, L.take n = D → loopI (g L) (k0, 0) = loopI (g L) (k, (n : Int)) := by
    intro n
    induction n with
    | zero => exact fun _ => ⟨[], k0, rfl, by omega, by omega, by simp, fun _ _ => rfl⟩
    | succ n ih =>
      intro hn
      obtain ⟨D, k, e1, e2, e3, e4, e5⟩ := ih (by omega)
      have hb : (C : Int) * (n : Int) ≤ 16777216 * 1048576 := Int.mul_le_mul (by omega) (by omega) (by omega) (by omega)
      have hs : (C : Int) * ((n + 1 : Nat) : Int) = (C : Int) * (n : Int) + (C : Int) := by rw [Int.natCast_add, Int.mul_add]; simp
      obtain ⟨y, k', y1, y2, y3, y4⟩ := st a[n] (List.getElem_mem (by omega)) k (by omega) (by omega)
      have hd : a.drop n = a[n] :: a.drop (n + 1) := List.drop_eq_getElem_cons (by omega)
      have hg : (D ++ a.drop n)[n]? = some a[n] := by rw [List.getElem?_append_right (by omega), e1, Nat.sub_self, hd]; rfl
      refine ⟨D ++ [y], k', by simp [e1], by omega, by rw [hs]; omega, ?_, fun L hL => ?_⟩
      · rw [e4, loopI_go (y3 n _ (by omega) hg), hd, List.set_append_right _ _ (by omega), e1, Nat.sub_self, List.set_cons_zero]
        simp
      · have hL1 : L.take n = D := by
          have := congrArg (List.take n) hL
          rw [List.take_take, Nat.min_eq_left (by omega), List.take_append_of_le_length (by omega), ← e1, List.take_length] at this
          rw [← e1]; exact this
        have hL2 : L[n]? = some y := by
          have := congrArg (fun l => l[n]?) hL
          simp only [List.getElem?_take] at this
          rw [if_pos (by omega), List.getElem?_append_right (by omega), e1, Nat.sub_self] at this
          exact this
        rw [e5 L hL1, loopI_go (y4 n L (by omega) hL2)]
  obtain ⟨D, k, e1, e2, e3, e4, e5⟩ := key a.length (Nat.le_refl _)
  have hb : (C : Int) * (a.length : Int) ≤ 16777216 * 1048576 := Int.mul_le_mul (by omega) (by omega) (by omega) (by omega)
  refine ⟨D, k, ⟨e2, by omega⟩, e1, ?_, ?_⟩
  · rw [e4, List.drop_length, List.append_nil, ← e1, loopI_end (fe k D)]
  · rw [e5 D (by rw [← e1, List.take_length]), ← e1, loopI_end (ge k D)]
def ptM (k : Int) (n : Nat) : List TPoint := marked (fun k => ⟨k, k + 1⟩) 2 k n
def inM (k : Int) (n : Nat) : List Int := marked (fun k => k) 1 k n
theorem inM_m {k : Int} {l : List Int} (h0 : 0 ≤ k) (h1 : k ≤ 1125899906842624) (hl : l.length ≤ 1048576) : laws_markIntS k l = some (k + l.length, inM k l.length) := by
  rw [m_markIntS ⟨h0, h1⟩ hl, Int.one_mul]; rfl
theorem inM_h {k : Int} {n : Nat} (h0 : 0 ≤ k) (h1 : k ≤ 1125899906842624) (hl : n ≤ 1048576) : laws_heldIntS (inM k n) k = some (k + n) := by
  unfold inM; rw [m_heldIntS ⟨h0, h1⟩ hl, Int.one_mul]
theorem ptM_m {k : Int} {l : List TPoint} (h0 : 0 ≤ k) (h1 : k ≤ 1125899906842624) (hl : l.length ≤ 1048576) : laws_markPointS k l = some (k + 2 * l.length, ptM k l.length) := m_markPointS ⟨h0, h1⟩ hl
theorem ptM_h {k : Int} {n : Nat} (h0 : 0 ≤ k) (h1 : k ≤ 1125899906842624) (hl : n ≤ 1048576) : laws_heldPointS (ptM k n) k = some (k + 2 * n) := m_heldPointS ⟨h0, h1⟩ hl
theorem nodeS_st {x : TNode} (hx : NB x) {k : Int} (h0 : 0 ≤ k) (h1 : k ≤ 562949953421312) : ∃ (y : TNode) (k' : Int), k ≤ k' ∧ k' ≤ k + ((16777216 : Nat) : Int) ∧
      (∀ (i : Nat) (l : List TNode), i < 1048576 → l[i]? = some x → laws_markNodeS_l0 (k, (i : Int), l) = some (.inl (k', ((i + 1 : Nat) : Int), l.set i y))) ∧
      (∀ (i : Nat) (l : List TNode), i < 1048576 → l[i]? = some y → laws_heldNodeS_l0 l (k, (i : Int)) = some (.inl (k', ((i + 1 : Nat) : Int)))) := by
  obtain ⟨v1, v2, v3, v4, v5⟩ := hx
  obtain ⟨p, hp⟩ : ∃ p, p = k + 9 + (x.path.verbs.length : Int) := ⟨_, rfl⟩
  obtain ⟨q, hq⟩ : ∃ q, q = p + 2 * (x.path.points.length : Int) := ⟨_, rfl⟩
  obtain ⟨r, hr⟩ : ∃ r, r = q + 2 + (x.dashes.length : Int) := ⟨_, rfl⟩
  obtain ⟨s, hs⟩ : ∃ s, s = r + 15 + (x.clip.verbs.length : Int) := ⟨_, rfl⟩
  obtain ⟨t, ht⟩ : ∃ t, t = s + 2 * (x.clip.points.length : Int) := ⟨_, rfl⟩
  refine ⟨⟨k, k + 1, ieq (Int.tmod (k + 2) 3) 0, ⟨k + 3, k + 4, k + 5, k + 6, k + 7, k + 8⟩, ⟨inM (k + 9) x.path.verbs.length, ptM p x.path.points.length⟩, ieq (Int.tmod q 3) 0, q + 1, inM (q + 2) x.dashes.length,
    ⟨r, ⟨r + 1, r + 2, r + 3, r + 4⟩, ⟨r + 5, r + 6, r + 7, r + 8⟩, ⟨r + 9, r + 10⟩, ⟨r + 11, r + 12⟩⟩, r + 13, r + 14, ⟨inM (r + 15) x.clip.verbs.length, ptM s x.clip.points.length⟩⟩, t, by omega, by omega, fun i l hi hl => ?_, fun i l hi hl => ?_⟩
  · have hb := (List.getElem?_eq_some_iff.1 hl).1
    rw [laws_markNodeS_l0, ilf (by omega), cnd_false, idx_some hl, bnd_some]
    simp (disch := omega) only [wr_in, Int.add_assoc, Int.reduceAdd]
    rw [inM_m (by omega) (by omega) v1, bnd_some]
    dsimp only
    rw [← hp, ptM_m (by omega) (by omega) v2, bnd_some]
    dsimp only
    rw [← hq]
    simp (disch := omega) only [wr_in, Int.add_assoc, Int.reduceAdd]
    rw [inM_m (by omega) (by omega) v3, bnd_some]
    dsimp only
    rw [← hr]
    simp (disch := omega) only [wr_in, Int.add_assoc, Int.reduceAdd]
    rw [inM_m (by omega) (by omega) v4, bnd_some]
    dsimp only
    rw [← hs, ptM_m (by omega) (by omega) v5, bnd_some]
    dsimp only
    rw [← ht, Int.toNat_natCast]; rfl
  · have hb := (List.getElem?_eq_some_iff.1 hl).1
    rw [laws_heldNodeS_l0, ilf (by omega), cnd_false, idx_some hl, bnd_some]
    simp (disch := omega) only [wr_in, Int.add_assoc, Int.reduceAdd, iqt, cnd_true, decide_true, andB, Bool.and_self]
    rw [inM_h (by omega) (by omega) v1, bnd_some, ← hp, ilt (by omega), cnd_true, ptM_h (by omega) (by omega) v2, bnd_some, ← hq, ilt (by omega), cnd_true]
    simp (disch := omega) only [wr_in, Int.add_assoc, Int.reduceAdd, iqt, cnd_true, decide_true, andB, Bool.and_self]
    rw [inM_h (by omega) (by omega) v3, bnd_some, ← hr, ilt (by omega), cnd_true]
    simp (disch := omega) only [wr_in, Int.add_assoc, Int.reduceAdd, iqt, cnd_true, decide_true, andB, Bool.and_self]
    rw [inM_h (by omega) (by omega) v4, bnd_some, ← hs, ilt (by omega), cnd_true, ptM_h (by omega) (by omega) v5, bnd_some, ← ht, ilt (by omega), cnd_true]
    rfl
theorem nodeS_mh {a : List TNode} (hl : a.length ≤ 1048576) (hx : ∀ x ∈ a, NB x) : ∃ (L : List TNode) (k : Int), (1 ≤ k ∧ k ≤ 562949953421312) ∧ L.length = a.length ∧ laws_markScene 1 a = some (k, L) ∧ laws_heldScene ⟨L⟩ 1 = some k := by
  obtain ⟨L, k, e1, e2, e3, e4⟩ := mh_loop (f := laws_markNodeS_l0) (g := laws_heldNodeS_l0) a 16777216 hl (by omega) (fun k l => by rw [laws_markNodeS_l0, ilt (by omega), cnd_true]) (fun k l => by rw [laws_heldNodeS_l0, ilt (by omega), cnd_true]) (fun x h k h0 h1 => nodeS_st (hx x h) h0 h1) (k0 := 1) (by omega) (by omega)
  refine ⟨L, k, by omega, e2, ?_, ?_⟩
  · unfold laws_markScene laws_markNodeS; rw [e3]; rfl
  · unfold laws_heldScene laws_heldNodeS; dsimp only; rw [e4, bnd_some, bnd_some, ilt (by omega), cnd_true]
/-! ## FnExactCreateNode -/
theorem o_spec_copyPath {p : TPath} (h : p.verbs.length ≤ 1048576) (h1 : p.points.length ≤ 1048576) : spec_l15CopyPath p = some (p.verbs, p.points) := by
  unfold spec_l15CopyPath
  rw [chkP_pos (by omega), nam_eq, chkP_pos (by omega), nam_eq]
  simp
theorem o_impl_copyPath {p : TPath} (h : p.verbs.length ≤ 1048576) (h1 : p.points.length ≤ 1048576) : impl_copyPath p = some (p.verbs, p.points) := by
  unfold impl_copyPath slices_Clone_int slices_Clone_Point
  rw [chkP_pos (by omega), bnd_some, chkP_pos (by omega), bnd_some]
theorem o_spec_copyNode {x : TNode} (h : NB x) : spec_l15CopyNode x = some (x.id, x.parent, x.group, x.mat, x.even, x.width, x.paint, x.mode, x.fade, x.path.verbs, x.path.points, x.dashes, x.clip.verbs, x.clip.points) := by
  unfold spec_l15CopyNode
  have := h.d
  rw [o_spec_copyPath h.v h.p, bnd_some]; dsimp only
  rw [o_spec_copyPath h.cv h.cp, bnd_some]; dsimp only
  rw [chkP_pos (by omega), nam_eq]
  simp
theorem o_impl_copyNode {x : TNode} (h : NB x) : impl_copyNode x = some (x.id, x.parent, x.group, x.mat, x.even, x.width, x.paint, x.mode, x.fade, x.path.verbs, x.path.points, x.dashes, x.clip.verbs, x.clip.points) := by
  unfold impl_copyNode slices_Clone_int
  have := h.d
  rw [o_impl_copyPath h.v h.p, bnd_some]; dsimp only
  rw [o_impl_copyPath h.cv h.cp, bnd_some]; dsimp only
  rw [chkP_pos (by omega), bnd_some]
theorem o_spec_Copy {s : TScene} (h : SB s) : spec_l15Copy s = some s.nodes := by
  have hn := h.n
  unfold spec_l15Copy
  rw [copy_loop (l := s.nodes) (f := spec_l15Copy_l0 s) (fun i hi => by
    rw [spec_l15Copy_l0, ilf (by omega), cnd_false, idx_nat hi, bnd_some, o_spec_copyNode (h.x _ (List.getElem_mem hi)), bnd_some]; dsimp only
    rw [chkP_pos (by rw [List.length_take]; omega), wr_in (by omega)]; rfl) (by rw [spec_l15Copy_l0, ilt (by omega), cnd_true])]
  rfl
theorem o_impl_copyScene {s : TScene} (h : SB s) : impl_copyScene s = some s.nodes := by
  have hn := h.n
  unfold impl_copyScene
  rw [copy_loop (l := s.nodes) (f := impl_copyScene_l0 s) (fun i hi => by
    rw [impl_copyScene_l0, ilf (by omega), cnd_false, idx_nat hi, bnd_some, o_impl_copyNode (h.x _ (List.getElem_mem hi)), bnd_some]; dsimp only
    rw [chkP_pos (by rw [List.length_take]; omega), wr_in (by omega)]; rfl) (by rw [impl_copyScene_l0, ilt (by omega), cnd_true])]
  rfl
theorem nb_gd {x : TNode} (h : gd_Node x) : NB x := ⟨h.1.1.1, h.1.2.1, h.2.1.1, h.2.2.1.1, h.2.2.2.1⟩
theorem gd_nb {x : TNode} (h : NB x) : gd_Node x := ⟨⟨⟨h.v, fun _ _ => trivial⟩, ⟨h.p, fun _ _ => trivial⟩⟩, ⟨h.d, fun _ _ => trivial⟩, ⟨h.cv, fun _ _ => trivial⟩, ⟨h.cp, fun _ _ => trivial⟩⟩
theorem sb_gd {s : TScene} (h : gd_Scene s) : SB s := ⟨h.1, fun y hy => nb_gd (h.2 y hy)⟩
theorem gd_sb {s : TScene} (h : SB s) : gd_Scene s := ⟨h.n, fun y hy => gd_nb (h.x y hy)⟩
/-! ## FnExactSetNode -/
/-! ## Caches marked; FnExactForget -/
/-! ## FnExactDropNode -/
theorem SB.filter {s : TScene} (h : SB s) (p : TNode → Bool) : SB ⟨s.nodes.filter p⟩ := ⟨Nat.le_trans (List.length_filter_le _ _) h.n, fun k hk => h.x k (List.mem_filter.1 hk).1⟩
theorem o_DropNode {s : TScene} (hs : SB s) (id : Int) : ∃ r : Int × List TNode, impl_DropNode s id = some r ∧ spec_DropNode s id = some r ∧ SB ⟨r.2⟩ := by
  have hn := hs.n
  obtain ⟨s1, sb, s2⟩ := s_SceneOk hs.rows
  unfold impl_DropNode spec_DropNode
  rw [o_impl_copyScene hs, o_spec_Copy hs, bnd_some, s1, s2, bnd_some, bnd_some, m_impl_NodeAt hn, m_spec_NodeAt hn]
  cases sb with
  | false => exact ⟨(1, s.nodes), rfl, rfl, hs⟩
  | true =>
  simp only [cnd_true, bnd_some]
  by_cases ha : 0 ≤ nodeAt s id
  case neg =>
    rw [ilf (by omega)]
    exact ⟨(2, s.nodes), rfl, rfl, hs⟩
  rw [ilt ha, cnd_true, cnd_true, m_impl_UnderOf hn, bnd_some]
  unfold slices_DeleteFunc_Node_DropNode_1_n
  rw [chkP_pos ⟨hn, under_len hn⟩, bnd_some]
  have e : s.nodes.filter (fun k => !isIn k.id (underOf s id)) = s.nodes.filter fun k => !ct (upOf s) 8 k.id id := List.filter_congr fun k hk => by rw [under_in ha hk]
  refine ⟨_, rfl, ?_, hs.filter _⟩
  have key := loopI_n (f := spec_DropNode_l0 s id) (fun i => ((i : Int), (s.nodes.take i).filter fun k => !ct (upOf s) 8 k.id id)) s.nodes.length (r := s.nodes.filter fun k => !ct (upOf s) 8 k.id id) (fun i hi' => ?_) ?_
  · have e1 : loopI (spec_DropNode_l0 s id) (0, []) = some (s.nodes.filter fun k => !ct (upOf s) 8 k.id id) := key
    rw [e1, bnd_some, ← e]; rfl
  · try dsimp only
    have kl : ((s.nodes.take i).filter fun k => !ct (upOf s) 8 k.id id).length ≤ s.nodes.length := by
      have h1 := List.length_filter_le (fun k : TNode => !ct (upOf s) 8 k.id id) (s.nodes.take i)
      rw [List.length_take] at h1; omega
    rw [filter_take_succ hi', spec_DropNode_l0, ilf (by omega), cnd_false, idx_nat hi', bnd_some, m_Under hn, bnd_some, wr_in (by omega)]
    cases ct (upOf s) 8 (s.nodes[i]).id id with
    | true => rw [cnd_true]; simp
    | false =>
      rw [cnd_false, o_spec_copyNode (hs.x _ (List.getElem_mem hi')), bnd_some]; dsimp only
      rw [chkP_pos (by omega)]; rfl
  · try dsimp only
    rw [spec_DropNode_l0, ilt (by omega), cnd_true, List.take_length]
theorem m_FnExactDropNode {s : TScene} {id : Int} (ha : ok_Scene s) (_ : okN .i64 id) : laws_FnExactDropNode s id = some true := by
  unfold laws_FnExactDropNode
  obtain ⟨v, e1, l1, l2, g1⟩ := f_laws_szScene ha (left := 1048576) (by omega) (by omega)
  rw [e1, bnd_some]
  by_cases c1 : 0 ≤ v
  case neg => rw [ilf (by omega), cnd_false]
  rw [ilt c1, cnd_true]
  have hs := sb_gd (g1 c1)
  rw [f_laws_toScene (g1 c1), bnd_some]
  obtain ⟨⟨rc, rl⟩, r1, r2, hr⟩ := o_DropNode hs id
  rw [r2, bnd_some]
  dsimp only
  rw [r1, bnd_some]
  dsimp only
  rw [f_laws_eqScene (gd_sb hr), bnd_some, cnd_true, iqt, cnd_true, f_laws_eqScene (g1 c1), bnd_some, cnd_true]
  obtain ⟨L, k, k1, _, k3, _⟩ := nodeS_mh hs.n hs.x
  rw [k3, bnd_some]
  dsimp only
  rw [ilt (by omega), cnd_true]
  obtain ⟨L', k', j1, _, j3, j4⟩ := nodeS_mh hr.n hr.x
  rw [j3, bnd_some]
  dsimp only
  rw [j4, bnd_some, ilt (by omega), cnd_true, iqt, cnd_true]

/-! ## A mask put ahead of all, told in full -/
/-! ## FnExactRemember -/
end Go.Proofs.Ytapchldnmkfkoab.Am
