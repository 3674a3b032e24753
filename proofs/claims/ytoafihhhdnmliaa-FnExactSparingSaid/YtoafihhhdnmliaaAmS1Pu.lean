import Derived.Test.YtoafihhhdnmliaaAmS1Mo
import Derived.Test.YtoafihhhdnmliaaAmRo
import Derived.Test.YtoafihhhdnmliaaAmLw
set_option linter.unusedVariables false
set_option linter.unusedSimpArgs false
set_option linter.unusedSectionVars false
namespace Go.Proofs.Ytoafihhhdnmliaa.Am
open Go Go.Proofs
def ok_Mat (x : TMat) : Prop := (okN .i64) x.a ∧ (okN .i64) x.b ∧ (okN .i64) x.c ∧ (okN .i64) x.d ∧ (okN .i64) x.e ∧ (okN .i64) x.f
theorem dm_Mat : Dm (.struct [.int .i64, .int .i64, .int .i64, .int .i64, .int .i64, .int .i64]) eMat ok_Mat := ⟨fun cs h => by
  rw [Dom] at h; simp only [DomL] at h
  obtain ⟨_, _, rfl, h0, _, _, rfl, h1, _, _, rfl, h2, _, _, rfl, h3, _, _, rfl, h4, _, _, rfl, h5, rfl⟩ := h
  obtain ⟨x0, rfl, k0⟩ := dm_int.c h0
  obtain ⟨x1, rfl, k1⟩ := dm_int.c h1
  obtain ⟨x2, rfl, k2⟩ := dm_int.c h2
  obtain ⟨x3, rfl, k3⟩ := dm_int.c h3
  obtain ⟨x4, rfl, k4⟩ := dm_int.c h4
  obtain ⟨x5, rfl, k5⟩ := dm_int.c h5
  exact ⟨⟨x0, x1, x2, x3, x4, x5⟩, by simp [elA, Ty.isS], k0, k1, k2, k3, k4, k5⟩⟩
def ok_Point (x : TPoint) : Prop := (okN .i64) x.x ∧ (okN .i64) x.y
theorem dm_Point : Dm (.struct [.int .i64, .int .i64]) ePoint ok_Point := ⟨fun cs h => by
  rw [Dom] at h; simp only [DomL] at h
  obtain ⟨_, _, rfl, h0, _, _, rfl, h1, rfl⟩ := h
  obtain ⟨x0, rfl, k0⟩ := dm_int.c h0
  obtain ⟨x1, rfl, k1⟩ := dm_int.c h1
  exact ⟨⟨x0, x1⟩, by simp [elA, Ty.isS], k0, k1⟩⟩
def ok_Path (x : TPath) : Prop := (okL (okN .i64)) x.verbs ∧ (okL ok_Point) x.points
theorem dm_Path : Dm (.struct [.slice (.int .i64), .slice (.struct [.int .i64, .int .i64])]) ePath ok_Path := ⟨fun cs h => by
  rw [Dom] at h; simp only [DomL] at h
  obtain ⟨_, _, rfl, h0, _, _, rfl, h1, rfl⟩ := h
  obtain ⟨x0, rfl, k0⟩ := (dm_sl dm_int).c h0
  obtain ⟨x1, rfl, k1⟩ := (dm_sl dm_Point).c h1
  exact ⟨⟨x0, x1⟩, by simp [elA, Ty.isS], k0, k1⟩⟩
def ok_Color (x : TColor) : Prop := (okN .i64) x.r ∧ (okN .i64) x.g ∧ (okN .i64) x.b ∧ (okN .i64) x.a
theorem dm_Color : Dm (.struct [.int .i64, .int .i64, .int .i64, .int .i64]) eColor ok_Color := ⟨fun cs h => by
  rw [Dom] at h; simp only [DomL] at h
  obtain ⟨_, _, rfl, h0, _, _, rfl, h1, _, _, rfl, h2, _, _, rfl, h3, rfl⟩ := h
  obtain ⟨x0, rfl, k0⟩ := dm_int.c h0
  obtain ⟨x1, rfl, k1⟩ := dm_int.c h1
  obtain ⟨x2, rfl, k2⟩ := dm_int.c h2
  obtain ⟨x3, rfl, k3⟩ := dm_int.c h3
  exact ⟨⟨x0, x1, x2, x3⟩, by simp [elA, Ty.isS], k0, k1, k2, k3⟩⟩
def ok_Paint (x : TPaint) : Prop := (okN .i64) x.kind ∧ ok_Color x.first ∧ ok_Color x.last ∧ ok_Point x.from_ ∧ ok_Point x.to
theorem dm_Paint : Dm (.struct [.int .i64, .struct [.int .i64, .int .i64, .int .i64, .int .i64], .struct [.int .i64, .int .i64, .int .i64, .int .i64], .struct [.int .i64, .int .i64], .struct [.int .i64, .int .i64]]) ePaint ok_Paint := ⟨fun cs h => by
  rw [Dom] at h; simp only [DomL] at h
  obtain ⟨_, _, rfl, h0, _, _, rfl, h1, _, _, rfl, h2, _, _, rfl, h3, _, _, rfl, h4, rfl⟩ := h
  obtain ⟨x0, rfl, k0⟩ := dm_int.c h0
  obtain ⟨x1, rfl, k1⟩ := dm_Color.c h1
  obtain ⟨x2, rfl, k2⟩ := dm_Color.c h2
  obtain ⟨x3, rfl, k3⟩ := dm_Point.c h3
  obtain ⟨x4, rfl, k4⟩ := dm_Point.c h4
  exact ⟨⟨x0, x1, x2, x3, x4⟩, by simp [elA, Ty.isS], k0, k1, k2, k3, k4⟩⟩
def ok_Node (x : TNode) : Prop := (okN .i64) x.id ∧ (okN .i64) x.parent ∧ (fun _ : Bool => True) x.group ∧ ok_Mat x.mat ∧ ok_Path x.path ∧ (fun _ : Bool => True) x.even ∧ (okN .i64) x.width ∧ (okL (okN .i64)) x.dashes ∧ ok_Paint x.paint ∧ (okN .i64) x.mode ∧ (okN .i64) x.fade ∧ ok_Path x.clip
theorem dm_Node : Dm (.struct [.int .i64, .int .i64, .bool, .struct [.int .i64, .int .i64, .int .i64, .int .i64, .int .i64, .int .i64], .struct [.slice (.int .i64), .slice (.struct [.int .i64, .int .i64])], .bool, .int .i64, .slice (.int .i64), .struct [.int .i64, .struct [.int .i64, .int .i64, .int .i64, .int .i64], .struct [.int .i64, .int .i64, .int .i64, .int .i64], .struct [.int .i64, .int .i64], .struct [.int .i64, .int .i64]], .int .i64, .int .i64, .struct [.slice (.int .i64), .slice (.struct [.int .i64, .int .i64])]]) eNode ok_Node := ⟨fun cs h => by
  rw [Dom] at h; simp only [DomL] at h
  obtain ⟨_, _, rfl, h0, _, _, rfl, h1, _, _, rfl, h2, _, _, rfl, h3, _, _, rfl, h4, _, _, rfl, h5, _, _, rfl, h6, _, _, rfl, h7, _, _, rfl, h8, _, _, rfl, h9, _, _, rfl, h10, _, _, rfl, h11, rfl⟩ := h
  obtain ⟨x0, rfl, k0⟩ := dm_int.c h0
  obtain ⟨x1, rfl, k1⟩ := dm_int.c h1
  obtain ⟨x2, rfl, k2⟩ := dm_bool.c h2
  obtain ⟨x3, rfl, k3⟩ := dm_Mat.c h3
  obtain ⟨x4, rfl, k4⟩ := dm_Path.c h4
  obtain ⟨x5, rfl, k5⟩ := dm_bool.c h5
  obtain ⟨x6, rfl, k6⟩ := dm_int.c h6
  obtain ⟨x7, rfl, k7⟩ := (dm_sl dm_int).c h7
  obtain ⟨x8, rfl, k8⟩ := dm_Paint.c h8
  obtain ⟨x9, rfl, k9⟩ := dm_int.c h9
  obtain ⟨x10, rfl, k10⟩ := dm_int.c h10
  obtain ⟨x11, rfl, k11⟩ := dm_Path.c h11
  exact ⟨⟨x0, x1, x2, x3, x4, x5, x6, x7, x8, x9, x10, x11⟩, by simp [elA, Ty.isS], k0, k1, k2, k3, k4, k5, k6, k7, k8, k9, k10, k11⟩⟩
def ok_Scene (x : TScene) : Prop := (okL ok_Node) x.nodes
theorem dm_Scene : Dm (.struct [.slice (.struct [.int .i64, .int .i64, .bool, .struct [.int .i64, .int .i64, .int .i64, .int .i64, .int .i64, .int .i64], .struct [.slice (.int .i64), .slice (.struct [.int .i64, .int .i64])], .bool, .int .i64, .slice (.int .i64), .struct [.int .i64, .struct [.int .i64, .int .i64, .int .i64, .int .i64], .struct [.int .i64, .int .i64, .int .i64, .int .i64], .struct [.int .i64, .int .i64], .struct [.int .i64, .int .i64]], .int .i64, .int .i64, .struct [.slice (.int .i64), .slice (.struct [.int .i64, .int .i64])]])]) eScene ok_Scene := ⟨fun cs h => by
  rw [Dom] at h; simp only [DomL] at h
  obtain ⟨_, _, rfl, h0, rfl⟩ := h
  obtain ⟨x0, rfl, k0⟩ := (dm_sl dm_Node).c h0
  exact ⟨⟨x0⟩, by simp [elA, Ty.isS], k0⟩⟩
def ok_Surface (x : TSurface) : Prop := (okN .i64) x.w ∧ (okN .i64) x.h ∧ (okL ok_Color) x.pix
theorem dm_Surface : Dm (.struct [.int .i64, .int .i64, .slice (.struct [.int .i64, .int .i64, .int .i64, .int .i64])]) eSurface ok_Surface := ⟨fun cs h => by
  rw [Dom] at h; simp only [DomL] at h
  obtain ⟨_, _, rfl, h0, _, _, rfl, h1, _, _, rfl, h2, rfl⟩ := h
  obtain ⟨x0, rfl, k0⟩ := dm_int.c h0
  obtain ⟨x1, rfl, k1⟩ := dm_int.c h1
  obtain ⟨x2, rfl, k2⟩ := (dm_sl dm_Color).c h2
  exact ⟨⟨x0, x1, x2⟩, by simp [elA, Ty.isS], k0, k1, k2⟩⟩
def ok_Box (x : TBox) : Prop := (okN .i64) x.x0 ∧ (okN .i64) x.y0 ∧ (okN .i64) x.x1 ∧ (okN .i64) x.y1
theorem dm_Box : Dm (.struct [.int .i64, .int .i64, .int .i64, .int .i64]) eBox ok_Box := ⟨fun cs h => by
  rw [Dom] at h; simp only [DomL] at h
  obtain ⟨_, _, rfl, h0, _, _, rfl, h1, _, _, rfl, h2, _, _, rfl, h3, rfl⟩ := h
  obtain ⟨x0, rfl, k0⟩ := dm_int.c h0
  obtain ⟨x1, rfl, k1⟩ := dm_int.c h1
  obtain ⟨x2, rfl, k2⟩ := dm_int.c h2
  obtain ⟨x3, rfl, k3⟩ := dm_int.c h3
  exact ⟨⟨x0, x1, x2, x3⟩, by simp [elA, Ty.isS], k0, k1, k2, k3⟩⟩
def ok_Mask (x : TMask) : Prop := ok_Box x.box ∧ (okL (okN .i64)) x.bits
theorem dm_Mask : Dm (.struct [.struct [.int .i64, .int .i64, .int .i64, .int .i64], .slice (.int .i64)]) eMask ok_Mask := ⟨fun cs h => by
  rw [Dom] at h; simp only [DomL] at h
  obtain ⟨_, _, rfl, h0, _, _, rfl, h1, rfl⟩ := h
  obtain ⟨x0, rfl, k0⟩ := dm_Box.c h0
  obtain ⟨x1, rfl, k1⟩ := (dm_sl dm_int).c h1
  exact ⟨⟨x0, x1⟩, by simp [elA, Ty.isS], k0, k1⟩⟩
def ok_Kept (x : TKept) : Prop := (okN .i64) x.id ∧ ok_Mask x.mask
theorem dm_Kept : Dm (.struct [.int .i64, .struct [.struct [.int .i64, .int .i64, .int .i64, .int .i64], .slice (.int .i64)]]) eKept ok_Kept := ⟨fun cs h => by
  rw [Dom] at h; simp only [DomL] at h
  obtain ⟨_, _, rfl, h0, _, _, rfl, h1, rfl⟩ := h
  obtain ⟨x0, rfl, k0⟩ := dm_int.c h0
  obtain ⟨x1, rfl, k1⟩ := dm_Mask.c h1
  exact ⟨⟨x0, x1⟩, by simp [elA, Ty.isS], k0, k1⟩⟩
def ok_Cache (x : TCache) : Prop := (okN .i64) x.most ∧ (okL ok_Kept) x.list
theorem dm_Cache : Dm (.struct [.int .i64, .slice (.struct [.int .i64, .struct [.struct [.int .i64, .int .i64, .int .i64, .int .i64], .slice (.int .i64)]])]) eCache ok_Cache := ⟨fun cs h => by
  rw [Dom] at h; simp only [DomL] at h
  obtain ⟨_, _, rfl, h0, _, _, rfl, h1, rfl⟩ := h
  obtain ⟨x0, rfl, k0⟩ := dm_int.c h0
  obtain ⟨x1, rfl, k1⟩ := (dm_sl dm_Kept).c h1
  exact ⟨⟨x0, x1⟩, by simp [elA, Ty.isS], k0, k1⟩⟩
def ok_Engine (x : TEngine) : Prop := ok_Scene x.scene ∧ ok_Surface x.frame ∧ (okL ok_Box) x.dirty ∧ (okL (okN .i64)) x.stamps ∧ ok_Cache x.cache ∧ (okN .i64) x.painted
theorem dm_Engine : Dm (.struct [.struct [.slice (.struct [.int .i64, .int .i64, .bool, .struct [.int .i64, .int .i64, .int .i64, .int .i64, .int .i64, .int .i64], .struct [.slice (.int .i64), .slice (.struct [.int .i64, .int .i64])], .bool, .int .i64, .slice (.int .i64), .struct [.int .i64, .struct [.int .i64, .int .i64, .int .i64, .int .i64], .struct [.int .i64, .int .i64, .int .i64, .int .i64], .struct [.int .i64, .int .i64], .struct [.int .i64, .int .i64]], .int .i64, .int .i64, .struct [.slice (.int .i64), .slice (.struct [.int .i64, .int .i64])]])], .struct [.int .i64, .int .i64, .slice (.struct [.int .i64, .int .i64, .int .i64, .int .i64])], .slice (.struct [.int .i64, .int .i64, .int .i64, .int .i64]), .slice (.int .i64), .struct [.int .i64, .slice (.struct [.int .i64, .struct [.struct [.int .i64, .int .i64, .int .i64, .int .i64], .slice (.int .i64)]])], .int .i64]) eEngine ok_Engine := ⟨fun cs h => by
  rw [Dom] at h; simp only [DomL] at h
  obtain ⟨_, _, rfl, h0, _, _, rfl, h1, _, _, rfl, h2, _, _, rfl, h3, _, _, rfl, h4, _, _, rfl, h5, rfl⟩ := h
  obtain ⟨x0, rfl, k0⟩ := dm_Scene.c h0
  obtain ⟨x1, rfl, k1⟩ := dm_Surface.c h1
  obtain ⟨x2, rfl, k2⟩ := (dm_sl dm_Box).c h2
  obtain ⟨x3, rfl, k3⟩ := (dm_sl dm_int).c h3
  obtain ⟨x4, rfl, k4⟩ := dm_Cache.c h4
  obtain ⟨x5, rfl, k5⟩ := dm_int.c h5
  exact ⟨⟨x0, x1, x2, x3, x4, x5⟩, by simp [elA, Ty.isS], k0, k1, k2, k3, k4, k5⟩⟩
end Go.Proofs.Ytoafihhhdnmliaa.Am
namespace Go.Proofs.Ytoafihhhdnmliaa.Am
open Go Go.Proofs
set_option linter.unusedVariables false
set_option linter.unusedSimpArgs false
theorem f_laws_szIntS {a : List Int} {left : Int} (ho : okL (okN .i64) a) (h0 : 0 ≤ left) (h1 : left ≤ 1048576) : ∃ v, laws_szIntS a left = some v ∧ szR v left (gdL tt a) := by
  unfold laws_szIntS; exact sz_row (maxL ho.1) h0 h1
theorem f_laws_szPointS {a : List TPoint} {left : Int} (ho : okL ok_Point a) (h0 : 0 ≤ left) (h1 : left ≤ 1048576) : ∃ v, laws_szPointS a left = some v ∧ szR v left (gdL tt a) := by
  unfold laws_szPointS; exact sz_row (maxL ho.1) h0 h1
def gd_Path (x : TPath) : Prop := (gdL tt) x.verbs ∧ (gdL tt) x.points
theorem f_laws_szPath {a : TPath} {left : Int} (ho : ok_Path a) (h0 : 0 ≤ left) (h1 : left ≤ 1048576) : ∃ v, laws_szPath a left = some v ∧ szR v left (gd_Path a) := by
  obtain ⟨o0, o1⟩ := ho
  unfold laws_szPath
  obtain ⟨v0, e0, l0, m0, g0⟩ := f_laws_szIntS o0 h0 (by omega)
  rw [e0, bnd_some]
  by_cases c0 : 0 ≤ v0
  case neg => rw [ilf (by omega), cnd_false]; exact ⟨-1, rfl, by omega, by omega, fun h => by omega⟩
  rw [ilt c0, cnd_true]
  obtain ⟨v1, e1, l1, m1, g1⟩ := f_laws_szPointS o1 c0 (by omega)
  rw [e1, bnd_some]
  by_cases c1 : 0 ≤ v1
  case neg => rw [ilf (by omega), cnd_false]; exact ⟨-1, rfl, by omega, by omega, fun h => by omega⟩
  rw [ilt c1, cnd_true]
  exact ⟨v1, rfl, by omega, by omega, fun _ => ⟨g0 c0, g1 c1⟩⟩
def gd_Node (x : TNode) : Prop := gd_Path x.path ∧ (gdL tt) x.dashes ∧ gd_Path x.clip
theorem f_laws_szNode {a : TNode} {left : Int} (ho : ok_Node a) (h0 : 0 ≤ left) (h1 : left ≤ 1048576) : ∃ v, laws_szNode a left = some v ∧ szR v left (gd_Node a) := by
  obtain ⟨o0, o1, o2, o3, o4, o5, o6, o7, o8, o9, o10, o11⟩ := ho
  unfold laws_szNode
  obtain ⟨v4, e4, l4, m4, g4⟩ := f_laws_szPath o4 h0 (by omega)
  rw [e4, bnd_some]
  by_cases c4 : 0 ≤ v4
  case neg => rw [ilf (by omega), cnd_false]; exact ⟨-1, rfl, by omega, by omega, fun h => by omega⟩
  rw [ilt c4, cnd_true]
  obtain ⟨v7, e7, l7, m7, g7⟩ := f_laws_szIntS o7 c4 (by omega)
  rw [e7, bnd_some]
  by_cases c7 : 0 ≤ v7
  case neg => rw [ilf (by omega), cnd_false]; exact ⟨-1, rfl, by omega, by omega, fun h => by omega⟩
  rw [ilt c7, cnd_true]
  obtain ⟨v11, e11, l11, m11, g11⟩ := f_laws_szPath o11 c7 (by omega)
  rw [e11, bnd_some]
  by_cases c11 : 0 ≤ v11
  case neg => rw [ilf (by omega), cnd_false]; exact ⟨-1, rfl, by omega, by omega, fun h => by omega⟩
  rw [ilt c11, cnd_true]
  exact ⟨v11, rfl, by omega, by omega, fun _ => ⟨g4 c4, g7 c7, g11 c11⟩⟩
theorem f_laws_szNodeS {a : List TNode} {left : Int} (ho : okL ok_Node a) (h0 : 0 ≤ left) (h1 : left ≤ 1048576) : ∃ v, laws_szNodeS a left = some v ∧ szR v left ((gdL gd_Node) a) := by
  unfold laws_szNodeS
  have hl := maxL ho.1
  rw [wr_in (by omega)]
  by_cases h : 0 ≤ left - (a.length : Int)
  · rw [ilt h, cnd_true]
    obtain ⟨v, ⟨v1, v2, v3⟩, e⟩ := sz_loop (szE := laws_szNode) (g := gd_Node) (f := laws_szNodeS_l0 a) (left := left - (a.length : Int)) (fun x hx left => f_laws_szNode (ho.2 x hx)) (fun _ _ => rfl) h (by omega) (by omega)
    refine ⟨v, ?_, by omega, v2, v3⟩
    rcases e with ⟨e, _⟩ | ⟨e, rfl⟩ <;> rw [e] <;> rfl
  · rw [ilf (by omega), cnd_false]
    exact ⟨_, rfl, by omega, by omega, fun h => by omega⟩
def gd_Scene (x : TScene) : Prop := (gdL gd_Node) x.nodes
theorem f_laws_szScene {a : TScene} {left : Int} (ho : ok_Scene a) (h0 : 0 ≤ left) (h1 : left ≤ 1048576) : ∃ v, laws_szScene a left = some v ∧ szR v left (gd_Scene a) := by
  have o0 := ho
  unfold laws_szScene
  obtain ⟨v0, e0, l0, m0, g0⟩ := f_laws_szNodeS o0 h0 (by omega)
  rw [e0, bnd_some]
  by_cases c0 : 0 ≤ v0
  case neg => rw [ilf (by omega), cnd_false]; exact ⟨-1, rfl, by omega, by omega, fun h => by omega⟩
  rw [ilt c0, cnd_true]
  exact ⟨v0, rfl, by omega, by omega, fun _ => g0 c0⟩
theorem f_laws_szColorS {a : List TColor} {left : Int} (ho : okL ok_Color a) (h0 : 0 ≤ left) (h1 : left ≤ 1048576) : ∃ v, laws_szColorS a left = some v ∧ szR v left (gdL tt a) := by
  unfold laws_szColorS; exact sz_row (maxL ho.1) h0 h1
def gd_Surface (x : TSurface) : Prop := (gdL tt) x.pix
theorem f_laws_szSurface {a : TSurface} {left : Int} (ho : ok_Surface a) (h0 : 0 ≤ left) (h1 : left ≤ 1048576) : ∃ v, laws_szSurface a left = some v ∧ szR v left (gd_Surface a) := by
  obtain ⟨o0, o1, o2⟩ := ho
  unfold laws_szSurface
  obtain ⟨v2, e2, l2, m2, g2⟩ := f_laws_szColorS o2 h0 (by omega)
  rw [e2, bnd_some]
  by_cases c2 : 0 ≤ v2
  case neg => rw [ilf (by omega), cnd_false]; exact ⟨-1, rfl, by omega, by omega, fun h => by omega⟩
  rw [ilt c2, cnd_true]
  exact ⟨v2, rfl, by omega, by omega, fun _ => g2 c2⟩
theorem f_laws_szBoxS {a : List TBox} {left : Int} (ho : okL ok_Box a) (h0 : 0 ≤ left) (h1 : left ≤ 1048576) : ∃ v, laws_szBoxS a left = some v ∧ szR v left (gdL tt a) := by
  unfold laws_szBoxS; exact sz_row (maxL ho.1) h0 h1
def gd_Mask (x : TMask) : Prop := (gdL tt) x.bits
theorem f_laws_szMask {a : TMask} {left : Int} (ho : ok_Mask a) (h0 : 0 ≤ left) (h1 : left ≤ 1048576) : ∃ v, laws_szMask a left = some v ∧ szR v left (gd_Mask a) := by
  obtain ⟨o0, o1⟩ := ho
  unfold laws_szMask
  obtain ⟨v1, e1, l1, m1, g1⟩ := f_laws_szIntS o1 h0 (by omega)
  rw [e1, bnd_some]
  by_cases c1 : 0 ≤ v1
  case neg => rw [ilf (by omega), cnd_false]; exact ⟨-1, rfl, by omega, by omega, fun h => by omega⟩
  rw [ilt c1, cnd_true]
  exact ⟨v1, rfl, by omega, by omega, fun _ => g1 c1⟩
def gd_Kept (x : TKept) : Prop := gd_Mask x.mask
theorem f_laws_szKept {a : TKept} {left : Int} (ho : ok_Kept a) (h0 : 0 ≤ left) (h1 : left ≤ 1048576) : ∃ v, laws_szKept a left = some v ∧ szR v left (gd_Kept a) := by
  obtain ⟨o0, o1⟩ := ho
  unfold laws_szKept
  obtain ⟨v1, e1, l1, m1, g1⟩ := f_laws_szMask o1 h0 (by omega)
  rw [e1, bnd_some]
  by_cases c1 : 0 ≤ v1
  case neg => rw [ilf (by omega), cnd_false]; exact ⟨-1, rfl, by omega, by omega, fun h => by omega⟩
  rw [ilt c1, cnd_true]
  exact ⟨v1, rfl, by omega, by omega, fun _ => g1 c1⟩
theorem f_laws_szKeptS {a : List TKept} {left : Int} (ho : okL ok_Kept a) (h0 : 0 ≤ left) (h1 : left ≤ 1048576) : ∃ v, laws_szKeptS a left = some v ∧ szR v left ((gdL gd_Kept) a) := by
  unfold laws_szKeptS
  have hl := maxL ho.1
  rw [wr_in (by omega)]
  by_cases h : 0 ≤ left - (a.length : Int)
  · rw [ilt h, cnd_true]
    obtain ⟨v, ⟨v1, v2, v3⟩, e⟩ := sz_loop (szE := laws_szKept) (g := gd_Kept) (f := laws_szKeptS_l0 a) (left := left - (a.length : Int)) (fun x hx left => f_laws_szKept (ho.2 x hx)) (fun _ _ => rfl) h (by omega) (by omega)
    refine ⟨v, ?_, by omega, v2, v3⟩
    rcases e with ⟨e, _⟩ | ⟨e, rfl⟩ <;> rw [e] <;> rfl
  · rw [ilf (by omega), cnd_false]
    exact ⟨_, rfl, by omega, by omega, fun h => by omega⟩
def gd_Cache (x : TCache) : Prop := (gdL gd_Kept) x.list
theorem f_laws_szCache {a : TCache} {left : Int} (ho : ok_Cache a) (h0 : 0 ≤ left) (h1 : left ≤ 1048576) : ∃ v, laws_szCache a left = some v ∧ szR v left (gd_Cache a) := by
  obtain ⟨o0, o1⟩ := ho
  unfold laws_szCache
  obtain ⟨v1, e1, l1, m1, g1⟩ := f_laws_szKeptS o1 h0 (by omega)
  rw [e1, bnd_some]
  by_cases c1 : 0 ≤ v1
  case neg => rw [ilf (by omega), cnd_false]; exact ⟨-1, rfl, by omega, by omega, fun h => by omega⟩
  rw [ilt c1, cnd_true]
  exact ⟨v1, rfl, by omega, by omega, fun _ => g1 c1⟩
def gd_Engine (x : TEngine) : Prop := gd_Scene x.scene ∧ gd_Surface x.frame ∧ (gdL tt) x.dirty ∧ (gdL tt) x.stamps ∧ gd_Cache x.cache
theorem f_laws_szEngine {a : TEngine} {left : Int} (ho : ok_Engine a) (h0 : 0 ≤ left) (h1 : left ≤ 1048576) : ∃ v, laws_szEngine a left = some v ∧ szR v left (gd_Engine a) := by
  obtain ⟨o0, o1, o2, o3, o4, o5⟩ := ho
  unfold laws_szEngine
  obtain ⟨v0, e0, l0, m0, g0⟩ := f_laws_szScene o0 h0 (by omega)
  rw [e0, bnd_some]
  by_cases c0 : 0 ≤ v0
  case neg => rw [ilf (by omega), cnd_false]; exact ⟨-1, rfl, by omega, by omega, fun h => by omega⟩
  rw [ilt c0, cnd_true]
  obtain ⟨v1, e1, l1, m1, g1⟩ := f_laws_szSurface o1 c0 (by omega)
  rw [e1, bnd_some]
  by_cases c1 : 0 ≤ v1
  case neg => rw [ilf (by omega), cnd_false]; exact ⟨-1, rfl, by omega, by omega, fun h => by omega⟩
  rw [ilt c1, cnd_true]
  obtain ⟨v2, e2, l2, m2, g2⟩ := f_laws_szBoxS o2 c1 (by omega)
  rw [e2, bnd_some]
  by_cases c2 : 0 ≤ v2
  case neg => rw [ilf (by omega), cnd_false]; exact ⟨-1, rfl, by omega, by omega, fun h => by omega⟩
  rw [ilt c2, cnd_true]
  obtain ⟨v3, e3, l3, m3, g3⟩ := f_laws_szIntS o3 c2 (by omega)
  rw [e3, bnd_some]
  by_cases c3 : 0 ≤ v3
  case neg => rw [ilf (by omega), cnd_false]; exact ⟨-1, rfl, by omega, by omega, fun h => by omega⟩
  rw [ilt c3, cnd_true]
  obtain ⟨v4, e4, l4, m4, g4⟩ := f_laws_szCache o4 c3 (by omega)
  rw [e4, bnd_some]
  by_cases c4 : 0 ≤ v4
  case neg => rw [ilf (by omega), cnd_false]; exact ⟨-1, rfl, by omega, by omega, fun h => by omega⟩
  rw [ilt c4, cnd_true]
  exact ⟨v4, rfl, by omega, by omega, fun _ => ⟨g0 c0, g1 c1, g2 c2, g3 c3, g4 c4⟩⟩
theorem f_laws_toMat {a : TMat} : laws_toMat a = some a := by
  unfold laws_toMat
  rfl
theorem f_laws_toIntS {a : List Int} (hg : (gdL tt) a) : laws_toIntS a = some a := by
  unfold laws_toIntS
  rw [chkP_pos (ch_row hg.1 (by omega))]
  have h := to_loop (f := laws_toIntS_l0 a) (toE := some) (0) (fun _ _ => rfl) (fun _ _ => rfl) hg.1
  simp only [nam_eq, h, bnd_some]
theorem f_laws_toPoint {a : TPoint} : laws_toPoint a = some a := by
  unfold laws_toPoint
  rfl
theorem f_laws_toPointS {a : List TPoint} (hg : (gdL tt) a) : laws_toPointS a = some a := by
  unfold laws_toPointS
  rw [chkP_pos (ch_row hg.1 (by omega))]
  have h := to_loop (f := laws_toPointS_l0 a) (toE := laws_toPoint) ((TPoint.mk 0 0)) (fun x hx => f_laws_toPoint ) (fun _ _ => rfl) hg.1
  simp only [nam_eq, h, bnd_some]
theorem f_laws_toPath {a : TPath} (hg : gd_Path a) : laws_toPath a = some a := by
  obtain ⟨h0, h1⟩ := hg
  unfold laws_toPath
  simp only [bnd_some, f_laws_toIntS h0, f_laws_toPointS h1]
theorem f_laws_toColor {a : TColor} : laws_toColor a = some a := by
  unfold laws_toColor
  rfl
theorem f_laws_toPaint {a : TPaint} : laws_toPaint a = some a := by
  unfold laws_toPaint
  simp only [bnd_some, f_laws_toColor, f_laws_toPoint]
theorem f_laws_toNode {a : TNode} (hg : gd_Node a) : laws_toNode a = some a := by
  obtain ⟨h0, h1, h2⟩ := hg
  unfold laws_toNode
  simp only [bnd_some, f_laws_toMat, f_laws_toPath h0, f_laws_toPath h2, f_laws_toIntS h1, f_laws_toPaint]
theorem f_laws_toNodeS {a : List TNode} (hg : (gdL gd_Node) a) : laws_toNodeS a = some a := by
  unfold laws_toNodeS
  rw [chkP_pos (ch_row hg.1 (by omega))]
  have h := to_loop (f := laws_toNodeS_l0 a) (toE := laws_toNode) ((TNode.mk 0 0 false (TMat.mk 0 0 0 0 0 0) (TPath.mk [] []) false 0 [] (TPaint.mk 0 (TColor.mk 0 0 0 0) (TColor.mk 0 0 0 0) (TPoint.mk 0 0) (TPoint.mk 0 0)) 0 0 (TPath.mk [] []))) (fun x hx => f_laws_toNode (hg.2 x hx)) (fun _ _ => rfl) hg.1
  simp only [nam_eq, h, bnd_some]
theorem f_laws_toScene {a : TScene} (hg : gd_Scene a) : laws_toScene a = some a := by
  have h0 := hg
  unfold laws_toScene
  simp only [bnd_some, f_laws_toNodeS h0]
theorem f_laws_toColorS {a : List TColor} (hg : (gdL tt) a) : laws_toColorS a = some a := by
  unfold laws_toColorS
  rw [chkP_pos (ch_row hg.1 (by omega))]
  have h := to_loop (f := laws_toColorS_l0 a) (toE := laws_toColor) ((TColor.mk 0 0 0 0)) (fun x hx => f_laws_toColor ) (fun _ _ => rfl) hg.1
  simp only [nam_eq, h, bnd_some]
theorem f_laws_toSurface {a : TSurface} (hg : gd_Surface a) : laws_toSurface a = some (a.w, a.h, a.pix) := by
  have h0 := hg
  unfold laws_toSurface
  simp only [bnd_some, f_laws_toColorS h0]
theorem f_laws_toBox {a : TBox} : laws_toBox a = some a := by
  unfold laws_toBox
  rfl
theorem f_laws_toBoxS {a : List TBox} (hg : (gdL tt) a) : laws_toBoxS a = some a := by
  unfold laws_toBoxS
  rw [chkP_pos (ch_row hg.1 (by omega))]
  have h := to_loop (f := laws_toBoxS_l0 a) (toE := laws_toBox) ((TBox.mk 0 0 0 0)) (fun x hx => f_laws_toBox ) (fun _ _ => rfl) hg.1
  simp only [nam_eq, h, bnd_some]
theorem f_laws_toMask {a : TMask} (hg : gd_Mask a) : laws_toMask a = some (a.box, a.bits) := by
  have h0 := hg
  unfold laws_toMask
  simp only [bnd_some, f_laws_toBox, f_laws_toIntS h0]
theorem f_laws_toKept {a : TKept} (hg : gd_Kept a) : laws_toKept a = some a := by
  have h0 := hg
  unfold laws_toKept
  simp only [bnd_some, f_laws_toMask h0]
theorem f_laws_toKeptS {a : List TKept} (hg : (gdL gd_Kept) a) : laws_toKeptS a = some a := by
  unfold laws_toKeptS
  rw [chkP_pos (ch_row hg.1 (by omega))]
  have h := to_loop (f := laws_toKeptS_l0 a) (toE := laws_toKept) ((TKept.mk 0 (TMask.mk (TBox.mk 0 0 0 0) []))) (fun x hx => f_laws_toKept (hg.2 x hx)) (fun _ _ => rfl) hg.1
  simp only [nam_eq, h, bnd_some]
theorem f_laws_toCache {a : TCache} (hg : gd_Cache a) : laws_toCache a = some a := by
  have h0 := hg
  unfold laws_toCache
  simp only [bnd_some, f_laws_toKeptS h0]
theorem f_laws_toEngine {a : TEngine} (hg : gd_Engine a) : laws_toEngine a = some a := by
  obtain ⟨h0, h1, h2, h3, h4⟩ := hg
  unfold laws_toEngine
  simp only [bnd_some, f_laws_toScene h0, f_laws_toSurface h1, f_laws_toBoxS h2, f_laws_toIntS h3, f_laws_toCache h4]
theorem f_laws_eqMat {a : TMat} : laws_eqMat a a = some true := by
  unfold laws_eqMat
  simp only [bnd_some, cnd_true, iqt, andB, decide_true, Bool.and_self, Bool.and_true]
theorem f_laws_eqIntS {a : List Int} (hg : (gdL tt) a) : laws_eqIntS a a = some true := by
  unfold laws_eqIntS
  have h := eq_loop (f := laws_eqIntS_l0 a a) (eqE := (fun x y => some (ieq x y))) (fun _ _ => by simp [ieq, sq']) (fun _ => rfl) hg.1
  rw [iqt, cnd_true, h]; rfl
theorem f_laws_eqPoint {a : TPoint} : laws_eqPoint a a = some true := by
  unfold laws_eqPoint
  simp only [bnd_some, cnd_true, iqt, andB, decide_true, Bool.and_self, Bool.and_true]
theorem f_laws_eqPointS {a : List TPoint} (hg : (gdL tt) a) : laws_eqPointS a a = some true := by
  unfold laws_eqPointS
  have h := eq_loop (f := laws_eqPointS_l0 a a) (eqE := laws_eqPoint) (fun x hx => f_laws_eqPoint ) (fun _ => rfl) hg.1
  rw [iqt, cnd_true, h]; rfl
theorem f_laws_eqPath {a : TPath} (hg : gd_Path a) : laws_eqPath a a = some true := by
  obtain ⟨h0, h1⟩ := hg
  unfold laws_eqPath
  simp only [bnd_some, cnd_true, iqt, andB, decide_true, Bool.and_self, Bool.and_true, f_laws_eqIntS h0, f_laws_eqPointS h1]
theorem f_laws_eqColor {a : TColor} : laws_eqColor a a = some true := by
  unfold laws_eqColor
  simp only [bnd_some, cnd_true, iqt, andB, decide_true, Bool.and_self, Bool.and_true]
theorem f_laws_eqPaint {a : TPaint} : laws_eqPaint a a = some true := by
  unfold laws_eqPaint
  simp only [bnd_some, cnd_true, iqt, andB, decide_true, Bool.and_self, Bool.and_true, f_laws_eqColor, f_laws_eqPoint]
theorem f_laws_eqNode {a : TNode} (hg : gd_Node a) : laws_eqNode a a = some true := by
  obtain ⟨h0, h1, h2⟩ := hg
  unfold laws_eqNode
  simp only [bnd_some, cnd_true, iqt, andB, decide_true, Bool.and_self, Bool.and_true, f_laws_eqMat, f_laws_eqPath h0, f_laws_eqPath h2, f_laws_eqIntS h1, f_laws_eqPaint]
theorem f_laws_eqNodeS {a : List TNode} (hg : (gdL gd_Node) a) : laws_eqNodeS a a = some true := by
  unfold laws_eqNodeS
  have h := eq_loop (f := laws_eqNodeS_l0 a a) (eqE := laws_eqNode) (fun x hx => f_laws_eqNode (hg.2 x hx)) (fun _ => rfl) hg.1
  rw [iqt, cnd_true, h]; rfl
theorem f_laws_eqScene {a : TScene} (hg : gd_Scene a) : laws_eqScene a a = some true := by
  have h0 := hg
  unfold laws_eqScene
  simp only [bnd_some, cnd_true, iqt, andB, decide_true, Bool.and_self, Bool.and_true, f_laws_eqNodeS h0]
theorem f_laws_eqColorS {a : List TColor} (hg : (gdL tt) a) : laws_eqColorS a a = some true := by
  unfold laws_eqColorS
  have h := eq_loop (f := laws_eqColorS_l0 a a) (eqE := laws_eqColor) (fun x hx => f_laws_eqColor ) (fun _ => rfl) hg.1
  rw [iqt, cnd_true, h]; rfl
theorem f_laws_eqSurface {a : TSurface} (hg : gd_Surface a) : laws_eqSurface a a = some true := by
  have h0 := hg
  unfold laws_eqSurface
  simp only [bnd_some, cnd_true, iqt, andB, decide_true, Bool.and_self, Bool.and_true, f_laws_eqColorS h0]
theorem f_laws_eqBox {a : TBox} : laws_eqBox a a = some true := by
  unfold laws_eqBox
  simp only [bnd_some, cnd_true, iqt, andB, decide_true, Bool.and_self, Bool.and_true]
theorem f_laws_eqBoxS {a : List TBox} (hg : (gdL tt) a) : laws_eqBoxS a a = some true := by
  unfold laws_eqBoxS
  have h := eq_loop (f := laws_eqBoxS_l0 a a) (eqE := laws_eqBox) (fun x hx => f_laws_eqBox ) (fun _ => rfl) hg.1
  rw [iqt, cnd_true, h]; rfl
theorem f_laws_eqMask {a : TMask} (hg : gd_Mask a) : laws_eqMask a a = some true := by
  have h0 := hg
  unfold laws_eqMask
  simp only [bnd_some, cnd_true, iqt, andB, decide_true, Bool.and_self, Bool.and_true, f_laws_eqBox, f_laws_eqIntS h0]
theorem f_laws_eqKept {a : TKept} (hg : gd_Kept a) : laws_eqKept a a = some true := by
  have h0 := hg
  unfold laws_eqKept
  simp only [bnd_some, cnd_true, iqt, andB, decide_true, Bool.and_self, Bool.and_true, f_laws_eqMask h0]
theorem f_laws_eqKeptS {a : List TKept} (hg : (gdL gd_Kept) a) : laws_eqKeptS a a = some true := by
  unfold laws_eqKeptS
  have h := eq_loop (f := laws_eqKeptS_l0 a a) (eqE := laws_eqKept) (fun x hx => f_laws_eqKept (hg.2 x hx)) (fun _ => rfl) hg.1
  rw [iqt, cnd_true, h]; rfl
theorem f_laws_eqCache {a : TCache} (hg : gd_Cache a) : laws_eqCache a a = some true := by
  have h0 := hg
  unfold laws_eqCache
  simp only [bnd_some, cnd_true, iqt, andB, decide_true, Bool.and_self, Bool.and_true, f_laws_eqKeptS h0]
theorem f_laws_eqEngine {a : TEngine} (hg : gd_Engine a) : laws_eqEngine a a = some true := by
  obtain ⟨h0, h1, h2, h3, h4⟩ := hg
  unfold laws_eqEngine
  simp only [bnd_some, cnd_true, iqt, andB, decide_true, Bool.and_self, Bool.and_true, f_laws_eqScene h0, f_laws_eqSurface h1, f_laws_eqBoxS h2, f_laws_eqIntS h3, f_laws_eqCache h4]
end Go.Proofs.Ytoafihhhdnmliaa.Am
namespace Go.Proofs.Ytoafihhhdnmliaa.Am
open Go Go.Proofs
set_option linter.unusedSimpArgs false
set_option linter.unusedVariables false
set_option maxRecDepth 100000
/-! ## Small words -/
def tin (x a b : Int) : Bool := ile a x && ile x b
theorem tin_t {x a b : Int} : tin x a b = true ↔ a ≤ x ∧ x ≤ b := by simp [tin, ile_t]
@[simp] theorem m_spec_l01In (x a b : Int) : spec_l01In x a b = some (tin x a b) := by
  unfold spec_l01In tin; cases ile a x <;> simp
@[simp] theorem m_impl_inRange (x a b : Int) : impl_inRange x a b = some (tin x a b) := by
  unfold impl_inRange tin; cases ile a x <;> simp
@[simp] theorem m_impl_isSide (x : Int) : impl_isSide x = some (tin x 1 12) := by unfold impl_isSide; simp
def tileCount (w h : Int) : Int := if tin w 1 12 && tin h 1 12 then ((w + 3) / 4) * ((h + 3) / 4) else 0
theorem four {w : Int} (h : tin w 1 12 = true) : (w + 3) / 4 = 1 ∨ (w + 3) / 4 = 2 ∨ (w + 3) / 4 = 3 := by rw [tin_t] at h; omega
theorem wr9 {w h : Int} (hw : tin w 1 12 = true) (hh : tin h 1 12 = true) : IntKind.i64.wrap ((w + 3) / 4 * ((h + 3) / 4)) = (w + 3) / 4 * ((h + 3) / 4) := by
  refine wr_in ?_
  rcases four hw with e | e | e <;> rcases four hh with f | f | f <;> rw [e, f] <;> decide
theorem up4 {w : Int} (h : tin w 1 12 = true) : IntKind.i64.wrap ((IntKind.i64.wrap (w + 3)).tdiv 4) = (w + 3) / 4 := by
  rw [tin_t] at h
  rw [wr_in (n := w + 3) (by omega), Int.tdiv_eq_ediv_of_nonneg (by omega), wr_in (by omega)]
theorem m_along {x : Int} (h : tin x 1 12 = true) : impl_tilesAlong x = some ((x + 3) / 4) := by
  rw [tin_t] at h
  unfold impl_tilesAlong
  rw [wr_in (n := x + 4) (by omega), wr_in (n := x + 4 - 1) (by omega), Int.tdiv_eq_ediv_of_nonneg (by omega), wr_in (by omega)]
  congr 1; omega
@[simp] theorem m_impl_TileCount (w h : Int) : impl_TileCount w h = some (tileCount w h) := by
  unfold impl_TileCount tileCount
  cases hw : tin w 1 12 <;> cases hh : tin h 1 12 <;> simp [m_along, wr9, *]
@[simp] theorem m_spec_TileCount (w h : Int) : spec_TileCount w h = some (tileCount w h) := by
  unfold spec_TileCount tileCount
  cases hw : tin w 1 12 <;> cases hh : tin h 1 12 <;> simp [up4, wr9, *]

def TBox.empty (b : TBox) : Bool := ile b.x1 b.x0 || ile b.y1 b.y0
def TBox.zero : TBox := ⟨0, 0, 0, 0⟩
def meet (a b : TBox) : TBox :=
  let c : TBox := ⟨max a.x0 b.x0, max a.y0 b.y0, min a.x1 b.x1, min a.y1 b.y1⟩
  if c.empty then .zero else c
@[simp] theorem m_impl_Empty (b : TBox) : impl_Empty b = some b.empty := by
  unfold impl_Empty TBox.empty; cases ile b.x1 b.x0 <;> simp
@[simp] theorem m_spec_Empty (b : TBox) : spec_Empty b = some b.empty := by
  unfold spec_Empty TBox.empty; cases ile b.x1 b.x0 <;> simp
@[simp] theorem m_spec_l05Most (a b : Int) : spec_l05Most a b = some (max a b) := by
  unfold spec_l05Most; cases h : ile a b
  · rw [ile_f] at h; simp; omega
  · rw [ile_t] at h; simp; omega
@[simp] theorem m_spec_l05Least (a b : Int) : spec_l05Least a b = some (min a b) := by
  unfold spec_l05Least; cases h : ile b a
  · rw [ile_f] at h; simp; omega
  · rw [ile_t] at h; simp; omega
@[simp] theorem m_impl_MeetBox (a b : TBox) : impl_MeetBox a b = some (meet a b) := by
  unfold impl_MeetBox meet
  simp
  cases h : TBox.empty ⟨max a.x0 b.x0, max a.y0 b.y0, min a.x1 b.x1, min a.y1 b.y1⟩ <;> simp [TBox.zero]
@[simp] theorem m_spec_MeetBox (a b : TBox) : spec_MeetBox a b = some (meet a b) := by
  unfold spec_MeetBox meet
  simp
  cases h : TBox.empty ⟨max a.x0 b.x0, max a.y0 b.y0, min a.x1 b.x1, min a.y1 b.y1⟩ <;> simp [TBox.zero]
def inBox (b : TBox) (p : TPoint) : Bool := decide (b.x0 ≤ p.x ∧ p.x < b.x1 ∧ b.y0 ≤ p.y ∧ p.y < b.y1)
def tileBox (w h i : Int) : TBox :=
  if tin i 0 (tileCount w h - 1) then
    let x := i % ((w + 3) / 4) * 4
    let y := i / ((w + 3) / 4) * 4
    meet ⟨x, y, x + 4, y + 4⟩ ⟨0, 0, w, h⟩
  else .zero
theorem tc_bd (w h : Int) : 0 ≤ tileCount w h ∧ tileCount w h ≤ 9 := by
  unfold tileCount
  cases hw : tin w 1 12 <;> cases hh : tin h 1 12 <;> simp
  rcases four hw with e | e | e <;> rcases four hh with f | f | f <;> rw [e, f] <;> decide
@[simp] theorem tc_wrap (w h : Int) : IntKind.i64.wrap (tileCount w h - 1) = tileCount w h - 1 := by
  have := tc_bd w h
  exact wr_in (by omega)
theorem tb_facts {w h i : Int} (hi : tin i 0 (tileCount w h - 1) = true) : tin w 1 12 = true ∧ 0 ≤ i ∧ i ≤ 8 := by
  have := tc_bd w h
  rw [tin_t] at hi
  refine ⟨?_, by omega, by omega⟩
  cases hw : tin w 1 12 with
  | true => rfl
  | false =>
    have : tileCount w h = 0 := by simp [tileCount, hw]
    omega
theorem tb_x {r i : Int} (hr : r = 1 ∨ r = 2 ∨ r = 3) (h0 : 0 ≤ i) (h1 : i ≤ 8) : IntKind.i64.wrap (i.tmod r * 4) = i % r * 4 ∧ IntKind.i64.wrap (i % r * 4 + 4) = i % r * 4 + 4 ∧
    IntKind.i64.wrap (IntKind.i64.wrap (i.tdiv r) * 4) = i / r * 4 ∧ IntKind.i64.wrap (i / r * 4 + 4) = i / r * 4 + 4 := by
  rw [Int.tmod_eq_emod_of_nonneg h0, Int.tdiv_eq_ediv_of_nonneg h0]
  rcases hr with rfl | rfl | rfl
  · rw [wr_in (n := i / 1) (by omega)]; exact ⟨wr_in (by omega), wr_in (by omega), wr_in (by omega), wr_in (by omega)⟩
  · rw [wr_in (n := i / 2) (by omega)]; exact ⟨wr_in (by omega), wr_in (by omega), wr_in (by omega), wr_in (by omega)⟩
  · rw [wr_in (n := i / 3) (by omega)]; exact ⟨wr_in (by omega), wr_in (by omega), wr_in (by omega), wr_in (by omega)⟩
theorem four' {w : Int} (h : tin w 1 12 = true) : ¬ (w + 3) / 4 = 0 := by rcases four h with e | e | e <;> omega
@[simp] theorem m_impl_TileBox (w h i : Int) : impl_TileBox w h i = some (tileBox w h i) := by
  unfold impl_TileBox
  cases hi : tin i 0 (tileCount w h - 1) with
  | false => simp [tileBox, hi, TBox.zero]
  | true =>
    obtain ⟨hw, h0, h1⟩ := tb_facts hi
    obtain ⟨e1, e2, e3, e4⟩ := tb_x (four hw) h0 h1
    simp [tileBox, hi, m_along hw, chkP_pos (four' hw), e1, e2, e3, e4]

/-! ## Draws -/
theorem idx_of {α : Type} {l : List α} {i : Int} (h0 : 0 ≤ i) (h1 : i < l.length) : ∃ x, idx l i = some x ∧ x ∈ l := by
  have : i.toNat < l.length := by omega
  refine ⟨l[i.toNat], ?_, List.getElem_mem this⟩
  unfold idx; rw [if_pos h0]; exact List.getElem?_eq_getElem this
theorem and255 (x : Int) : 0 ≤ andI .i64 x 255 ∧ andI .i64 x 255 ≤ 255 := by
  have h : (BitVec.ofInt 64 x &&& BitVec.ofInt 64 255).toNat ≤ 255 := by
    rw [BitVec.toNat_and]
    exact Nat.le_trans Nat.and_le_right (by decide)
  have h2 : (((BitVec.ofInt 64 x &&& BitVec.ofInt 64 255).toNat : Nat) : Int) ≤ 255 := by exact_mod_cast h
  have e : andI .i64 x 255 = IntKind.i64.wrap (((BitVec.ofInt 64 x &&& BitVec.ofInt 64 255).toNat : Nat) : Int) := rfl
  rw [e, wr_in ⟨by omega, by omega⟩]
  exact ⟨by omega, h2⟩
/-- A loop over a row that is left at the first element with a property. -/
theorem loopI_any {α ρ : Type} {f : Int → Option (Int ⊕ ρ)} (l : List α) (p : α → Bool) (r1 r0 : ρ) (hs : ∀ (i : Nat) x, l[i]? = some x → f i = some (if p x = true then .inr r1 else .inl ((i + 1 : Nat) : Int)))
    (he : f (l.length : Nat) = some (.inr r0)) : loopI f ((0 : Nat) : Int) = some (if l.any p = true then r1 else r0) := by
  have key : ∀ d i, i + d = l.length → loopI f (i : Nat) = some (if (l.drop i).any p = true then r1 else r0) := by
    intro d
    induction d with
    | zero =>
      intro i hi
      have : i = l.length := by omega
      subst this
      rw [loopI_end he]; simp
    | succ d ih =>
      intro i hi
      have hlt : i < l.length := by omega
      have h1 := hs i l[i] (List.getElem?_eq_getElem hlt)
      rw [List.drop_eq_getElem_cons hlt, List.any_cons]
      cases hp : p l[i] with
      | true => rw [hp, if_pos rfl] at h1; rw [loopI_end h1]; simp
      | false =>
        rw [hp, if_neg (by simp)] at h1
        rw [loopI_go h1, ih (i + 1) (by omega)]; simp
  simpa using key l.length 0 (by omega)

def meets (b : TBox) (list : List TBox) : Bool := list.any fun x => !(meet b x).empty
theorem m_impl_meetsAny {b : TBox} {list : List TBox} (h : list.length ≤ 9223372036854775806) : impl_meetsAny b list = some (meets b list) := by
  unfold impl_meetsAny
  have := loopI_any (f := impl_meetsAny_l0 b list) list (fun x => !(meet b x).empty) (.inr ()) (.inl ())
    (fun i x hx => by
      have hi : i < list.length := (List.getElem?_eq_some_iff.1 hx).1
      have e1 : ile (list.length : Int) (i : Int) = false := by rw [ile_f]; omega
      simp only [impl_meetsAny_l0, e1, cnd_false, idx_some hx, bnd_some, m_impl_MeetBox, m_impl_Empty]
      rw [wr_in (n := (i : Int) + 1) (by omega)]
      cases (meet b x).empty <;> simp)
    (by simp [impl_meetsAny_l0])
  have e : loopI (impl_meetsAny_l0 b list) 0 = some (if meets b list = true then .inr () else .inl ()) := this
  rw [e]
  cases meets b list <;> rfl
def tilesOf (w h : Int) (list : List TBox) : List Int := ((List.range (tileCount w h).toNat).filter fun i : Nat => meets (tileBox w h (i : Int)) list).map fun i : Nat => (i : Int)
theorem filter_succ {n : Nat} {p : Nat → Bool} : (List.range (n + 1)).filter p = (List.range n).filter p ++ (if p n = true then [n] else []) := by
  rw [List.range_succ, List.filter_append]
  cases h : p n <;> simp [h]
/-! ## Each square is in one tile -/
theorem one_tile {w h x y : Int} (hw : tin w 1 12 = true) (hh : tin h 1 12 = true) (hx : 0 ≤ x ∧ x < w) (hy : 0 ≤ y ∧ y < h) {i : Int} (hi : 0 ≤ i ∧ i < tileCount w h) :
    inBox (tileBox w h i) ⟨x, y⟩ = decide (i = y / 4 * ((w + 3) / 4) + x / 4) := by
  have e0 : tin i 0 (tileCount w h - 1) = true := by rw [tin_t]; omega
  have e1 : tileCount w h = (w + 3) / 4 * ((h + 3) / 4) := by simp [tileCount, hw, hh]
  rw [e1] at hi
  rw [tin_t] at hw hh
  have key : ∀ r : Int, (w + 3) / 4 = r → (r = 1 ∨ r = 2 ∨ r = 3) → ((TBox.mk (max (i % r * 4) 0) (max (i / r * 4) 0) (min (i % r * 4 + 4) w) (min (i / r * 4 + 4) h)).empty = false) ∧
      ((max (i % r * 4) 0 ≤ x ∧ x < min (i % r * 4 + 4) w ∧ max (i / r * 4) 0 ≤ y ∧ y < min (i / r * 4 + 4) h) ↔ i = y / 4 * r + x / 4) := by
    intro r hr hc
    rw [hr] at hi
    have hq : (h + 3) / 4 = 1 ∨ (h + 3) / 4 = 2 ∨ (h + 3) / 4 = 3 := by omega
    constructor
    · simp only [TBox.empty, Bool.or_eq_false_iff, ile_f]
      rcases hc with rfl | rfl | rfl <;> rcases hq with e | e | e <;> rw [e] at hi <;> omega
    · rcases hc with rfl | rfl | rfl <;> rcases hq with e | e | e <;> rw [e] at hi <;> omega
  obtain ⟨k1, k2⟩ := key _ rfl (by omega)
  have hm : tileBox w h i = ⟨max (i % ((w + 3) / 4) * 4) 0, max (i / ((w + 3) / 4) * 4) 0, min (i % ((w + 3) / 4) * 4 + 4) w, min (i / ((w + 3) / 4) * 4 + 4) h⟩ := by
    unfold tileBox
    rw [if_pos e0]
    show meet _ _ = _
    unfold meet
    show (if TBox.empty _ = true then _ else _) = _
    rw [k1]; rfl
  rw [hm]
  exact decide_eq_decide.2 k2
theorem count_one {n k : Nat} (h : k < n) : ((List.range n).filter fun i => decide (i = k)).length = 1 := by
  induction n with
  | zero => omega
  | succ n ih =>
    rw [filter_succ]
    by_cases e : n = k
    · subst e
      have : (List.range n).filter (fun i => decide (i = n)) = [] := by
        rw [List.filter_eq_nil_iff]; intro a ha; simp at ha ⊢; omega
      simp [this]
    · have := ih (by omega)
      simp [e, this]

section
variable {a0 : List Int} {v3 v4 w h : Int}
theorem tiles_len (ew : IntKind.i64.wrap (1 + Int.tmod v3 12) = w) (eh : IntKind.i64.wrap (1 + Int.tmod v4 12) = h) (hw : tin w 1 12 = true) (hh : tin h 1 12 = true) {list : List TBox} : (tilesOf w h list).length ≤ 9 := by
  unfold tilesOf
  have hb := tc_bd w h
  rw [List.length_map]
  exact Nat.le_trans (List.length_filter_le _ _) (by simp; omega)
theorem tiles_mem (ew : IntKind.i64.wrap (1 + Int.tmod v3 12) = w) (eh : IntKind.i64.wrap (1 + Int.tmod v4 12) = h) (hw : tin w 1 12 = true) (hh : tin h 1 12 = true) {list : List TBox} {i : Nat} (hi : (i : Int) < tileCount w h) : ((tilesOf w h list).any fun y => ieq y (i : Int)) = meets (tileBox w h (i : Int)) list := by
  unfold tilesOf
  rw [Bool.eq_iff_iff, List.any_eq_true]
  constructor
  · rintro ⟨y, hy, e⟩
    rw [ieq_t] at e
    subst e
    rw [List.mem_map] at hy
    obtain ⟨j, hj, e⟩ := hy
    have : j = i := by omega
    subst this
    exact (List.mem_filter.1 hj).2
  · intro hm
    refine ⟨(i : Int), ?_, by simp⟩
    rw [List.mem_map]
    exact ⟨i, List.mem_filter.2 ⟨List.mem_range.2 (by omega), hm⟩, rfl⟩
theorem tiles_up (ew : IntKind.i64.wrap (1 + Int.tmod v3 12) = w) (eh : IntKind.i64.wrap (1 + Int.tmod v4 12) = h) (hw : tin w 1 12 = true) (hh : tin h 1 12 = true) {list : List TBox} : (tilesOf w h list).Pairwise (· < ·) := by
  unfold tilesOf
  rw [List.pairwise_map]
  refine List.Pairwise.imp (R := (· < ·)) (fun h => by omega) ?_
  exact List.Pairwise.filter _ List.pairwise_lt_range
end

/-! ## Loops that ask the same of all -/
theorem loopI_all {f : Int → Option (Int ⊕ (Unit ⊕ Unit))} (n : Nat) (p : Nat → Bool) (hn : n ≤ 9223372036854775807)
    (hs : ∀ i : Nat, i < n → f (i : Int) = cnd (p i) (some (.inl (IntKind.i64.wrap ((i : Int) + 1)))) (some (.inr (.inr ())))) (he : f (n : Int) = some (.inr (.inl ()))) :
    loopI f 0 = some (if (List.range n).all p then .inl () else .inr ()) := by
  have h := loopI_find (f := f) (fun i : Nat => (i : Int)) n (fun i => !(p i)) (fun _ => .inr ()) (r := .inl ()) (fun i hi => by
    rw [hs i hi, wr_in (by omega)]
    cases p i <;> simp) he
  have e : loopI f 0 = loopI f ((0 : Nat) : Int) := rfl
  rw [e, h]
  congr 1
  cases hq : (List.range n).find? (fun i => !(p i)) with
  | none =>
    rw [List.find?_eq_none] at hq
    have : (List.range n).all p = true := List.all_eq_true.2 fun x hx => by simpa using hq x hx
    rw [this]; rfl
  | some i =>
    have h1 := List.find?_some hq
    have h2 := List.mem_of_find?_eq_some hq
    have : (List.range n).all p = false := by
      rw [List.all_eq_false]; exact ⟨i, h2, by simpa using h1⟩
    rw [this]; rfl
theorem range_all {α : Type} {l : List α} {q : α → Bool} {p : Nat → Bool} (h : ∀ i (hi : i < l.length), p i = q l[i]) : (List.range l.length).all p = l.all q := by
  rw [Bool.eq_iff_iff, List.all_eq_true, List.all_eq_true]
  constructor
  · intro k x hx
    obtain ⟨i, hi, rfl⟩ := List.getElem_of_mem hx
    rw [← h i hi]; exact k i (List.mem_range.2 hi)
  · intro k i hi
    have hi := List.mem_range.1 hi
    rw [h i hi]; exact k _ (List.getElem_mem hi)
/-- Of a row, each element asked the same. -/
theorem loopI_row {α : Type} {l : List α} {f : Int → Option (Int ⊕ (Unit ⊕ Unit))} (q : α → Bool) (hn : l.length ≤ 9223372036854775807)
    (hs : ∀ (i : Nat) (h : i < l.length), f (i : Int) = cnd (q l[i]) (some (.inl (IntKind.i64.wrap ((i : Int) + 1)))) (some (.inr (.inr ())))) (he : f (l.length : Int) = some (.inr (.inl ()))) :
    loopI f 0 = some (if l.all q then .inl () else .inr ()) := by
  have h := loopI_all (f := f) l.length (fun i => if h : i < l.length then q l[i] else false) hn (fun i hi => by rw [hs i hi]; simp [hi]) he
  rw [h, range_all (q := q) (fun i hi => by simp [hi])]

/-! ## Masks -/
def TBox.isZero (b : TBox) : Bool := decide (b.x0 = 0) && (decide (b.y0 = 0) && (decide (b.x1 = 0) && (decide (b.y1 = 0))))
def maskBox (b : TBox) : Bool := !b.empty && tin b.x0 (-2000) 2000 && tin b.y0 (-2000) 2000 && tin b.x1 (-2000) 2000 && tin b.y1 (-2000) 2000 && ile (b.x1 - b.x0) 60 && ile (b.y1 - b.y0) 60
def maskOk (m : TMask) : Bool := if m.bits.length = 0 then m.box.isZero else maskBox m.box && decide ((m.bits.length : Int) = (m.box.x1 - m.box.x0) * (m.box.y1 - m.box.y0)) && m.bits.all fun x => tin x 0 15
theorem empty_f {b : TBox} : b.empty = false ↔ b.x0 < b.x1 ∧ b.y0 < b.y1 := by simp [TBox.empty, ile_f]
theorem mb_facts {b : TBox} (h : maskBox b = true) : b.x0 < b.x1 ∧ b.y0 < b.y1 ∧ -2000 ≤ b.x0 ∧ b.x1 ≤ 2000 ∧ -2000 ≤ b.y0 ∧ b.y1 ≤ 2000 ∧ b.x1 - b.x0 ≤ 60 ∧ b.y1 - b.y0 ≤ 60 := by
  simp only [maskBox, Bool.and_eq_true, Bool.not_eq_true', empty_f, tin_t, ile_t] at h
  omega
theorem mb_prod {b : TBox} (h : maskBox b = true) : 0 < (b.x1 - b.x0) * (b.y1 - b.y0) ∧ (b.x1 - b.x0) * (b.y1 - b.y0) ≤ 3600 := by
  obtain ⟨h1, h2, _, _, _, _, h3, h4⟩ := mb_facts h
  refine ⟨Int.mul_pos (by omega) (by omega), ?_⟩
  calc (b.x1 - b.x0) * (b.y1 - b.y0) ≤ 60 * (b.y1 - b.y0) := Int.mul_le_mul_of_nonneg_right h3 (by omega)
    _ ≤ 60 * 60 := Int.mul_le_mul_of_nonneg_left h4 (by omega)
theorem mb_wrap {b : TBox} (h : maskBox b = true) : IntKind.i64.wrap (IntKind.i64.wrap (b.x1 - b.x0) * IntKind.i64.wrap (b.y1 - b.y0)) = (b.x1 - b.x0) * (b.y1 - b.y0) := by
  have := mb_facts h
  have := mb_prod h
  rw [wr_in (n := b.x1 - b.x0) (by omega), wr_in (n := b.y1 - b.y0) (by omega), wr_in (by omega)]
theorem zero_box {b : TBox} (h : b.isZero = true) : maskBox b = false := by
  simp only [TBox.isZero, Bool.and_eq_true, decide_eq_true_eq] at h
  have : b.empty = true := by rw [← Bool.not_eq_false, empty_f]; omega
  simp [maskBox, this]
/-! ## The first of a row that is asked for -/
def fst {α : Type} (q : α → Bool) (l : List α) : Int := match l.findIdx? q with | some i => (i : Int) | none => -1
theorem loopI_index {α ρ : Type} {l : List α} {f : Int → Option (Int ⊕ ρ)} (q : α → Bool) (a : ρ) (b : Int → ρ) (hn : l.length ≤ 9223372036854775807)
    (hs : ∀ (i : Nat) (h : i < l.length), f (i : Int) = cnd (q l[i]) (some (.inr (b (i : Int)))) (some (.inl (IntKind.i64.wrap ((i : Int) + 1))))) (he : f (l.length : Int) = some (.inr a)) :
    loopI f 0 = some (match l.findIdx? q with | some i => b (i : Int) | none => a) := by
  have h := loopI_find (f := f) (fun i : Nat => (i : Int)) l.length (fun i => match l[i]? with | some x => q x | none => false) (fun i => b (i : Int)) (r := a) (fun i hi => by
    rw [hs i hi, wr_in (by omega), List.getElem?_eq_getElem hi]
    cases h : q l[i] <;> simp [h]) he
  have e : loopI f 0 = loopI f ((0 : Nat) : Int) := rfl
  rw [e, h]
  have : (List.range l.length).find? (fun i => match l[i]? with | some x => q x | none => false) = l.findIdx? q := by
    cases hq : l.findIdx? q with
    | none =>
      rw [List.findIdx?_eq_none_iff] at hq
      rw [List.find?_eq_none]
      intro i hi
      have hi := List.mem_range.1 hi
      rw [List.getElem?_eq_getElem hi]
      simp [hq _ (List.getElem_mem hi)]
    | some i =>
      rw [List.findIdx?_eq_some_iff_getElem] at hq
      obtain ⟨h1, h2, h3⟩ := hq
      rw [List.find?_range_eq_some]
      refine ⟨by rw [List.getElem?_eq_getElem h1]; exact h2, by simpa using h1, fun j hj => ?_⟩
      have := h3 j hj
      rw [List.getElem?_eq_getElem (by omega)]
      simpa using this
  rw [this]
  cases l.findIdx? q <;> rfl
theorem fst_eq {α : Type} {q : α → Bool} {l : List α} {i : Nat} (hi : i < l.length) (hq : q l[i] = true) : fst q l = (i : Int) ↔ ∀ k (hk : k < i), q l[k] = false := by
  unfold fst
  cases h : l.findIdx? q with
  | none =>
    rw [List.findIdx?_eq_none_iff] at h
    have := h _ (List.getElem_mem hi)
    rw [hq] at this; cases this
  | some j =>
    rw [List.findIdx?_eq_some_iff_getElem] at h
    obtain ⟨h1, h2, h3⟩ := h
    show (j : Int) = (i : Int) ↔ _
    constructor
    · intro e k hk
      have : j = i := by omega
      have := h3 k (by omega)
      simpa using this
    · intro e
      have : ¬ j < i := fun hj => by have := e j hj; rw [h2] at this; cases this
      have : ¬ i < j := fun hj => h3 i hj hq
      show (j : Int) = i
      omega

/-! ## Caches -/
def firstId (l : List TKept) (id : Int) : Int := fst (fun k => ieq k.id id) l
def keptOk (k : TKept) : Bool := tin k.id 1 99 && maskOk k.mask
def keptP (l : List TKept) (i : Nat) : Bool := match l[i]? with
  | some x => keptOk x && decide (firstId l x.id = (i : Int))
  | none => false
def cacheOk (c : TCache) : Bool := tin c.most 1 8 && ile (c.list.length : Int) c.most && (List.range c.list.length).all (keptP c.list)
def okRows (l : List TKept) : Prop := l.length ≤ 9223372036854775807 ∧ ∀ x ∈ l, x.mask.bits.length ≤ 9223372036854775807
theorem rows_gd {c : TCache} (h : gd_Cache c) : okRows c.list := by
  refine ⟨by have := h.1; omega, fun x hx => ?_⟩
  have h1 : gd_Kept x := h.2 x hx
  have h2 : gd_Mask x.mask := h1
  have h3 : gdL tt x.mask.bits := h2
  have := h3.1; omega
/-! ## Surfaces -/
def laidOk (c : TColor) : Bool := tin c.r 0 255 && tin c.g 0 255 && tin c.b 0 255 && tin c.a 0 255 && ile c.r c.a && ile c.g c.a && ile c.b c.a
def surfaceOk (s : TSurface) : Bool := tin s.w 1 12 && tin s.h 1 12 && decide ((s.pix.length : Int) = s.w * s.h) && s.pix.all laidOk
theorem m_spec_ColorOk (c : TColor) : spec_ColorOk c = some (tin c.r 0 255 && tin c.g 0 255 && tin c.b 0 255 && tin c.a 0 255) := by
  unfold spec_ColorOk
  simp only [m_spec_l01In, bnd_some]
  cases tin c.r 0 255 <;> cases tin c.g 0 255 <;> cases tin c.b 0 255 <;> simp
theorem m_impl_isByte (x : Int) : impl_isByte x = some (tin x 0 255) := by unfold impl_isByte; simp only [m_impl_inRange, bnd_some]
theorem m_impl_ColorOk (c : TColor) : impl_ColorOk c = some (tin c.r 0 255 && tin c.g 0 255 && tin c.b 0 255 && tin c.a 0 255) := by
  unfold impl_ColorOk
  simp only [m_impl_isByte, bnd_some]
  cases tin c.r 0 255 <;> cases tin c.g 0 255 <;> cases tin c.b 0 255 <;> simp
theorem m_spec_LaidOk (c : TColor) : spec_LaidOk c = some (laidOk c) := by
  unfold spec_LaidOk laidOk
  rw [m_spec_ColorOk, bnd_some]
  cases (tin c.r 0 255 && tin c.g 0 255 && tin c.b 0 255 && tin c.a 0 255) <;> simp
  cases ile c.r c.a <;> cases ile c.g c.a <;> simp
theorem m_impl_LaidOk (c : TColor) : impl_LaidOk c = some (laidOk c) := by
  unfold impl_LaidOk laidOk
  rw [m_impl_ColorOk, bnd_some]
  cases (tin c.r 0 255 && tin c.g 0 255 && tin c.b 0 255 && tin c.a 0 255) <;> simp
  cases ile c.r c.a <;> cases ile c.g c.a <;> simp
theorem wh_bd {w h : Int} (hw : tin w 1 12 = true) (hh : tin h 1 12 = true) : 1 ≤ w * h ∧ w * h ≤ 144 := by
  rw [tin_t] at hw hh
  refine ⟨?_, ?_⟩
  · calc (1 : Int) = 1 * 1 := rfl
      _ ≤ w * 1 := Int.mul_le_mul_of_nonneg_right hw.1 (by omega)
      _ ≤ w * h := Int.mul_le_mul_of_nonneg_left hh.1 (by omega)
  · calc w * h ≤ 12 * h := Int.mul_le_mul_of_nonneg_right hw.2 (by omega)
      _ ≤ 12 * 12 := Int.mul_le_mul_of_nonneg_left hh.2 (by omega)
theorem m_spec_SurfaceOk {s : TSurface} (h : s.pix.length ≤ 9223372036854775807) : spec_SurfaceOk s = some (surfaceOk s) := by
  unfold spec_SurfaceOk surfaceOk
  simp only [m_spec_l01In, bnd_some]
  cases h1 : tin s.w 1 12 <;> simp only [cnd_true, cnd_false, Bool.false_and, Bool.true_and]
  cases h2 : tin s.h 1 12 <;> simp only [cnd_true, cnd_false, Bool.false_and, Bool.true_and]
  have := wh_bd h1 h2
  rw [wr_in (by omega)]
  by_cases h3 : (s.pix.length : Int) = s.w * s.h
  · have key := loopI_row (l := s.pix) (f := spec_SurfaceOk_l0 s) laidOk h (fun i hi => by rw [spec_SurfaceOk_l0, ilf (by omega), cnd_false, idx_nat hi, bnd_some, m_spec_LaidOk, bnd_some]) (by rw [spec_SurfaceOk_l0, ilt (by omega), cnd_true])
    rw [key, h3, iqt, cnd_true]
    cases s.pix.all laidOk <;> simp
  · rw [iqf h3, cnd_false]; simp [h3]
theorem m_impl_SurfaceOk {s : TSurface} (h : s.pix.length ≤ 9223372036854775807) : impl_SurfaceOk s = some (surfaceOk s) := by
  unfold impl_SurfaceOk surfaceOk
  simp only [m_impl_isSide, bnd_some]
  cases h1 : tin s.w 1 12 <;> simp only [cnd_true, cnd_false, Bool.false_and, Bool.true_and]
  cases h2 : tin s.h 1 12 <;> simp only [cnd_true, cnd_false, Bool.false_and, Bool.true_and]
  have := wh_bd h1 h2
  rw [wr_in (by omega)]
  by_cases h3 : (s.pix.length : Int) = s.w * s.h
  · have key := loopI_row (l := s.pix) (f := impl_SurfaceOk_l0 s) laidOk h (fun i hi => by rw [impl_SurfaceOk_l0, ilf (by omega), cnd_false, idx_nat hi, bnd_some, m_impl_LaidOk, bnd_some]) (by rw [impl_SurfaceOk_l0, ilt (by omega), cnd_true])
    rw [key, h3, iqt, cnd_true]
    cases s.pix.all laidOk <;> simp
  · rw [iqf h3, cnd_false]; simp [h3]
theorem so_facts {s : TSurface} (h : surfaceOk s = true) : tin s.w 1 12 = true ∧ tin s.h 1 12 = true ∧ (s.pix.length : Int) = s.w * s.h ∧ ∀ c ∈ s.pix, laidOk c = true := by
  simp only [surfaceOk, Bool.and_eq_true, decide_eq_true_eq, List.all_eq_true] at h
  exact ⟨h.1.1.1, h.1.1.2, h.1.2, h.2⟩

/-! ## Loops from a number to another one -/
theorem loopI_allF {f : Int → Option (Int ⊕ (Unit ⊕ Unit))} (lo hi : Int) (p : Int → Bool) (hl : -9223372036854775808 ≤ lo) (hh : hi ≤ 9223372036854775807)
    (hs : ∀ x, lo ≤ x → x < hi → f x = cnd (p x) (some (.inl (IntKind.i64.wrap (x + 1)))) (some (.inr (.inr ())))) (he : ∀ x, hi ≤ x → f x = some (.inr (.inl ()))) :
    loopI f lo = some (if (List.range (hi - lo).toNat).all (fun i : Nat => p (lo + (i : Int))) then .inl () else .inr ()) := by
  have h := loopI_find (f := f) (fun i : Nat => lo + (i : Int)) (hi - lo).toNat (fun i : Nat => !(p (lo + (i : Int)))) (fun _ => .inr ()) (r := .inl ()) (fun i hi' => by
    rw [hs (lo + (i : Int)) (by omega) (by omega), wr_in (by omega)]
    cases p (lo + (i : Int))
    · simp
    · simp; omega) (he _ (by omega))
  have e : loopI f lo = loopI f (lo + ((0 : Nat) : Int)) := by rw [show lo + ((0 : Nat) : Int) = lo by omega]
  rw [e, h]
  congr 1
  cases hq : (List.range (hi - lo).toNat).find? (fun i : Nat => !(p (lo + (i : Int)))) with
  | none =>
    rw [List.find?_eq_none] at hq
    have : (List.range (hi - lo).toNat).all (fun i : Nat => p (lo + (i : Int))) = true := List.all_eq_true.2 fun x hx => by simpa using hq x hx
    rw [this]; rfl
  | some i =>
    have h1 := List.find?_some hq
    have h2 := List.mem_of_find?_eq_some hq
    have : (List.range (hi - lo).toNat).all (fun i : Nat => p (lo + (i : Int))) = false := by
      rw [List.all_eq_false]; exact ⟨i, h2, by simpa using h1⟩
    rw [this]; rfl
theorem in_wh {w h x y : Int} (hw : 0 ≤ w ∧ w ≤ 12) (hh : 0 ≤ h ∧ h ≤ 12) (hx : 0 ≤ x ∧ x < w) (hy : 0 ≤ y ∧ y < h) : 0 ≤ y * w ∧ y * w ≤ 144 ∧ y * w + x < w * h := by
  have h1 : y * w ≤ (h - 1) * w := Int.mul_le_mul_of_nonneg_right (by omega) (by omega)
  have h2 : 0 ≤ y * w := Int.mul_nonneg hy.1 hw.1
  have h3 : y * w ≤ 12 * w := Int.mul_le_mul_of_nonneg_right (by omega) hw.1
  have h4 : (h - 1) * w = w * h - w := by rw [Int.sub_mul, Int.one_mul, Int.mul_comm]
  omega

theorem m_spec_TileBox (w h i : Int) : spec_TileBox w h i = some (tileBox w h i) := by
  unfold spec_TileBox
  rw [m_spec_TileCount, bnd_some, tc_wrap, m_spec_l01In, bnd_some]
  cases hi : tin i 0 (tileCount w h - 1) with
  | false => simp [tileBox, hi, TBox.zero]
  | true =>
    obtain ⟨hw, h0, h1⟩ := tb_facts hi
    obtain ⟨e1, e2, e3, e4⟩ := tb_x (four hw) h0 h1
    rw [cnd_true, up4 hw, chkP_pos (four' hw), e1, e2, e3, e4]
    simp [tileBox, hi]

/-! ## Sparing -/
def sameCol (p q : TColor) : Bool := andB (decide (p.r = q.r)) (andB (decide (p.g = q.g)) (andB (decide (p.b = q.b)) (andB (decide (p.a = q.a)) true)))
def pixSame (a b : TSurface) (y x : Int) : Bool := match idx a.pix (y * a.w + x), idx b.pix (y * a.w + x) with
  | some p, some q => sameCol p q
  | _, _ => false
def rowSame (a b : TSurface) (box : TBox) (y : Int) : Bool := (List.range (box.x1 - box.x0).toNat).all fun i : Nat => pixSame a b y (box.x0 + (i : Int))
def sameIn (a b : TSurface) (box : TBox) : Bool := (List.range (box.y1 - box.y0).toNat).all fun j : Nat => rowSame a b box (box.y0 + (j : Int))
structure InS (w h : Int) (box : TBox) : Prop where
  w0 : 1 ≤ w ∧ w ≤ 12
  h0 : 1 ≤ h ∧ h ≤ 12
  x : 0 ≤ box.x0 ∧ box.x1 ≤ w
  y : 0 ≤ box.y0 ∧ box.y1 ≤ h
theorem m_sameWithin {a b : TSurface} {box : TBox} (hb : InS a.w a.h box) (ha : (a.pix.length : Int) = a.w * a.h) (hc : (b.pix.length : Int) = a.w * a.h) :
    impl_sameWithin a b box = some (sameIn a b box) := by
  obtain ⟨hw, hh, hx, hy⟩ := hb
  have row : ∀ y, 0 ≤ y → y < a.h → loopI (impl_sameWithin_l0 a b box y) box.x0 = some (if rowSame a b box y then .inl () else .inr ()) := by
    intro y y0 y1
    refine loopI_allF box.x0 box.x1 (pixSame a b y) (by omega) (by omega) (fun x x0 x1 => ?_) (fun x hx => by rw [impl_sameWithin_l0, ilt hx, cnd_true])
    obtain ⟨b1, b2, b3⟩ := in_wh (x := x) (y := y) ⟨by omega, hw.2⟩ ⟨by omega, hh.2⟩ ⟨by omega, by omega⟩ ⟨y0, y1⟩
    rw [impl_sameWithin_l0, ilf (by omega), cnd_false, wr_in (n := y * a.w) (by omega), wr_in (n := y * a.w + x) (by omega)]
    obtain ⟨p, hp, _⟩ := idx_of (l := a.pix) (i := y * a.w + x) (by omega) (by omega)
    obtain ⟨q, hq, _⟩ := idx_of (l := b.pix) (i := y * a.w + x) (by omega) (by omega)
    rw [hp, hq, bnd_some, bnd_some]
    unfold pixSame
    rw [hp, hq]; rfl
  unfold impl_sameWithin
  have key := loopI_allF (f := impl_sameWithin_l1 a b box) box.y0 box.y1 (rowSame a b box) (by omega) (by omega) (fun y y0 y1 => by
    rw [impl_sameWithin_l1, ilf (by omega), cnd_false, row y (by omega) (by omega)]
    cases rowSame a b box y <;> rfl) (fun y hy => by rw [impl_sameWithin_l1, ilt hy, cnd_true])
  rw [key]
  unfold sameIn
  cases (List.range (box.y1 - box.y0).toNat).all fun j : Nat => rowSame a b box (box.y0 + (j : Int)) <;> rfl
theorem tb_in {w h i : Int} (hw : tin w 1 12 = true) (hh : tin h 1 12 = true) : InS w h (tileBox w h i) := by
  rw [tin_t] at hw hh
  refine ⟨hw, hh, ?_, ?_⟩ <;> unfold tileBox <;> split
  · unfold meet; dsimp only; split
    · simp [TBox.zero]; omega
    · dsimp only; omega
  · simp [TBox.zero]; omega
  · unfold meet; dsimp only; split
    · simp [TBox.zero]; omega
    · dsimp only; omega
  · simp [TBox.zero]; omega
def sparP (a b : TEngine) (i : Nat) : Bool := match a.stamps[i]?, b.stamps[i]? with
  | some x, some y => if x = y then sameIn a.frame b.frame (tileBox a.frame.w a.frame.h (i : Int)) else meets (tileBox a.frame.w a.frame.h (i : Int)) a.dirty
  | _, _ => false
def stamped (e : TEngine) : Bool := surfaceOk e.frame && decide ((e.stamps.length : Int) = tileCount e.frame.w e.frame.h)
def sparing (a b : TEngine) : Bool := decide (a.frame.w = b.frame.w) && decide (a.frame.h = b.frame.h) && stamped a && stamped b && (List.range a.stamps.length).all (sparP a b)
structure RowsE (e : TEngine) : Prop where
  pix : e.frame.pix.length ≤ 1048576
  dirty : e.dirty.length ≤ 1048576
  stamps : e.stamps.length ≤ 1048576
theorem m_isStamped {e : TEngine} (h : RowsE e) : impl_isStamped e = some (stamped e) := by
  unfold impl_isStamped stamped
  have := h.pix
  rw [m_impl_SurfaceOk (by omega), bnd_some]
  cases surfaceOk e.frame <;> simp [ieq]
theorem m_impl_Sparing {a b : TEngine} (ha : RowsE a) (hb : RowsE b) : impl_Sparing a b = some (sparing a b) := by
  unfold impl_Sparing sparing
  by_cases h1 : a.frame.w = b.frame.w
  case neg => rw [iqf h1, cnd_false]; simp [h1]
  by_cases h2 : a.frame.h = b.frame.h
  case neg => rw [iqf h2, h1, iqt, cnd_true, cnd_false]; simp [h2]
  rw [m_isStamped ha, m_isStamped hb, ← h1, ← h2, iqt, iqt, cnd_true, cnd_true, bnd_some]
  cases h3 : stamped a <;> simp only [cnd_true, cnd_false, bnd_some, decide_true, Bool.true_and, Bool.false_and]
  cases h4 : stamped b <;> simp only [cnd_true, cnd_false, bnd_some, decide_true, Bool.true_and, Bool.false_and]
  simp only [stamped, Bool.and_eq_true, decide_eq_true_eq] at h3 h4
  obtain ⟨sw, sh, sp, _⟩ := so_facts h3.1
  obtain ⟨_, _, sq, _⟩ := so_facts h4.1
  have := ha.stamps; have := hb.stamps; have := ha.dirty
  have key := loopI_all (f := impl_Sparing_l0 a b) a.stamps.length (sparP a b) (by omega) (fun i hi => by
    have hj : i < b.stamps.length := by rw [h1, h2] at h3; omega
    rw [impl_Sparing_l0, ilf (by omega), cnd_false, m_impl_TileBox, bnd_some, idx_nat hi, bnd_some, idx_nat hj, bnd_some]
    unfold sparP
    rw [List.getElem?_eq_getElem hi, List.getElem?_eq_getElem hj]
    dsimp only
    by_cases h5 : a.stamps[i] = b.stamps[i]
    · rw [h5, iqt, cnd_true, m_sameWithin (tb_in sw sh) sp (by rw [h1, h2]; exact sq), bnd_some]; simp
    · rw [iqf h5, cnd_false, m_impl_meetsAny (by omega), bnd_some]; simp [h5]) (by rw [impl_Sparing_l0, ilt (by omega), cnd_true])
  rw [key]
  cases (List.range a.stamps.length).all (sparP a b) <;> rfl
theorem m_spar_l0 {a b : TEngine} {box : TBox} {x : Int} (hd : a.dirty.length ≤ 1048576) : loopI (spec_Sparing_l0 a b box x) (false, 0) = some (meets box a.dirty) := by
  have key := loopI_n (f := spec_Sparing_l0 a b box x) (fun i => ((a.dirty.take i).any fun y => !(meet box y).empty, (i : Int))) a.dirty.length (r := meets box a.dirty) (fun i hi => ?_) ?_
  · simpa using key
  · rw [spec_Sparing_l0, ilf (by omega), cnd_false]
    have e : (a.dirty.take (i + 1)).any (fun y => !(meet box y).empty) = ((a.dirty.take i).any (fun y => !(meet box y).empty) || !(meet box a.dirty[i]).empty) := by
      rw [List.take_add_one, List.getElem?_eq_getElem hi, List.any_append]; simp only [Option.toList, List.any_cons, List.any_nil, Bool.or_false]
    rw [e, idx_nat hi, bnd_some, m_spec_MeetBox, bnd_some, m_spec_Empty, bnd_some, wr_in (by omega)]
    cases (a.dirty.take i).any (fun y => !(meet box y).empty) <;> simp
  · rw [spec_Sparing_l0, ilt (by omega), cnd_true]; simp [meets]
theorem m_spec_Sparing {a b : TEngine} (ha : RowsE a) (hb : RowsE b) : spec_Sparing a b = some (sparing a b) := by
  have := ha.stamps; have := hb.stamps; have := ha.dirty; have := ha.pix; have := hb.pix
  unfold spec_Sparing sparing stamped
  by_cases h1 : a.frame.w = b.frame.w
  case neg => rw [iqf (Ne.symm h1), cnd_false]; simp [h1]
  by_cases h2 : a.frame.h = b.frame.h
  case neg => rw [iqf (Ne.symm h2), h1, iqt, cnd_true, cnd_false]; simp [h2]
  rw [← h1, ← h2, iqt, iqt, cnd_true, cnd_true, m_spec_TileCount, bnd_some]
  by_cases h3 : (a.stamps.length : Int) = tileCount a.frame.w a.frame.h
  case neg => rw [iqf h3, cnd_false]; simp [h3]
  by_cases h4 : (b.stamps.length : Int) = tileCount a.frame.w a.frame.h
  case neg => rw [iqf h4, h3, iqt, cnd_true, cnd_false]; simp [h4]
  rw [h3, h4, iqt, cnd_true, cnd_true, m_spec_SurfaceOk (by omega), bnd_some]
  cases h5 : surfaceOk a.frame <;> simp only [cnd_true, cnd_false, bnd_some, decide_true, Bool.true_and, Bool.false_and]
  rw [m_spec_SurfaceOk (by omega), bnd_some]
  cases h6 : surfaceOk b.frame <;> simp only [cnd_true, cnd_false, bnd_some, decide_true, Bool.true_and, Bool.false_and]
  obtain ⟨sw, sh, sp, _⟩ := so_facts h5
  obtain ⟨_, _, sq, _⟩ := so_facts h6
  have key := loopI_all (f := spec_Sparing_l5 a b) a.stamps.length (sparP a b) (by omega) (fun i hi => by
    have hj : i < b.stamps.length := by omega
    rw [spec_Sparing_l5, ilf (by omega), cnd_false, m_spec_TileBox, bnd_some, m_spar_l0 (by omega), bnd_some, idx_nat hi, bnd_some, idx_nat hj, bnd_some]
    unfold sparP
    rw [List.getElem?_eq_getElem hi, List.getElem?_eq_getElem hj]
    dsimp only
    have hs := m_sameWithin (tb_in (i := (i : Int)) sw sh) sp (by rw [h1, h2]; exact sq)
    by_cases h7 : a.stamps[i] = b.stamps[i]
    · rw [h7, iqt, cnd_true, if_pos rfl]
      have e2 : spec_Sparing_l2 a b (tileBox a.frame.w a.frame.h (i : Int)) (i : Int) = impl_sameWithin_l1 a.frame b.frame (tileBox a.frame.w a.frame.h (i : Int)) := by
        funext y
        unfold spec_Sparing_l2 impl_sameWithin_l1
        rw [idx_nat hi, idx_nat hj, bnd_some, bnd_some, h7, iqt, cnd_true]
        rfl
      rw [e2]
      unfold impl_sameWithin at hs
      cases hq : loopI (impl_sameWithin_l1 a.frame b.frame (tileBox a.frame.w a.frame.h (i : Int))) (tileBox a.frame.w a.frame.h (i : Int)).y0 with
      | none => rw [hq] at hs; cases hs
      | some r =>
        rw [hq, bnd_some] at hs
        rw [bnd_some]
        cases r with
        | inl u => simp only [Option.some.injEq] at hs; rw [← hs]; rfl
        | inr u => simp only [Option.some.injEq] at hs; rw [← hs]; rfl
    · rw [iqf h7, cnd_false, if_neg h7]
      cases hm : meets (tileBox a.frame.w a.frame.h (i : Int)) a.dirty with
      | false => rfl
      | true =>
        rw [cnd_true, cnd_true]
        have e4 : loopI (spec_Sparing_l4 a b (tileBox a.frame.w a.frame.h (i : Int)) (i : Int)) (tileBox a.frame.w a.frame.h (i : Int)).y0 = some (.inl ()) := by
          refine loopI_end ?_
          unfold spec_Sparing_l4
          cases ile (tileBox a.frame.w a.frame.h (i : Int)).y1 (tileBox a.frame.w a.frame.h (i : Int)).y0 with
          | true => rfl
          | false => rw [cnd_false, idx_nat hi, bnd_some, idx_nat hj, bnd_some, iqf h7, cnd_false]
        rw [e4]; rfl) (by rw [spec_Sparing_l5, ilt (by omega), cnd_true])
  rw [key]
  cases (List.range a.stamps.length).all (sparP a b) <;> rfl
theorem rows_e {e : TEngine} (h : gd_Engine e) : RowsE e := ⟨h.2.1.1, h.2.2.1.1, h.2.2.2.1.1⟩
theorem m_FnExactSparing {a b : TEngine} (ha : ok_Engine a) (hb : ok_Engine b) : laws_FnExactSparing a b = some true := by
  obtain ⟨v, e, l, _, g⟩ := f_laws_szEngine ha (left := 1048576) (by omega) (by omega)
  unfold laws_FnExactSparing
  rw [e, bnd_some]
  by_cases hv : 0 ≤ v
  case neg => rw [ilf (by omega), cnd_false]
  obtain ⟨v', e', _, _, g'⟩ := f_laws_szEngine hb hv (by omega)
  rw [ilt hv, cnd_true, e', bnd_some]
  by_cases hv' : 0 ≤ v'
  case neg => rw [ilf (by omega), cnd_false]
  have ga := g hv; have gb := g' hv'
  rw [ilt hv', cnd_true, f_laws_toEngine ga, bnd_some, f_laws_toEngine gb, bnd_some, m_spec_Sparing (rows_e ga) (rows_e gb), bnd_some, m_impl_Sparing (rows_e ga) (rows_e gb), bnd_some, f_laws_eqEngine ga, bnd_some, f_laws_eqEngine gb]
  simp [andB]

end Go.Proofs.Ytoafihhhdnmliaa.Am
