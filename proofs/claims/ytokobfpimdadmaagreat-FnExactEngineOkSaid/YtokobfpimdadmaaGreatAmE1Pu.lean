import Derived.Test.YtokobfpimdadmaaGreatAmE1Mo
import Derived.Test.YtokobfpimdadmaaGreatAmRo
import Derived.Test.YtokobfpimdadmaaGreatAmLw
set_option linter.unusedVariables false
set_option linter.unusedSimpArgs false
set_option linter.unusedSectionVars false
namespace Go.Proofs.YtokobfpimdadmaaGreat.Am
open Go Go.Proofs
def ok_Mat (x : TMat) : Prop := (okN .i64) x.a ∧ (okN .i64) x.b ∧ (okN .i64) x.c ∧ (okN .i64) x.d ∧ (okN .i64) x.e ∧ (okN .i64) x.f
theorem dm_Mat : Dm (.struct [.int .i64, .int .i64, .int .i64, .int .i64, .int .i64, .int .i64]) eMat ok_Mat := ⟨fun cs h => by
  rw [Dom] at h; simp only [DomL] at h
  obtain ⟨_, _, rfl, h0, _, _, rfl, h1, _, _, rfl, h2, _, _, rfl, h3, _, _, rfl, h4, _, _, rfl, h5, rfl⟩ := h
  obtain ⟨x0, rfl, k0⟩ := dm_int.c h0
  obtain ⟨x1, rfl, k1⟩ := dm_int.c h1
  obtain ⟨x2, rfl, k2⟩ := dm_int.c h2
  obtain ⟨x3, rfl, k3⟩ := dm_int.c h3
  obtain ⟨x4, rfl, k4⟩ := dm_int.c h4
  obtain ⟨x5, rfl, k5⟩ := dm_int.c h5
  exact ⟨⟨x0, x1, x2, x3, x4, x5⟩, by simp [elA, Ty.isS], k0, k1, k2, k3, k4, k5⟩⟩
def ok_Point (x : TPoint) : Prop := (okN .i64) x.x ∧ (okN .i64) x.y
theorem dm_Point : Dm (.struct [.int .i64, .int .i64]) ePoint ok_Point := ⟨fun cs h => by
  rw [Dom] at h; simp only [DomL] at h
  obtain ⟨_, _, rfl, h0, _, _, rfl, h1, rfl⟩ := h
  obtain ⟨x0, rfl, k0⟩ := dm_int.c h0
  obtain ⟨x1, rfl, k1⟩ := dm_int.c h1
  exact ⟨⟨x0, x1⟩, by simp [elA, Ty.isS], k0, k1⟩⟩
def ok_Path (x : TPath) : Prop := (okL (okN .i64)) x.verbs ∧ (okL ok_Point) x.points
theorem dm_Path : Dm (.struct [.slice (.int .i64), .slice (.struct [.int .i64, .int .i64])]) ePath ok_Path := ⟨fun cs h => by
  rw [Dom] at h; simp only [DomL] at h
  obtain ⟨_, _, rfl, h0, _, _, rfl, h1, rfl⟩ := h
  obtain ⟨x0, rfl, k0⟩ := (dm_sl dm_int).c h0
  obtain ⟨x1, rfl, k1⟩ := (dm_sl dm_Point).c h1
  exact ⟨⟨x0, x1⟩, by simp [elA, Ty.isS], k0, k1⟩⟩
def ok_Color (x : TColor) : Prop := (okN .i64) x.r ∧ (okN .i64) x.g ∧ (okN .i64) x.b ∧ (okN .i64) x.a
theorem dm_Color : Dm (.struct [.int .i64, .int .i64, .int .i64, .int .i64]) eColor ok_Color := ⟨fun cs h => by
  rw [Dom] at h; simp only [DomL] at h
  obtain ⟨_, _, rfl, h0, _, _, rfl, h1, _, _, rfl, h2, _, _, rfl, h3, rfl⟩ := h
  obtain ⟨x0, rfl, k0⟩ := dm_int.c h0
  obtain ⟨x1, rfl, k1⟩ := dm_int.c h1
  obtain ⟨x2, rfl, k2⟩ := dm_int.c h2
  obtain ⟨x3, rfl, k3⟩ := dm_int.c h3
  exact ⟨⟨x0, x1, x2, x3⟩, by simp [elA, Ty.isS], k0, k1, k2, k3⟩⟩
def ok_Paint (x : TPaint) : Prop := (okN .i64) x.kind ∧ ok_Color x.first ∧ ok_Color x.last ∧ ok_Point x.from_ ∧ ok_Point x.to
theorem dm_Paint : Dm (.struct [.int .i64, .struct [.int .i64, .int .i64, .int .i64, .int .i64], .struct [.int .i64, .int .i64, .int .i64, .int .i64], .struct [.int .i64, .int .i64], .struct [.int .i64, .int .i64]]) ePaint ok_Paint := ⟨fun cs h => by
  rw [Dom] at h; simp only [DomL] at h
  obtain ⟨_, _, rfl, h0, _, _, rfl, h1, _, _, rfl, h2, _, _, rfl, h3, _, _, rfl, h4, rfl⟩ := h
  obtain ⟨x0, rfl, k0⟩ := dm_int.c h0
  obtain ⟨x1, rfl, k1⟩ := dm_Color.c h1
  obtain ⟨x2, rfl, k2⟩ := dm_Color.c h2
  obtain ⟨x3, rfl, k3⟩ := dm_Point.c h3
  obtain ⟨x4, rfl, k4⟩ := dm_Point.c h4
  exact ⟨⟨x0, x1, x2, x3, x4⟩, by simp [elA, Ty.isS], k0, k1, k2, k3, k4⟩⟩
def ok_Node (x : TNode) : Prop := (okN .i64) x.id ∧ (okN .i64) x.parent ∧ (fun _ : Bool => True) x.group ∧ ok_Mat x.mat ∧ ok_Path x.path ∧ (fun _ : Bool => True) x.even ∧ (okN .i64) x.width ∧ (okL (okN .i64)) x.dashes ∧ ok_Paint x.paint ∧ (okN .i64) x.mode ∧ (okN .i64) x.fade ∧ ok_Path x.clip
theorem dm_Node : Dm (.struct [.int .i64, .int .i64, .bool, .struct [.int .i64, .int .i64, .int .i64, .int .i64, .int .i64, .int .i64], .struct [.slice (.int .i64), .slice (.struct [.int .i64, .int .i64])], .bool, .int .i64, .slice (.int .i64), .struct [.int .i64, .struct [.int .i64, .int .i64, .int .i64, .int .i64], .struct [.int .i64, .int .i64, .int .i64, .int .i64], .struct [.int .i64, .int .i64], .struct [.int .i64, .int .i64]], .int .i64, .int .i64, .struct [.slice (.int .i64), .slice (.struct [.int .i64, .int .i64])]]) eNode ok_Node := ⟨fun cs h => by
  rw [Dom] at h; simp only [DomL] at h
  obtain ⟨_, _, rfl, h0, _, _, rfl, h1, _, _, rfl, h2, _, _, rfl, h3, _, _, rfl, h4, _, _, rfl, h5, _, _, rfl, h6, _, _, rfl, h7, _, _, rfl, h8, _, _, rfl, h9, _, _, rfl, h10, _, _, rfl, h11, rfl⟩ := h
  obtain ⟨x0, rfl, k0⟩ := dm_int.c h0
  obtain ⟨x1, rfl, k1⟩ := dm_int.c h1
  obtain ⟨x2, rfl, k2⟩ := dm_bool.c h2
  obtain ⟨x3, rfl, k3⟩ := dm_Mat.c h3
  obtain ⟨x4, rfl, k4⟩ := dm_Path.c h4
  obtain ⟨x5, rfl, k5⟩ := dm_bool.c h5
  obtain ⟨x6, rfl, k6⟩ := dm_int.c h6
  obtain ⟨x7, rfl, k7⟩ := (dm_sl dm_int).c h7
  obtain ⟨x8, rfl, k8⟩ := dm_Paint.c h8
  obtain ⟨x9, rfl, k9⟩ := dm_int.c h9
  obtain ⟨x10, rfl, k10⟩ := dm_int.c h10
  obtain ⟨x11, rfl, k11⟩ := dm_Path.c h11
  exact ⟨⟨x0, x1, x2, x3, x4, x5, x6, x7, x8, x9, x10, x11⟩, by simp [elA, Ty.isS], k0, k1, k2, k3, k4, k5, k6, k7, k8, k9, k10, k11⟩⟩
def ok_Scene (x : TScene) : Prop := (okL ok_Node) x.nodes
theorem dm_Scene : Dm (.struct [.slice (.struct [.int .i64, .int .i64, .bool, .struct [.int .i64, .int .i64, .int .i64, .int .i64, .int .i64, .int .i64], .struct [.slice (.int .i64), .slice (.struct [.int .i64, .int .i64])], .bool, .int .i64, .slice (.int .i64), .struct [.int .i64, .struct [.int .i64, .int .i64, .int .i64, .int .i64], .struct [.int .i64, .int .i64, .int .i64, .int .i64], .struct [.int .i64, .int .i64], .struct [.int .i64, .int .i64]], .int .i64, .int .i64, .struct [.slice (.int .i64), .slice (.struct [.int .i64, .int .i64])]])]) eScene ok_Scene := ⟨fun cs h => by
  rw [Dom] at h; simp only [DomL] at h
  obtain ⟨_, _, rfl, h0, rfl⟩ := h
  obtain ⟨x0, rfl, k0⟩ := (dm_sl dm_Node).c h0
  exact ⟨⟨x0⟩, by simp [elA, Ty.isS], k0⟩⟩
def ok_Surface (x : TSurface) : Prop := (okN .i64) x.w ∧ (okN .i64) x.h ∧ (okL ok_Color) x.pix
theorem dm_Surface : Dm (.struct [.int .i64, .int .i64, .slice (.struct [.int .i64, .int .i64, .int .i64, .int .i64])]) eSurface ok_Surface := ⟨fun cs h => by
  rw [Dom] at h; simp only [DomL] at h
  obtain ⟨_, _, rfl, h0, _, _, rfl, h1, _, _, rfl, h2, rfl⟩ := h
  obtain ⟨x0, rfl, k0⟩ := dm_int.c h0
  obtain ⟨x1, rfl, k1⟩ := dm_int.c h1
  obtain ⟨x2, rfl, k2⟩ := (dm_sl dm_Color).c h2
  exact ⟨⟨x0, x1, x2⟩, by simp [elA, Ty.isS], k0, k1, k2⟩⟩
def ok_Box (x : TBox) : Prop := (okN .i64) x.x0 ∧ (okN .i64) x.y0 ∧ (okN .i64) x.x1 ∧ (okN .i64) x.y1
theorem dm_Box : Dm (.struct [.int .i64, .int .i64, .int .i64, .int .i64]) eBox ok_Box := ⟨fun cs h => by
  rw [Dom] at h; simp only [DomL] at h
  obtain ⟨_, _, rfl, h0, _, _, rfl, h1, _, _, rfl, h2, _, _, rfl, h3, rfl⟩ := h
  obtain ⟨x0, rfl, k0⟩ := dm_int.c h0
  obtain ⟨x1, rfl, k1⟩ := dm_int.c h1
  obtain ⟨x2, rfl, k2⟩ := dm_int.c h2
  obtain ⟨x3, rfl, k3⟩ := dm_int.c h3
  exact ⟨⟨x0, x1, x2, x3⟩, by simp [elA, Ty.isS], k0, k1, k2, k3⟩⟩
def ok_Mask (x : TMask) : Prop := ok_Box x.box ∧ (okL (okN .i64)) x.bits
theorem dm_Mask : Dm (.struct [.struct [.int .i64, .int .i64, .int .i64, .int .i64], .slice (.int .i64)]) eMask ok_Mask := ⟨fun cs h => by
  rw [Dom] at h; simp only [DomL] at h
  obtain ⟨_, _, rfl, h0, _, _, rfl, h1, rfl⟩ := h
  obtain ⟨x0, rfl, k0⟩ := dm_Box.c h0
  obtain ⟨x1, rfl, k1⟩ := (dm_sl dm_int).c h1
  exact ⟨⟨x0, x1⟩, by simp [elA, Ty.isS], k0, k1⟩⟩
def ok_Kept (x : TKept) : Prop := (okN .i64) x.id ∧ ok_Mask x.mask
theorem dm_Kept : Dm (.struct [.int .i64, .struct [.struct [.int .i64, .int .i64, .int .i64, .int .i64], .slice (.int .i64)]]) eKept ok_Kept := ⟨fun cs h => by
  rw [Dom] at h; simp only [DomL] at h
  obtain ⟨_, _, rfl, h0, _, _, rfl, h1, rfl⟩ := h
  obtain ⟨x0, rfl, k0⟩ := dm_int.c h0
  obtain ⟨x1, rfl, k1⟩ := dm_Mask.c h1
  exact ⟨⟨x0, x1⟩, by simp [elA, Ty.isS], k0, k1⟩⟩
def ok_Cache (x : TCache) : Prop := (okN .i64) x.most ∧ (okL ok_Kept) x.list
theorem dm_Cache : Dm (.struct [.int .i64, .slice (.struct [.int .i64, .struct [.struct [.int .i64, .int .i64, .int .i64, .int .i64], .slice (.int .i64)]])]) eCache ok_Cache := ⟨fun cs h => by
  rw [Dom] at h; simp only [DomL] at h
  obtain ⟨_, _, rfl, h0, _, _, rfl, h1, rfl⟩ := h
  obtain ⟨x0, rfl, k0⟩ := dm_int.c h0
  obtain ⟨x1, rfl, k1⟩ := (dm_sl dm_Kept).c h1
  exact ⟨⟨x0, x1⟩, by simp [elA, Ty.isS], k0, k1⟩⟩
def ok_Engine (x : TEngine) : Prop := ok_Scene x.scene ∧ ok_Surface x.frame ∧ (okL ok_Box) x.dirty ∧ (okL (okN .i64)) x.stamps ∧ ok_Cache x.cache ∧ (okN .i64) x.painted
theorem dm_Engine : Dm (.struct [.struct [.slice (.struct [.int .i64, .int .i64, .bool, .struct [.int .i64, .int .i64, .int .i64, .int .i64, .int .i64, .int .i64], .struct [.slice (.int .i64), .slice (.struct [.int .i64, .int .i64])], .bool, .int .i64, .slice (.int .i64), .struct [.int .i64, .struct [.int .i64, .int .i64, .int .i64, .int .i64], .struct [.int .i64, .int .i64, .int .i64, .int .i64], .struct [.int .i64, .int .i64], .struct [.int .i64, .int .i64]], .int .i64, .int .i64, .struct [.slice (.int .i64), .slice (.struct [.int .i64, .int .i64])]])], .struct [.int .i64, .int .i64, .slice (.struct [.int .i64, .int .i64, .int .i64, .int .i64])], .slice (.struct [.int .i64, .int .i64, .int .i64, .int .i64]), .slice (.int .i64), .struct [.int .i64, .slice (.struct [.int .i64, .struct [.struct [.int .i64, .int .i64, .int .i64, .int .i64], .slice (.int .i64)]])], .int .i64]) eEngine ok_Engine := ⟨fun cs h => by
  rw [Dom] at h; simp only [DomL] at h
  obtain ⟨_, _, rfl, h0, _, _, rfl, h1, _, _, rfl, h2, _, _, rfl, h3, _, _, rfl, h4, _, _, rfl, h5, rfl⟩ := h
  obtain ⟨x0, rfl, k0⟩ := dm_Scene.c h0
  obtain ⟨x1, rfl, k1⟩ := dm_Surface.c h1
  obtain ⟨x2, rfl, k2⟩ := (dm_sl dm_Box).c h2
  obtain ⟨x3, rfl, k3⟩ := (dm_sl dm_int).c h3
  obtain ⟨x4, rfl, k4⟩ := dm_Cache.c h4
  obtain ⟨x5, rfl, k5⟩ := dm_int.c h5
  exact ⟨⟨x0, x1, x2, x3, x4, x5⟩, by simp [elA, Ty.isS], k0, k1, k2, k3, k4, k5⟩⟩
end Go.Proofs.YtokobfpimdadmaaGreat.Am
namespace Go.Proofs.YtokobfpimdadmaaGreat.Am
open Go Go.Proofs
set_option linter.unusedVariables false
set_option linter.unusedSimpArgs false
theorem f_laws_szIntS {a : List Int} {left : Int} (ho : okL (okN .i64) a) (h0 : 0 ≤ left) (h1 : left ≤ 1048576) : ∃ v, laws_szIntS a left = some v ∧ szR v left (gdL tt a) := by
  unfold laws_szIntS; exact sz_row (maxL ho.1) h0 h1
theorem f_laws_szPointS {a : List TPoint} {left : Int} (ho : okL ok_Point a) (h0 : 0 ≤ left) (h1 : left ≤ 1048576) : ∃ v, laws_szPointS a left = some v ∧ szR v left (gdL tt a) := by
  unfold laws_szPointS; exact sz_row (maxL ho.1) h0 h1
def gd_Path (x : TPath) : Prop := (gdL tt) x.verbs ∧ (gdL tt) x.points
theorem f_laws_szPath {a : TPath} {left : Int} (ho : ok_Path a) (h0 : 0 ≤ left) (h1 : left ≤ 1048576) : ∃ v, laws_szPath a left = some v ∧ szR v left (gd_Path a) := by
  obtain ⟨o0, o1⟩ := ho
  unfold laws_szPath
  obtain ⟨v0, e0, l0, m0, g0⟩ := f_laws_szIntS o0 h0 (by omega)
  rw [e0, bnd_some]
  by_cases c0 : 0 ≤ v0
  case neg => rw [ilf (by omega), cnd_false]; exact ⟨-1, rfl, by omega, by omega, fun h => by omega⟩
  rw [ilt c0, cnd_true]
  obtain ⟨v1, e1, l1, m1, g1⟩ := f_laws_szPointS o1 c0 (by omega)
  rw [e1, bnd_some]
  by_cases c1 : 0 ≤ v1
  case neg => rw [ilf (by omega), cnd_false]; exact ⟨-1, rfl, by omega, by omega, fun h => by omega⟩
  rw [ilt c1, cnd_true]
  exact ⟨v1, rfl, by omega, by omega, fun _ => ⟨g0 c0, g1 c1⟩⟩
def gd_Node (x : TNode) : Prop := gd_Path x.path ∧ (gdL tt) x.dashes ∧ gd_Path x.clip
theorem f_laws_szNode {a : TNode} {left : Int} (ho : ok_Node a) (h0 : 0 ≤ left) (h1 : left ≤ 1048576) : ∃ v, laws_szNode a left = some v ∧ szR v left (gd_Node a) := by
  obtain ⟨o0, o1, o2, o3, o4, o5, o6, o7, o8, o9, o10, o11⟩ := ho
  unfold laws_szNode
  obtain ⟨v4, e4, l4, m4, g4⟩ := f_laws_szPath o4 h0 (by omega)
  rw [e4, bnd_some]
  by_cases c4 : 0 ≤ v4
  case neg => rw [ilf (by omega), cnd_false]; exact ⟨-1, rfl, by omega, by omega, fun h => by omega⟩
  rw [ilt c4, cnd_true]
  obtain ⟨v7, e7, l7, m7, g7⟩ := f_laws_szIntS o7 c4 (by omega)
  rw [e7, bnd_some]
  by_cases c7 : 0 ≤ v7
  case neg => rw [ilf (by omega), cnd_false]; exact ⟨-1, rfl, by omega, by omega, fun h => by omega⟩
  rw [ilt c7, cnd_true]
  obtain ⟨v11, e11, l11, m11, g11⟩ := f_laws_szPath o11 c7 (by omega)
  rw [e11, bnd_some]
  by_cases c11 : 0 ≤ v11
  case neg => rw [ilf (by omega), cnd_false]; exact ⟨-1, rfl, by omega, by omega, fun h => by omega⟩
  rw [ilt c11, cnd_true]
  exact ⟨v11, rfl, by omega, by omega, fun _ => ⟨g4 c4, g7 c7, g11 c11⟩⟩
theorem f_laws_szNodeS {a : List TNode} {left : Int} (ho : okL ok_Node a) (h0 : 0 ≤ left) (h1 : left ≤ 1048576) : ∃ v, laws_szNodeS a left = some v ∧ szR v left ((gdL gd_Node) a) := by
  unfold laws_szNodeS
  have hl := maxL ho.1
  rw [wr_in (by omega)]
  by_cases h : 0 ≤ left - (a.length : Int)
  · rw [ilt h, cnd_true]
    obtain ⟨v, ⟨v1, v2, v3⟩, e⟩ := sz_loop (szE := laws_szNode) (g := gd_Node) (f := laws_szNodeS_l0 a) (left := left - (a.length : Int)) (fun x hx left => f_laws_szNode (ho.2 x hx)) (fun _ _ => rfl) h (by omega) (by omega)
    refine ⟨v, ?_, by omega, v2, v3⟩
    rcases e with ⟨e, _⟩ | ⟨e, rfl⟩ <;> rw [e] <;> rfl
  · rw [ilf (by omega), cnd_false]
    exact ⟨_, rfl, by omega, by omega, fun h => by omega⟩
def gd_Scene (x : TScene) : Prop := (gdL gd_Node) x.nodes
theorem f_laws_szScene {a : TScene} {left : Int} (ho : ok_Scene a) (h0 : 0 ≤ left) (h1 : left ≤ 1048576) : ∃ v, laws_szScene a left = some v ∧ szR v left (gd_Scene a) := by
  have o0 := ho
  unfold laws_szScene
  obtain ⟨v0, e0, l0, m0, g0⟩ := f_laws_szNodeS o0 h0 (by omega)
  rw [e0, bnd_some]
  by_cases c0 : 0 ≤ v0
  case neg => rw [ilf (by omega), cnd_false]; exact ⟨-1, rfl, by omega, by omega, fun h => by omega⟩
  rw [ilt c0, cnd_true]
  exact ⟨v0, rfl, by omega, by omega, fun _ => g0 c0⟩
theorem f_laws_szColorS {a : List TColor} {left : Int} (ho : okL ok_Color a) (h0 : 0 ≤ left) (h1 : left ≤ 1048576) : ∃ v, laws_szColorS a left = some v ∧ szR v left (gdL tt a) := by
  unfold laws_szColorS; exact sz_row (maxL ho.1) h0 h1
def gd_Surface (x : TSurface) : Prop := (gdL tt) x.pix
theorem f_laws_szSurface {a : TSurface} {left : Int} (ho : ok_Surface a) (h0 : 0 ≤ left) (h1 : left ≤ 1048576) : ∃ v, laws_szSurface a left = some v ∧ szR v left (gd_Surface a) := by
  obtain ⟨o0, o1, o2⟩ := ho
  unfold laws_szSurface
  obtain ⟨v2, e2, l2, m2, g2⟩ := f_laws_szColorS o2 h0 (by omega)
  rw [e2, bnd_some]
  by_cases c2 : 0 ≤ v2
  case neg => rw [ilf (by omega), cnd_false]; exact ⟨-1, rfl, by omega, by omega, fun h => by omega⟩
  rw [ilt c2, cnd_true]
  exact ⟨v2, rfl, by omega, by omega, fun _ => g2 c2⟩
theorem f_laws_szBoxS {a : List TBox} {left : Int} (ho : okL ok_Box a) (h0 : 0 ≤ left) (h1 : left ≤ 1048576) : ∃ v, laws_szBoxS a left = some v ∧ szR v left (gdL tt a) := by
  unfold laws_szBoxS; exact sz_row (maxL ho.1) h0 h1
def gd_Mask (x : TMask) : Prop := (gdL tt) x.bits
theorem f_laws_szMask {a : TMask} {left : Int} (ho : ok_Mask a) (h0 : 0 ≤ left) (h1 : left ≤ 1048576) : ∃ v, laws_szMask a left = some v ∧ szR v left (gd_Mask a) := by
  obtain ⟨o0, o1⟩ := ho
  unfold laws_szMask
  obtain ⟨v1, e1, l1, m1, g1⟩ := f_laws_szIntS o1 h0 (by omega)
  rw [e1, bnd_some]
  by_cases c1 : 0 ≤ v1
  case neg => rw [ilf (by omega), cnd_false]; exact ⟨-1, rfl, by omega, by omega, fun h => by omega⟩
  rw [ilt c1, cnd_true]
  exact ⟨v1, rfl, by omega, by omega, fun _ => g1 c1⟩
def gd_Kept (x : TKept) : Prop := gd_Mask x.mask
theorem f_laws_szKept {a : TKept} {left : Int} (ho : ok_Kept a) (h0 : 0 ≤ left) (h1 : left ≤ 1048576) : ∃ v, laws_szKept a left = some v ∧ szR v left (gd_Kept a) := by
  obtain ⟨o0, o1⟩ := ho
  unfold laws_szKept
  obtain ⟨v1, e1, l1, m1, g1⟩ := f_laws_szMask o1 h0 (by omega)
  rw [e1, bnd_some]
  by_cases c1 : 0 ≤ v1
  case neg => rw [ilf (by omega), cnd_false]; exact ⟨-1, rfl, by omega, by omega, fun h => by omega⟩
  rw [ilt c1, cnd_true]
  exact ⟨v1, rfl, by omega, by omega, fun _ => g1 c1⟩
theorem f_laws_szKeptS {a : List TKept} {left : Int} (ho : okL ok_Kept a) (h0 : 0 ≤ left) (h1 : left ≤ 1048576) : ∃ v, laws_szKeptS a left = some v ∧ szR v left ((gdL gd_Kept) a) := by
  unfold laws_szKeptS
  have hl := maxL ho.1
  rw [wr_in (by omega)]
  by_cases h : 0 ≤ left - (a.length : Int)
  · rw [ilt h, cnd_true]
    obtain ⟨v, ⟨v1, v2, v3⟩, e⟩ := sz_loop (szE := laws_szKept) (g := gd_Kept) (f := laws_szKeptS_l0 a) (left := left - (a.length : Int)) (fun x hx left => f_laws_szKept (ho.2 x hx)) (fun _ _ => rfl) h (by omega) (by omega)
    refine ⟨v, ?_, by omega, v2, v3⟩
    rcases e with ⟨e, _⟩ | ⟨e, rfl⟩ <;> rw [e] <;> rfl
  · rw [ilf (by omega), cnd_false]
    exact ⟨_, rfl, by omega, by omega, fun h => by omega⟩
def gd_Cache (x : TCache) : Prop := (gdL gd_Kept) x.list
theorem f_laws_szCache {a : TCache} {left : Int} (ho : ok_Cache a) (h0 : 0 ≤ left) (h1 : left ≤ 1048576) : ∃ v, laws_szCache a left = some v ∧ szR v left (gd_Cache a) := by
  obtain ⟨o0, o1⟩ := ho
  unfold laws_szCache
  obtain ⟨v1, e1, l1, m1, g1⟩ := f_laws_szKeptS o1 h0 (by omega)
  rw [e1, bnd_some]
  by_cases c1 : 0 ≤ v1
  case neg => rw [ilf (by omega), cnd_false]; exact ⟨-1, rfl, by omega, by omega, fun h => by omega⟩
  rw [ilt c1, cnd_true]
  exact ⟨v1, rfl, by omega, by omega, fun _ => g1 c1⟩
def gd_Engine (x : TEngine) : Prop := gd_Scene x.scene ∧ gd_Surface x.frame ∧ (gdL tt) x.dirty ∧ (gdL tt) x.stamps ∧ gd_Cache x.cache
theorem f_laws_szEngine {a : TEngine} {left : Int} (ho : ok_Engine a) (h0 : 0 ≤ left) (h1 : left ≤ 1048576) : ∃ v, laws_szEngine a left = some v ∧ szR v left (gd_Engine a) := by
  obtain ⟨o0, o1, o2, o3, o4, o5⟩ := ho
  unfold laws_szEngine
  obtain ⟨v0, e0, l0, m0, g0⟩ := f_laws_szScene o0 h0 (by omega)
  rw [e0, bnd_some]
  by_cases c0 : 0 ≤ v0
  case neg => rw [ilf (by omega), cnd_false]; exact ⟨-1, rfl, by omega, by omega, fun h => by omega⟩
  rw [ilt c0, cnd_true]
  obtain ⟨v1, e1, l1, m1, g1⟩ := f_laws_szSurface o1 c0 (by omega)
  rw [e1, bnd_some]
  by_cases c1 : 0 ≤ v1
  case neg => rw [ilf (by omega), cnd_false]; exact ⟨-1, rfl, by omega, by omega, fun h => by omega⟩
  rw [ilt c1, cnd_true]
  obtain ⟨v2, e2, l2, m2, g2⟩ := f_laws_szBoxS o2 c1 (by omega)
  rw [e2, bnd_some]
  by_cases c2 : 0 ≤ v2
  case neg => rw [ilf (by omega), cnd_false]; exact ⟨-1, rfl, by omega, by omega, fun h => by omega⟩
  rw [ilt c2, cnd_true]
  obtain ⟨v3, e3, l3, m3, g3⟩ := f_laws_szIntS o3 c2 (by omega)
  rw [e3, bnd_some]
  by_cases c3 : 0 ≤ v3
  case neg => rw [ilf (by omega), cnd_false]; exact ⟨-1, rfl, by omega, by omega, fun h => by omega⟩
  rw [ilt c3, cnd_true]
  obtain ⟨v4, e4, l4, m4, g4⟩ := f_laws_szCache o4 c3 (by omega)
  rw [e4, bnd_some]
  by_cases c4 : 0 ≤ v4
  case neg => rw [ilf (by omega), cnd_false]; exact ⟨-1, rfl, by omega, by omega, fun h => by omega⟩
  rw [ilt c4, cnd_true]
  exact ⟨v4, rfl, by omega, by omega, fun _ => ⟨g0 c0, g1 c1, g2 c2, g3 c3, g4 c4⟩⟩
theorem f_laws_toMat {a : TMat} : laws_toMat a = some a := by
  unfold laws_toMat
  rfl
theorem f_laws_toIntS {a : List Int} (hg : (gdL tt) a) : laws_toIntS a = some a := by
  unfold laws_toIntS
  rw [chkP_pos (ch_row hg.1 (by omega))]
  have h := to_loop (f := laws_toIntS_l0 a) (toE := some) (0) (fun _ _ => rfl) (fun _ _ => rfl) hg.1
  simp only [nam_eq, h, bnd_some]
theorem f_laws_toPoint {a : TPoint} : laws_toPoint a = some a := by
  unfold laws_toPoint
  rfl
theorem f_laws_toPointS {a : List TPoint} (hg : (gdL tt) a) : laws_toPointS a = some a := by
  unfold laws_toPointS
  rw [chkP_pos (ch_row hg.1 (by omega))]
  have h := to_loop (f := laws_toPointS_l0 a) (toE := laws_toPoint) ((TPoint.mk 0 0)) (fun x hx => f_laws_toPoint ) (fun _ _ => rfl) hg.1
  simp only [nam_eq, h, bnd_some]
theorem f_laws_toPath {a : TPath} (hg : gd_Path a) : laws_toPath a = some a := by
  obtain ⟨h0, h1⟩ := hg
  unfold laws_toPath
  simp only [bnd_some, f_laws_toIntS h0, f_laws_toPointS h1]
theorem f_laws_toColor {a : TColor} : laws_toColor a = some a := by
  unfold laws_toColor
  rfl
theorem f_laws_toPaint {a : TPaint} : laws_toPaint a = some a := by
  unfold laws_toPaint
  simp only [bnd_some, f_laws_toColor, f_laws_toPoint]
theorem f_laws_toNode {a : TNode} (hg : gd_Node a) : laws_toNode a = some a := by
  obtain ⟨h0, h1, h2⟩ := hg
  unfold laws_toNode
  simp only [bnd_some, f_laws_toMat, f_laws_toPath h0, f_laws_toPath h2, f_laws_toIntS h1, f_laws_toPaint]
theorem f_laws_toNodeS {a : List TNode} (hg : (gdL gd_Node) a) : laws_toNodeS a = some a := by
  unfold laws_toNodeS
  rw [chkP_pos (ch_row hg.1 (by omega))]
  have h := to_loop (f := laws_toNodeS_l0 a) (toE := laws_toNode) ((TNode.mk 0 0 false (TMat.mk 0 0 0 0 0 0) (TPath.mk [] []) false 0 [] (TPaint.mk 0 (TColor.mk 0 0 0 0) (TColor.mk 0 0 0 0) (TPoint.mk 0 0) (TPoint.mk 0 0)) 0 0 (TPath.mk [] []))) (fun x hx => f_laws_toNode (hg.2 x hx)) (fun _ _ => rfl) hg.1
  simp only [nam_eq, h, bnd_some]
theorem f_laws_toScene {a : TScene} (hg : gd_Scene a) : laws_toScene a = some a := by
  have h0 := hg
  unfold laws_toScene
  simp only [bnd_some, f_laws_toNodeS h0]
theorem f_laws_toColorS {a : List TColor} (hg : (gdL tt) a) : laws_toColorS a = some a := by
  unfold laws_toColorS
  rw [chkP_pos (ch_row hg.1 (by omega))]
  have h := to_loop (f := laws_toColorS_l0 a) (toE := laws_toColor) ((TColor.mk 0 0 0 0)) (fun x hx => f_laws_toColor ) (fun _ _ => rfl) hg.1
  simp only [nam_eq, h, bnd_some]
theorem f_laws_toSurface {a : TSurface} (hg : gd_Surface a) : laws_toSurface a = some a := by
  have h0 := hg
  unfold laws_toSurface
  simp only [bnd_some, f_laws_toColorS h0]
theorem f_laws_toBox {a : TBox} : laws_toBox a = some a := by
  unfold laws_toBox
  rfl
theorem f_laws_toBoxS {a : List TBox} (hg : (gdL tt) a) : laws_toBoxS a = some a := by
  unfold laws_toBoxS
  rw [chkP_pos (ch_row hg.1 (by omega))]
  have h := to_loop (f := laws_toBoxS_l0 a) (toE := laws_toBox) ((TBox.mk 0 0 0 0)) (fun x hx => f_laws_toBox ) (fun _ _ => rfl) hg.1
  simp only [nam_eq, h, bnd_some]
theorem f_laws_toMask {a : TMask} (hg : gd_Mask a) : laws_toMask a = some a := by
  have h0 := hg
  unfold laws_toMask
  simp only [bnd_some, f_laws_toBox, f_laws_toIntS h0]
theorem f_laws_toKept {a : TKept} (hg : gd_Kept a) : laws_toKept a = some a := by
  have h0 := hg
  unfold laws_toKept
  simp only [bnd_some, f_laws_toMask h0]
theorem f_laws_toKeptS {a : List TKept} (hg : (gdL gd_Kept) a) : laws_toKeptS a = some a := by
  unfold laws_toKeptS
  rw [chkP_pos (ch_row hg.1 (by omega))]
  have h := to_loop (f := laws_toKeptS_l0 a) (toE := laws_toKept) ((TKept.mk 0 (TMask.mk (TBox.mk 0 0 0 0) []))) (fun x hx => f_laws_toKept (hg.2 x hx)) (fun _ _ => rfl) hg.1
  simp only [nam_eq, h, bnd_some]
theorem f_laws_toCache {a : TCache} (hg : gd_Cache a) : laws_toCache a = some a := by
  have h0 := hg
  unfold laws_toCache
  simp only [bnd_some, f_laws_toKeptS h0]
theorem f_laws_toEngine {a : TEngine} (hg : gd_Engine a) : laws_toEngine a = some a := by
  obtain ⟨h0, h1, h2, h3, h4⟩ := hg
  unfold laws_toEngine
  simp only [bnd_some, f_laws_toScene h0, f_laws_toSurface h1, f_laws_toBoxS h2, f_laws_toIntS h3, f_laws_toCache h4]
theorem f_laws_eqMat {a : TMat} : laws_eqMat a a = some true := by
  unfold laws_eqMat
  simp only [bnd_some, cnd_true, iqt, andB, decide_true, Bool.and_self, Bool.and_true]
theorem f_laws_eqIntS {a : List Int} (hg : (gdL tt) a) : laws_eqIntS a a = some true := by
  unfold laws_eqIntS
  have h := eq_loop (f := laws_eqIntS_l0 a a) (eqE := (fun x y => some (ieq x y))) (fun _ _ => by simp [ieq, sq']) (fun _ => rfl) hg.1
  rw [iqt, cnd_true, h]; rfl
theorem f_laws_eqPoint {a : TPoint} : laws_eqPoint a a = some true := by
  unfold laws_eqPoint
  simp only [bnd_some, cnd_true, iqt, andB, decide_true, Bool.and_self, Bool.and_true]
theorem f_laws_eqPointS {a : List TPoint} (hg : (gdL tt) a) : laws_eqPointS a a = some true := by
  unfold laws_eqPointS
  have h := eq_loop (f := laws_eqPointS_l0 a a) (eqE := laws_eqPoint) (fun x hx => f_laws_eqPoint ) (fun _ => rfl) hg.1
  rw [iqt, cnd_true, h]; rfl
theorem f_laws_eqPath {a : TPath} (hg : gd_Path a) : laws_eqPath a a = some true := by
  obtain ⟨h0, h1⟩ := hg
  unfold laws_eqPath
  simp only [bnd_some, cnd_true, iqt, andB, decide_true, Bool.and_self, Bool.and_true, f_laws_eqIntS h0, f_laws_eqPointS h1]
theorem f_laws_eqColor {a : TColor} : laws_eqColor a a = some true := by
  unfold laws_eqColor
  simp only [bnd_some, cnd_true, iqt, andB, decide_true, Bool.and_self, Bool.and_true]
theorem f_laws_eqPaint {a : TPaint} : laws_eqPaint a a = some true := by
  unfold laws_eqPaint
  simp only [bnd_some, cnd_true, iqt, andB, decide_true, Bool.and_self, Bool.and_true, f_laws_eqColor, f_laws_eqPoint]
theorem f_laws_eqNode {a : TNode} (hg : gd_Node a) : laws_eqNode a a = some true := by
  obtain ⟨h0, h1, h2⟩ := hg
  unfold laws_eqNode
  simp only [bnd_some, cnd_true, iqt, andB, decide_true, Bool.and_self, Bool.and_true, f_laws_eqMat, f_laws_eqPath h0, f_laws_eqPath h2, f_laws_eqIntS h1, f_laws_eqPaint]
theorem f_laws_eqNodeS {a : List TNode} (hg : (gdL gd_Node) a) : laws_eqNodeS a a = some true := by
  unfold laws_eqNodeS
  have h := eq_loop (f := laws_eqNodeS_l0 a a) (eqE := laws_eqNode) (fun x hx => f_laws_eqNode (hg.2 x hx)) (fun _ => rfl) hg.1
  rw [iqt, cnd_true, h]; rfl
theorem f_laws_eqScene {a : TScene} (hg : gd_Scene a) : laws_eqScene a a = some true := by
  have h0 := hg
  unfold laws_eqScene
  simp only [bnd_some, cnd_true, iqt, andB, decide_true, Bool.and_self, Bool.and_true, f_laws_eqNodeS h0]
theorem f_laws_eqColorS {a : List TColor} (hg : (gdL tt) a) : laws_eqColorS a a = some true := by
  unfold laws_eqColorS
  have h := eq_loop (f := laws_eqColorS_l0 a a) (eqE := laws_eqColor) (fun x hx => f_laws_eqColor ) (fun _ => rfl) hg.1
  rw [iqt, cnd_true, h]; rfl
theorem f_laws_eqSurface {a : TSurface} (hg : gd_Surface a) : laws_eqSurface a a = some true := by
  have h0 := hg
  unfold laws_eqSurface
  simp only [bnd_some, cnd_true, iqt, andB, decide_true, Bool.and_self, Bool.and_true, f_laws_eqColorS h0]
theorem f_laws_eqBox {a : TBox} : laws_eqBox a a = some true := by
  unfold laws_eqBox
  simp only [bnd_some, cnd_true, iqt, andB, decide_true, Bool.and_self, Bool.and_true]
theorem f_laws_eqBoxS {a : List TBox} (hg : (gdL tt) a) : laws_eqBoxS a a = some true := by
  unfold laws_eqBoxS
  have h := eq_loop (f := laws_eqBoxS_l0 a a) (eqE := laws_eqBox) (fun x hx => f_laws_eqBox ) (fun _ => rfl) hg.1
  rw [iqt, cnd_true, h]; rfl
theorem f_laws_eqMask {a : TMask} (hg : gd_Mask a) : laws_eqMask a a = some true := by
  have h0 := hg
  unfold laws_eqMask
  simp only [bnd_some, cnd_true, iqt, andB, decide_true, Bool.and_self, Bool.and_true, f_laws_eqBox, f_laws_eqIntS h0]
theorem f_laws_eqKept {a : TKept} (hg : gd_Kept a) : laws_eqKept a a = some true := by
  have h0 := hg
  unfold laws_eqKept
  simp only [bnd_some, cnd_true, iqt, andB, decide_true, Bool.and_self, Bool.and_true, f_laws_eqMask h0]
theorem f_laws_eqKeptS {a : List TKept} (hg : (gdL gd_Kept) a) : laws_eqKeptS a a = some true := by
  unfold laws_eqKeptS
  have h := eq_loop (f := laws_eqKeptS_l0 a a) (eqE := laws_eqKept) (fun x hx => f_laws_eqKept (hg.2 x hx)) (fun _ => rfl) hg.1
  rw [iqt, cnd_true, h]; rfl
theorem f_laws_eqCache {a : TCache} (hg : gd_Cache a) : laws_eqCache a a = some true := by
  have h0 := hg
  unfold laws_eqCache
  simp only [bnd_some, cnd_true, iqt, andB, decide_true, Bool.and_self, Bool.and_true, f_laws_eqKeptS h0]
theorem f_laws_eqEngine {a : TEngine} (hg : gd_Engine a) : laws_eqEngine a a = some true := by
  obtain ⟨h0, h1, h2, h3, h4⟩ := hg
  unfold laws_eqEngine
  simp only [bnd_some, cnd_true, iqt, andB, decide_true, Bool.and_self, Bool.and_true, f_laws_eqScene h0, f_laws_eqSurface h1, f_laws_eqBoxS h2, f_laws_eqIntS h3, f_laws_eqCache h4]
end Go.Proofs.YtokobfpimdadmaaGreat.Am
namespace Go.Proofs.YtokobfpimdadmaaGreat.Am
open Go Go.Proofs
set_option linter.unusedSimpArgs false
set_option linter.unusedVariables false
set_option maxRecDepth 100000
/-! ## Small words -/
def tin (x a b : Int) : Bool := ile a x && ile x b
theorem tin_t {x a b : Int} : tin x a b = true ↔ a ≤ x ∧ x ≤ b := by simp [tin, ile_t]
@[simp] theorem m_spec_l01In (x a b : Int) : spec_l01In x a b = some (tin x a b) := by
  unfold spec_l01In tin; cases ile a x <;> simp
@[simp] theorem m_impl_inRange (x a b : Int) : impl_inRange x a b = some (tin x a b) := by
  unfold impl_inRange tin; cases ile a x <;> simp
@[simp] theorem m_impl_isSide (x : Int) : impl_isSide x = some (tin x 1 12) := by unfold impl_isSide; simp
def tileCount (w h : Int) : Int := if tin w 1 12 && tin h 1 12 then ((w + 3) / 4) * ((h + 3) / 4) else 0
theorem four {w : Int} (h : tin w 1 12 = true) : (w + 3) / 4 = 1 ∨ (w + 3) / 4 = 2 ∨ (w + 3) / 4 = 3 := by rw [tin_t] at h; omega
theorem wr9 {w h : Int} (hw : tin w 1 12 = true) (hh : tin h 1 12 = true) : IntKind.i64.wrap ((w + 3) / 4 * ((h + 3) / 4)) = (w + 3) / 4 * ((h + 3) / 4) := by
  refine wr_in ?_
  rcases four hw with e | e | e <;> rcases four hh with f | f | f <;> rw [e, f] <;> decide
theorem up4 {w : Int} (h : tin w 1 12 = true) : IntKind.i64.wrap ((IntKind.i64.wrap (w + 3)).tdiv 4) = (w + 3) / 4 := by
  rw [tin_t] at h
  rw [wr_in (n := w + 3) (by omega), Int.tdiv_eq_ediv_of_nonneg (by omega), wr_in (by omega)]
theorem m_along {x : Int} (h : tin x 1 12 = true) : impl_tilesAlong x = some ((x + 3) / 4) := by
  rw [tin_t] at h
  unfold impl_tilesAlong
  rw [wr_in (n := x + 4) (by omega), wr_in (n := x + 4 - 1) (by omega), Int.tdiv_eq_ediv_of_nonneg (by omega), wr_in (by omega)]
  congr 1; omega
@[simp] theorem m_impl_TileCount (w h : Int) : impl_TileCount w h = some (tileCount w h) := by
  unfold impl_TileCount tileCount
  cases hw : tin w 1 12 <;> cases hh : tin h 1 12 <;> simp [m_along, wr9, *]
@[simp] theorem m_spec_TileCount (w h : Int) : spec_TileCount w h = some (tileCount w h) := by
  unfold spec_TileCount tileCount
  cases hw : tin w 1 12 <;> cases hh : tin h 1 12 <;> simp [up4, wr9, *]

def TBox.empty (b : TBox) : Bool := ile b.x1 b.x0 || ile b.y1 b.y0
def TBox.zero : TBox := ⟨0, 0, 0, 0⟩
def meet (a b : TBox) : TBox :=
  let c : TBox := ⟨max a.x0 b.x0, max a.y0 b.y0, min a.x1 b.x1, min a.y1 b.y1⟩
  if c.empty then .zero else c
@[simp] theorem m_impl_Empty (b : TBox) : impl_Empty b = some b.empty := by
  unfold impl_Empty TBox.empty; cases ile b.x1 b.x0 <;> simp
@[simp] theorem m_spec_Empty (b : TBox) : spec_Empty b = some b.empty := by
  unfold spec_Empty TBox.empty; cases ile b.x1 b.x0 <;> simp
def inBox (b : TBox) (p : TPoint) : Bool := decide (b.x0 ≤ p.x ∧ p.x < b.x1 ∧ b.y0 ≤ p.y ∧ p.y < b.y1)
def tileBox (w h i : Int) : TBox :=
  if tin i 0 (tileCount w h - 1) then
    let x := i % ((w + 3) / 4) * 4
    let y := i / ((w + 3) / 4) * 4
    meet ⟨x, y, x + 4, y + 4⟩ ⟨0, 0, w, h⟩
  else .zero
theorem tc_bd (w h : Int) : 0 ≤ tileCount w h ∧ tileCount w h ≤ 9 := by
  unfold tileCount
  cases hw : tin w 1 12 <;> cases hh : tin h 1 12 <;> simp
  rcases four hw with e | e | e <;> rcases four hh with f | f | f <;> rw [e, f] <;> decide
@[simp] theorem tc_wrap (w h : Int) : IntKind.i64.wrap (tileCount w h - 1) = tileCount w h - 1 := by
  have := tc_bd w h
  exact wr_in (by omega)
theorem tb_facts {w h i : Int} (hi : tin i 0 (tileCount w h - 1) = true) : tin w 1 12 = true ∧ 0 ≤ i ∧ i ≤ 8 := by
  have := tc_bd w h
  rw [tin_t] at hi
  refine ⟨?_, by omega, by omega⟩
  cases hw : tin w 1 12 with
  | true => rfl
  | false =>
    have : tileCount w h = 0 := by simp [tileCount, hw]
    omega
theorem tb_x {r i : Int} (hr : r = 1 ∨ r = 2 ∨ r = 3) (h0 : 0 ≤ i) (h1 : i ≤ 8) : IntKind.i64.wrap (i.tmod r * 4) = i % r * 4 ∧ IntKind.i64.wrap (i % r * 4 + 4) = i % r * 4 + 4 ∧
    IntKind.i64.wrap (IntKind.i64.wrap (i.tdiv r) * 4) = i / r * 4 ∧ IntKind.i64.wrap (i / r * 4 + 4) = i / r * 4 + 4 := by
  rw [Int.tmod_eq_emod_of_nonneg h0, Int.tdiv_eq_ediv_of_nonneg h0]
  rcases hr with rfl | rfl | rfl
  · rw [wr_in (n := i / 1) (by omega)]; exact ⟨wr_in (by omega), wr_in (by omega), wr_in (by omega), wr_in (by omega)⟩
  · rw [wr_in (n := i / 2) (by omega)]; exact ⟨wr_in (by omega), wr_in (by omega), wr_in (by omega), wr_in (by omega)⟩
  · rw [wr_in (n := i / 3) (by omega)]; exact ⟨wr_in (by omega), wr_in (by omega), wr_in (by omega), wr_in (by omega)⟩
theorem four' {w : Int} (h : tin w 1 12 = true) : ¬ (w + 3) / 4 = 0 := by rcases four h with e | e | e <;> omega
/-! ## Draws -/
theorem idx_of {α : Type} {l : List α} {i : Int} (h0 : 0 ≤ i) (h1 : i < l.length) : ∃ x, idx l i = some x ∧ x ∈ l := by
  have : i.toNat < l.length := by omega
  refine ⟨l[i.toNat], ?_, List.getElem_mem this⟩
  unfold idx; rw [if_pos h0]; exact List.getElem?_eq_getElem this
/-! ## Each square is in one tile -/
section
variable {a0 : List Int} {v3 v4 w h : Int}
end

/-! ## Loops that ask the same of all -/
theorem loopI_all {f : Int → Option (Int ⊕ (Unit ⊕ Unit))} (n : Nat) (p : Nat → Bool) (hn : n ≤ 9223372036854775807)
    (hs : ∀ i : Nat, i < n → f (i : Int) = cnd (p i) (some (.inl (IntKind.i64.wrap ((i : Int) + 1)))) (some (.inr (.inr ())))) (he : f (n : Int) = some (.inr (.inl ()))) :
    loopI f 0 = some (if (List.range n).all p then .inl () else .inr ()) := by
  have h := loopI_find (f := f) (fun i : Nat => (i : Int)) n (fun i => !(p i)) (fun _ => .inr ()) (r := .inl ()) (fun i hi => by
    rw [hs i hi, wr_in (by omega)]
    cases p i <;> simp) he
  have e : loopI f 0 = loopI f ((0 : Nat) : Int) := rfl
  rw [e, h]
  congr 1
  cases hq : (List.range n).find? (fun i => !(p i)) with
  | none =>
    rw [List.find?_eq_none] at hq
    have : (List.range n).all p = true := List.all_eq_true.2 fun x hx => by simpa using hq x hx
    rw [this]; rfl
  | some i =>
    have h1 := List.find?_some hq
    have h2 := List.mem_of_find?_eq_some hq
    have : (List.range n).all p = false := by
      rw [List.all_eq_false]; exact ⟨i, h2, by simpa using h1⟩
    rw [this]; rfl
theorem range_all {α : Type} {l : List α} {q : α → Bool} {p : Nat → Bool} (h : ∀ i (hi : i < l.length), p i = q l[i]) : (List.range l.length).all p = l.all q := by
  rw [Bool.eq_iff_iff, List.all_eq_true, List.all_eq_true]
  constructor
  · intro k x hx
    obtain ⟨i, hi, rfl⟩ := List.getElem_of_mem hx
    rw [← h i hi]; exact k i (List.mem_range.2 hi)
  · intro k i hi
    have hi := List.mem_range.1 hi
    rw [h i hi]; exact k _ (List.getElem_mem hi)
/-- Of a row, each element asked the same. -/
theorem loopI_row {α : Type} {l : List α} {f : Int → Option (Int ⊕ (Unit ⊕ Unit))} (q : α → Bool) (hn : l.length ≤ 9223372036854775807)
    (hs : ∀ (i : Nat) (h : i < l.length), f (i : Int) = cnd (q l[i]) (some (.inl (IntKind.i64.wrap ((i : Int) + 1)))) (some (.inr (.inr ())))) (he : f (l.length : Int) = some (.inr (.inl ()))) :
    loopI f 0 = some (if l.all q then .inl () else .inr ()) := by
  have h := loopI_all (f := f) l.length (fun i => if h : i < l.length then q l[i] else false) hn (fun i hi => by rw [hs i hi]; simp [hi]) he
  rw [h, range_all (q := q) (fun i hi => by simp [hi])]

/-! ## Masks -/
def TBox.isZero (b : TBox) : Bool := decide (b.x0 = 0) && (decide (b.y0 = 0) && (decide (b.x1 = 0) && (decide (b.y1 = 0))))
def maskBox (b : TBox) : Bool := !b.empty && tin b.x0 (-2000) 2000 && tin b.y0 (-2000) 2000 && tin b.x1 (-2000) 2000 && tin b.y1 (-2000) 2000 && ile (b.x1 - b.x0) 60 && ile (b.y1 - b.y0) 60
def maskOk (m : TMask) : Bool := if m.bits.length = 0 then m.box.isZero else maskBox m.box && decide ((m.bits.length : Int) = (m.box.x1 - m.box.x0) * (m.box.y1 - m.box.y0)) && m.bits.all fun x => tin x 0 15
theorem empty_f {b : TBox} : b.empty = false ↔ b.x0 < b.x1 ∧ b.y0 < b.y1 := by simp [TBox.empty, ile_f]
theorem mb_facts {b : TBox} (h : maskBox b = true) : b.x0 < b.x1 ∧ b.y0 < b.y1 ∧ -2000 ≤ b.x0 ∧ b.x1 ≤ 2000 ∧ -2000 ≤ b.y0 ∧ b.y1 ≤ 2000 ∧ b.x1 - b.x0 ≤ 60 ∧ b.y1 - b.y0 ≤ 60 := by
  simp only [maskBox, Bool.and_eq_true, Bool.not_eq_true', empty_f, tin_t, ile_t] at h
  omega
theorem m_spec_l11Box (b : TBox) : spec_l11Box b = some (maskBox b) := by
  unfold spec_l11Box maskBox
  simp only [m_spec_Empty, m_spec_l01In, bnd_some]
  cases h0 : b.empty <;> simp only [cnd_true, cnd_false, Bool.not_true, Bool.not_false, Bool.false_and, Bool.true_and]
  cases h1 : tin b.x0 (-2000) 2000 <;> simp only [cnd_true, cnd_false, Bool.false_and, Bool.true_and]
  cases h2 : tin b.y0 (-2000) 2000 <;> simp only [cnd_true, cnd_false, Bool.false_and, Bool.true_and]
  cases h3 : tin b.x1 (-2000) 2000 <;> simp only [cnd_true, cnd_false, Bool.false_and, Bool.true_and]
  cases h4 : tin b.y1 (-2000) 2000 <;> simp only [cnd_true, cnd_false, Bool.false_and, Bool.true_and]
  rw [tin_t] at h1 h2 h3 h4
  rw [wr_in (by omega), wr_in (by omega)]
  cases h5 : ile (b.x1 - b.x0) 60 <;> simp
theorem m_impl_isMaskBox (b : TBox) : impl_isMaskBox b = some (maskBox b) := by
  unfold impl_isMaskBox maskBox
  simp only [m_impl_Empty, bnd_some]
  cases h0 : b.empty <;> simp only [cnd_true, cnd_false, Bool.not_true, Bool.not_false, Bool.false_and, Bool.true_and]
  rw [empty_f] at h0
  cases h1 : ile (-2000) b.x0 <;> simp only [cnd_true, cnd_false]
  · rw [ile_f] at h1
    have : tin b.x0 (-2000) 2000 = false := by rw [← Bool.not_eq_true, tin_t]; omega
    simp [this]
  cases h2 : ile (-2000) b.y0 <;> simp only [cnd_true, cnd_false]
  · rw [ile_f] at h2
    have : tin b.y0 (-2000) 2000 = false := by rw [← Bool.not_eq_true, tin_t]; omega
    simp [this]
  cases h3 : ile b.x1 2000 <;> simp only [cnd_true, cnd_false]
  · rw [ile_f] at h3
    have : tin b.x1 (-2000) 2000 = false := by rw [← Bool.not_eq_true, tin_t]; omega
    simp [this]
  cases h4 : ile b.y1 2000 <;> simp only [cnd_true, cnd_false]
  · rw [ile_f] at h4
    have : tin b.y1 (-2000) 2000 = false := by rw [← Bool.not_eq_true, tin_t]; omega
    simp [this]
  rw [ile_t] at h1 h2 h3 h4
  have t1 : tin b.x0 (-2000) 2000 = true := by rw [tin_t]; omega
  have t2 : tin b.y0 (-2000) 2000 = true := by rw [tin_t]; omega
  have t3 : tin b.x1 (-2000) 2000 = true := by rw [tin_t]; omega
  have t4 : tin b.y1 (-2000) 2000 = true := by rw [tin_t]; omega
  rw [wr_in (by omega), wr_in (by omega)]
  cases h5 : ile (b.x1 - b.x0) 60 <;> simp [t1, t2, t3, t4]
theorem mb_prod {b : TBox} (h : maskBox b = true) : 0 < (b.x1 - b.x0) * (b.y1 - b.y0) ∧ (b.x1 - b.x0) * (b.y1 - b.y0) ≤ 3600 := by
  obtain ⟨h1, h2, _, _, _, _, h3, h4⟩ := mb_facts h
  refine ⟨Int.mul_pos (by omega) (by omega), ?_⟩
  calc (b.x1 - b.x0) * (b.y1 - b.y0) ≤ 60 * (b.y1 - b.y0) := Int.mul_le_mul_of_nonneg_right h3 (by omega)
    _ ≤ 60 * 60 := Int.mul_le_mul_of_nonneg_left h4 (by omega)
theorem mb_wrap {b : TBox} (h : maskBox b = true) : IntKind.i64.wrap (IntKind.i64.wrap (b.x1 - b.x0) * IntKind.i64.wrap (b.y1 - b.y0)) = (b.x1 - b.x0) * (b.y1 - b.y0) := by
  have := mb_facts h
  have := mb_prod h
  rw [wr_in (n := b.x1 - b.x0) (by omega), wr_in (n := b.y1 - b.y0) (by omega), wr_in (by omega)]
theorem zero_box {b : TBox} (h : b.isZero = true) : maskBox b = false := by
  simp only [TBox.isZero, Bool.and_eq_true, decide_eq_true_eq] at h
  have : b.empty = true := by rw [← Bool.not_eq_false, empty_f]; omega
  simp [maskBox, this]
theorem m_spec_MaskOk {m : TMask} (h : m.bits.length ≤ 9223372036854775807) : spec_MaskOk m = some (maskOk m) := by
  unfold spec_MaskOk maskOk
  by_cases h0 : m.bits.length = 0
  · rw [if_pos h0, h0]
    simp [ieq, andB, TBox.isZero]
  · rw [if_neg h0, iqf (by omega), cnd_false, m_spec_l11Box, bnd_some]
    cases h1 : maskBox m.box with
    | false => simp
    | true =>
      rw [cnd_true, mb_wrap h1]
      by_cases h2 : (m.bits.length : Int) = (m.box.x1 - m.box.x0) * (m.box.y1 - m.box.y0)
      · rw [h2, iqt, cnd_true, loopI_row (l := m.bits) (fun x => tin x 0 15) h (fun i hi => ?_) ?_]
        · cases m.bits.all (fun x => tin x 0 15) <;> simp
        · rw [spec_MaskOk_l0, ilt (by omega), cnd_true]
        · rw [spec_MaskOk_l0, ilf (by omega), cnd_false, idx_nat hi, bnd_some, m_spec_l01In, bnd_some]
      · rw [iqf h2, cnd_false]; simp [h2]
theorem m_impl_MaskOk {m : TMask} (h : m.bits.length ≤ 9223372036854775807) : impl_MaskOk m = some (maskOk m) := by
  unfold impl_MaskOk maskOk
  have e : andB (decide (m.box.x0 = 0)) (andB (decide (m.box.y0 = 0)) (andB (decide (m.box.x1 = 0)) (andB (decide (m.box.y1 = 0)) true))) = m.box.isZero := by simp [andB, TBox.isZero]
  rw [e]
  cases hz : m.box.isZero with
  | true =>
    rw [cnd_true]
    by_cases h0 : m.bits.length = 0
    · simp [h0, ieq]
    · simp [h0, zero_box hz, ieq]
  | false =>
    rw [cnd_false, m_impl_isMaskBox, bnd_some]
    cases h1 : maskBox m.box with
    | false => rw [cnd_false]; simp
    | true =>
      have := mb_prod h1
      rw [cnd_true, mb_wrap h1]
      by_cases h2 : (m.bits.length : Int) = (m.box.x1 - m.box.x0) * (m.box.y1 - m.box.y0)
      · rw [if_neg (by omega), h2, iqt, cnd_true, loopI_row (l := m.bits) (fun x => tin x 0 15) h (fun i hi => ?_) ?_]
        · cases m.bits.all (fun x => tin x 0 15) <;> simp
        · rw [impl_MaskOk_l0, ilt (by omega), cnd_true]
        · rw [impl_MaskOk_l0, ilf (by omega), cnd_false, idx_nat hi, bnd_some, m_impl_inRange, bnd_some]
      · rw [iqf h2, cnd_false]
        by_cases h0 : m.bits.length = 0
        · simp [h0]
        · simp [h0, h2]


/-! ## The first of a row that is asked for -/
def fst {α : Type} (q : α → Bool) (l : List α) : Int := match l.findIdx? q with | some i => (i : Int) | none => -1
theorem loopI_index {α ρ : Type} {l : List α} {f : Int → Option (Int ⊕ ρ)} (q : α → Bool) (a : ρ) (b : Int → ρ) (hn : l.length ≤ 9223372036854775807)
    (hs : ∀ (i : Nat) (h : i < l.length), f (i : Int) = cnd (q l[i]) (some (.inr (b (i : Int)))) (some (.inl (IntKind.i64.wrap ((i : Int) + 1))))) (he : f (l.length : Int) = some (.inr a)) :
    loopI f 0 = some (match l.findIdx? q with | some i => b (i : Int) | none => a) := by
  have h := loopI_find (f := f) (fun i : Nat => (i : Int)) l.length (fun i => match l[i]? with | some x => q x | none => false) (fun i => b (i : Int)) (r := a) (fun i hi => by
    rw [hs i hi, wr_in (by omega), List.getElem?_eq_getElem hi]
    cases h : q l[i] <;> simp [h]) he
  have e : loopI f 0 = loopI f ((0 : Nat) : Int) := rfl
  rw [e, h]
  have : (List.range l.length).find? (fun i => match l[i]? with | some x => q x | none => false) = l.findIdx? q := by
    cases hq : l.findIdx? q with
    | none =>
      rw [List.findIdx?_eq_none_iff] at hq
      rw [List.find?_eq_none]
      intro i hi
      have hi := List.mem_range.1 hi
      rw [List.getElem?_eq_getElem hi]
      simp [hq _ (List.getElem_mem hi)]
    | some i =>
      rw [List.findIdx?_eq_some_iff_getElem] at hq
      obtain ⟨h1, h2, h3⟩ := hq
      rw [List.find?_range_eq_some]
      refine ⟨by rw [List.getElem?_eq_getElem h1]; exact h2, by simpa using h1, fun j hj => ?_⟩
      have := h3 j hj
      rw [List.getElem?_eq_getElem (by omega)]
      simpa using this
  rw [this]
  cases l.findIdx? q <;> rfl
theorem fst_eq {α : Type} {q : α → Bool} {l : List α} {i : Nat} (hi : i < l.length) (hq : q l[i] = true) : fst q l = (i : Int) ↔ ∀ k (hk : k < i), q l[k] = false := by
  unfold fst
  cases h : l.findIdx? q with
  | none =>
    rw [List.findIdx?_eq_none_iff] at h
    have := h _ (List.getElem_mem hi)
    rw [hq] at this; cases this
  | some j =>
    rw [List.findIdx?_eq_some_iff_getElem] at h
    obtain ⟨h1, h2, h3⟩ := h
    show (j : Int) = (i : Int) ↔ _
    constructor
    · intro e k hk
      have : j = i := by omega
      have := h3 k (by omega)
      simpa using this
    · intro e
      have : ¬ j < i := fun hj => by have := e j hj; rw [h2] at this; cases this
      have : ¬ i < j := fun hj => h3 i hj hq
      show (j : Int) = i
      omega

/-! ## Caches -/
def firstId (l : List TKept) (id : Int) : Int := fst (fun k => ieq k.id id) l
theorem m_keptAt {c : TCache} {id : Int} (h : c.list.length ≤ 9223372036854775807) : impl_Cache_keptAt c id = some (firstId c.list id) := by
  unfold impl_Cache_keptAt slices_IndexFunc_Kept_Cache_keptAt_1
  rw [loopI_index (l := c.list) (fun k => ieq k.id id) (.inl ()) .inr h (fun i hi => ?_) ?_]
  · unfold firstId fst
    cases List.findIdx? (fun k : TKept => ieq k.id id) c.list <;> rfl
  · rw [slices_IndexFunc_Kept_Cache_keptAt_1_l0, ilt (by omega), cnd_true]
  · rw [slices_IndexFunc_Kept_Cache_keptAt_1_l0, ilf (by omega), cnd_false, idx_nat hi, bnd_some, impl_Cache_keptAt_1, bnd_some]
def keptOk (k : TKept) : Bool := tin k.id 1 99 && maskOk k.mask
def keptP (l : List TKept) (i : Nat) : Bool := match l[i]? with
  | some x => keptOk x && decide (firstId l x.id = (i : Int))
  | none => false
def cacheOk (c : TCache) : Bool := tin c.most 1 8 && ile (c.list.length : Int) c.most && (List.range c.list.length).all (keptP c.list)
def okRows (l : List TKept) : Prop := l.length ≤ 9223372036854775807 ∧ ∀ x ∈ l, x.mask.bits.length ≤ 9223372036854775807
theorem m_impl_CacheOk {c : TCache} (h : okRows c.list) : impl_CacheOk c = some (cacheOk c) := by
  unfold impl_CacheOk cacheOk
  rw [loopI_all c.list.length (keptP c.list) h.1 (fun i hi => ?_) ?_]
  · cases (List.range c.list.length).all (keptP c.list) <;> simp
    cases h1 : tin c.most 1 8 <;> simp
  · rw [impl_CacheOk_l0, ilt (by omega), cnd_true]
  · rw [impl_CacheOk_l0, ilf (by omega), cnd_false, idx_nat hi, bnd_some, m_impl_inRange, bnd_some]
    unfold keptP keptOk
    rw [List.getElem?_eq_getElem hi]
    dsimp only
    cases h1 : tin (c.list[i]).id 1 99 <;> simp only [cnd_true, cnd_false, Bool.false_and, Bool.true_and]
    rw [m_keptAt h.1, bnd_some]
    by_cases h2 : firstId c.list (c.list[i]).id = (i : Int)
    · rw [h2, iqt, cnd_true, m_impl_MaskOk (h.2 _ (List.getElem_mem hi)), bnd_some]; simp
    · rw [iqf h2, cnd_false]; simp [h2]
theorem kept_l0 {c : TCache} {i : Nat} (hi : i < c.list.length) (hn : c.list.length ≤ 9223372036854775807) :
    loopI (spec_CacheOk_l0 c (i : Int)) 0 = some (if decide (firstId c.list (c.list[i]).id = (i : Int)) then .inl () else .inr ()) := by
  have key := loopI_all (f := spec_CacheOk_l0 c (i : Int)) i (fun k => match c.list[k]? with | some y => !(ieq y.id (c.list[i]).id) | none => true) (by omega) (fun k hk => by
      rw [spec_CacheOk_l0, ilf (by omega), cnd_false, idx_nat (by omega), bnd_some, idx_nat hi, bnd_some, List.getElem?_eq_getElem (by omega)]
      dsimp only
      cases ieq (c.list[k]).id (c.list[i]).id <;> rfl) (by rw [spec_CacheOk_l0, ilt (by omega), cnd_true])
  have e : ((List.range i).all fun k => match c.list[k]? with | some y => !(ieq y.id (c.list[i]).id) | none => true) = decide (firstId c.list (c.list[i]).id = (i : Int)) := ?_
  · rw [key, e]
  rw [Bool.eq_iff_iff, List.all_eq_true, decide_eq_true_eq]
  unfold firstId
  rw [fst_eq hi (by simp [ieq])]
  constructor
  · intro h k hk
    have := h k (List.mem_range.2 hk)
    rw [List.getElem?_eq_getElem (by omega)] at this
    simpa using this
  · intro h k hk
    have hk := List.mem_range.1 hk
    rw [List.getElem?_eq_getElem (by omega)]
    simpa using h k hk
theorem m_spec_CacheOk {c : TCache} (h : okRows c.list) : spec_CacheOk c = some (cacheOk c) := by
  unfold spec_CacheOk cacheOk
  rw [m_spec_l01In, bnd_some]
  cases h1 : tin c.most 1 8 <;> simp only [cnd_true, cnd_false, Bool.false_and, Bool.true_and]
  cases h2 : ile (c.list.length : Int) c.most <;> simp only [cnd_true, cnd_false, Bool.false_and, Bool.true_and]
  rw [loopI_all c.list.length (keptP c.list) h.1 (fun i hi => ?_) ?_]
  · cases (List.range c.list.length).all (keptP c.list) <;> simp
  · rw [spec_CacheOk_l1, ilt (by omega), cnd_true]
  · rw [spec_CacheOk_l1, ilf (by omega), cnd_false, idx_nat hi, bnd_some, m_spec_l01In, bnd_some]
    unfold keptP keptOk
    rw [List.getElem?_eq_getElem hi]
    dsimp only
    cases h1 : tin (c.list[i]).id 1 99 <;> simp only [cnd_true, cnd_false, Bool.false_and, Bool.true_and]
    rw [m_spec_MaskOk (h.2 _ (List.getElem_mem hi)), bnd_some]
    cases h3 : maskOk (c.list[i]).mask <;> simp only [cnd_true, cnd_false, Bool.false_and, Bool.true_and]
    rw [kept_l0 hi h.1]
    cases decide (firstId c.list (c.list[i]).id = (i : Int)) <;> rfl
theorem rows_gd {c : TCache} (h : gd_Cache c) : okRows c.list := by
  refine ⟨by have := h.1; omega, fun x hx => ?_⟩
  have h1 : gd_Kept x := h.2 x hx
  have h2 : gd_Mask x.mask := h1
  have h3 : gdL tt x.mask.bits := h2
  have := h3.1; omega
/-! ## Surfaces -/
def laidOk (c : TColor) : Bool := tin c.r 0 255 && tin c.g 0 255 && tin c.b 0 255 && tin c.a 0 255 && ile c.r c.a && ile c.g c.a && ile c.b c.a
def surfaceOk (s : TSurface) : Bool := tin s.w 1 12 && tin s.h 1 12 && decide ((s.pix.length : Int) = s.w * s.h) && s.pix.all laidOk
theorem m_spec_ColorOk (c : TColor) : spec_ColorOk c = some (tin c.r 0 255 && tin c.g 0 255 && tin c.b 0 255 && tin c.a 0 255) := by
  unfold spec_ColorOk
  simp only [m_spec_l01In, bnd_some]
  cases tin c.r 0 255 <;> cases tin c.g 0 255 <;> cases tin c.b 0 255 <;> simp
theorem m_impl_isByte (x : Int) : impl_isByte x = some (tin x 0 255) := by unfold impl_isByte; simp only [m_impl_inRange, bnd_some]
theorem m_impl_ColorOk (c : TColor) : impl_ColorOk c = some (tin c.r 0 255 && tin c.g 0 255 && tin c.b 0 255 && tin c.a 0 255) := by
  unfold impl_ColorOk
  simp only [m_impl_isByte, bnd_some]
  cases tin c.r 0 255 <;> cases tin c.g 0 255 <;> cases tin c.b 0 255 <;> simp
theorem m_spec_LaidOk (c : TColor) : spec_LaidOk c = some (laidOk c) := by
  unfold spec_LaidOk laidOk
  rw [m_spec_ColorOk, bnd_some]
  cases (tin c.r 0 255 && tin c.g 0 255 && tin c.b 0 255 && tin c.a 0 255) <;> simp
  cases ile c.r c.a <;> cases ile c.g c.a <;> simp
theorem m_impl_LaidOk (c : TColor) : impl_LaidOk c = some (laidOk c) := by
  unfold impl_LaidOk laidOk
  rw [m_impl_ColorOk, bnd_some]
  cases (tin c.r 0 255 && tin c.g 0 255 && tin c.b 0 255 && tin c.a 0 255) <;> simp
  cases ile c.r c.a <;> cases ile c.g c.a <;> simp
theorem wh_bd {w h : Int} (hw : tin w 1 12 = true) (hh : tin h 1 12 = true) : 1 ≤ w * h ∧ w * h ≤ 144 := by
  rw [tin_t] at hw hh
  refine ⟨?_, ?_⟩
  · calc (1 : Int) = 1 * 1 := rfl
      _ ≤ w * 1 := Int.mul_le_mul_of_nonneg_right hw.1 (by omega)
      _ ≤ w * h := Int.mul_le_mul_of_nonneg_left hh.1 (by omega)
  · calc w * h ≤ 12 * h := Int.mul_le_mul_of_nonneg_right hw.2 (by omega)
      _ ≤ 12 * 12 := Int.mul_le_mul_of_nonneg_left hh.2 (by omega)
theorem m_spec_SurfaceOk {s : TSurface} (h : s.pix.length ≤ 9223372036854775807) : spec_SurfaceOk s = some (surfaceOk s) := by
  unfold spec_SurfaceOk surfaceOk
  simp only [m_spec_l01In, bnd_some]
  cases h1 : tin s.w 1 12 <;> simp only [cnd_true, cnd_false, Bool.false_and, Bool.true_and]
  cases h2 : tin s.h 1 12 <;> simp only [cnd_true, cnd_false, Bool.false_and, Bool.true_and]
  have := wh_bd h1 h2
  rw [wr_in (by omega)]
  by_cases h3 : (s.pix.length : Int) = s.w * s.h
  · have key := loopI_row (l := s.pix) (f := spec_SurfaceOk_l0 s) laidOk h (fun i hi => by rw [spec_SurfaceOk_l0, ilf (by omega), cnd_false, idx_nat hi, bnd_some, m_spec_LaidOk, bnd_some]) (by rw [spec_SurfaceOk_l0, ilt (by omega), cnd_true])
    rw [key, h3, iqt, cnd_true]
    cases s.pix.all laidOk <;> simp
  · rw [iqf h3, cnd_false]; simp [h3]
theorem m_impl_SurfaceOk {s : TSurface} (h : s.pix.length ≤ 9223372036854775807) : impl_SurfaceOk s = some (surfaceOk s) := by
  unfold impl_SurfaceOk surfaceOk
  simp only [m_impl_isSide, bnd_some]
  cases h1 : tin s.w 1 12 <;> simp only [cnd_true, cnd_false, Bool.false_and, Bool.true_and]
  cases h2 : tin s.h 1 12 <;> simp only [cnd_true, cnd_false, Bool.false_and, Bool.true_and]
  have := wh_bd h1 h2
  rw [wr_in (by omega)]
  by_cases h3 : (s.pix.length : Int) = s.w * s.h
  · have key := loopI_row (l := s.pix) (f := impl_SurfaceOk_l0 s) laidOk h (fun i hi => by rw [impl_SurfaceOk_l0, ilf (by omega), cnd_false, idx_nat hi, bnd_some, m_impl_LaidOk, bnd_some]) (by rw [impl_SurfaceOk_l0, ilt (by omega), cnd_true])
    rw [key, h3, iqt, cnd_true]
    cases s.pix.all laidOk <;> simp
  · rw [iqf h3, cnd_false]; simp [h3]
/-! ## Loops from a number to another one -/
/-! ## Sparing -/
/-! ## Marks -/
/-! ## TilesOf -/
/-! ## Painting a part of a surface -/
section
variable {α : Type}
end

/-! ## Colours: the program's words are the reference's -/
/-! ## LayOver -/
/-! ## Paints -/
instance decCol : DecidableEq TColor := fun a b => decidable_of_iff (a.r = b.r ∧ a.g = b.g ∧ a.b = b.b ∧ a.a = b.a) (by cases a; cases b; simp)
instance decPt : DecidableEq TPoint := fun a b => decidable_of_iff (a.x = b.x ∧ a.y = b.y) (by cases a; cases b; simp)
theorem s_PointOk (p : TPoint) : impl_PointOk p = spec_PointOk p := by
  unfold impl_PointOk spec_PointOk impl_isFar
  rw [m_impl_inRange, m_spec_l01In, m_impl_inRange, m_spec_l01In]; rfl
theorem t_PointOk (p : TPoint) : spec_PointOk p = some (tin p.x (-8388608) 8388608 && tin p.y (-8388608) 8388608) := by
  unfold spec_PointOk
  rw [m_spec_l01In, bnd_some, m_spec_l01In]
  cases tin p.x (-8388608) 8388608 <;> simp
def pointOk (p : TPoint) : Bool := tin p.x (-8388608) 8388608 && tin p.y (-8388608) 8388608
def colOk (c : TColor) : Bool := tin c.r 0 255 && tin c.g 0 255 && tin c.b 0 255 && tin c.a 0 255
def paintOk (p : TPaint) : Bool := colOk p.first && if p.kind = 1 then decide (p.last = ⟨0, 0, 0, 0⟩) && decide (p.from_ = ⟨0, 0⟩) && decide (p.to = ⟨0, 0⟩)
  else decide (p.kind = 2) && colOk p.last && pointOk p.from_ && pointOk p.to && !decide (p.from_ = p.to)
theorem col_eq {c d : TColor} : andB (decide (c.r = d.r)) (andB (decide (c.g = d.g)) (andB (decide (c.b = d.b)) (andB (decide (c.a = d.a)) true))) = decide (c = d) := by
  cases c; cases d; simp [andB, Bool.decide_and]
theorem pt_eq {c d : TPoint} : andB (decide (c.x = d.x)) (andB (decide (c.y = d.y)) true) = decide (c = d) := by
  cases c; cases d; simp [andB, Bool.decide_and]
theorem m_spec_PaintOk (p : TPaint) : spec_PaintOk p = some (paintOk p) := by
  unfold spec_PaintOk paintOk
  rw [m_spec_ColorOk, bnd_some]
  have e1 := col_eq (c := p.last) (d := ⟨0, 0, 0, 0⟩)
  have e2 := pt_eq (c := p.from_) (d := ⟨0, 0⟩)
  have e3 := pt_eq (c := p.to) (d := ⟨0, 0⟩)
  have e4 := pt_eq (c := p.from_) (d := p.to)
  dsimp only at e1 e2 e3
  rw [e1, e2, e3, e4, m_spec_ColorOk, t_PointOk, t_PointOk]
  show cnd (colOk p.first) _ _ = _
  cases colOk p.first
  · rfl
  rw [cnd_true, Bool.true_and]
  by_cases h1 : p.kind = 1
  · rw [h1, iqt, cnd_true, if_pos rfl]
    cases decide (p.last = ⟨0, 0, 0, 0⟩) <;> simp only [cnd_true, cnd_false, Bool.false_and, Bool.true_and]
    cases decide (p.from_ = ⟨0, 0⟩) <;> simp
  · rw [iqf h1, cnd_false, if_neg h1]
    by_cases h2 : p.kind = 2
    · rw [h2, iqt, cnd_true]
      simp only [bnd_some, decide_true, Bool.true_and]
      show cnd (colOk p.last) _ _ = _
      cases colOk p.last <;> simp only [cnd_true, cnd_false, Bool.false_and, Bool.true_and]
      show cnd (pointOk p.from_) _ _ = _
      cases pointOk p.from_ <;> simp only [cnd_true, cnd_false, Bool.false_and, Bool.true_and]
      show cnd (pointOk p.to) _ _ = _
      cases pointOk p.to <;> simp
    · rw [iqf h2, cnd_false]; simp [h2]
theorem m_impl_PaintOk (p : TPaint) : impl_PaintOk p = some (paintOk p) := by
  unfold impl_PaintOk paintOk
  have e1 := col_eq (c := p.last) (d := ⟨0, 0, 0, 0⟩)
  have e2 := pt_eq (c := p.from_) (d := ⟨0, 0⟩)
  have e3 := pt_eq (c := p.to) (d := ⟨0, 0⟩)
  have e4 := pt_eq (c := p.from_) (d := p.to)
  dsimp only at e1 e2 e3
  by_cases h1 : p.kind = 1
  · rw [h1, iqt, cnd_true, m_impl_ColorOk, bnd_some, if_pos rfl]
    show cnd (colOk p.first) _ _ = _
    cases colOk p.first
    · rfl
    rw [cnd_true, Bool.true_and]
    congr 1
    rw [← e1, ← e2, ← e3]
    simp only [andB, decide_true, Bool.true_and, Bool.and_true, Bool.and_assoc]
  · rw [iqf h1, cnd_false, if_neg h1]
    by_cases h2 : p.kind = 2
    · rw [h2, iqt, cnd_true, e4, m_impl_ColorOk, m_impl_ColorOk, s_PointOk, s_PointOk, t_PointOk, t_PointOk]
      simp only [bnd_some, decide_true, Bool.true_and]
      show cnd (colOk p.first) _ _ = _
      cases colOk p.first <;> simp only [cnd_true, cnd_false, Bool.false_and, Bool.true_and]
      show cnd (colOk p.last) _ _ = _
      cases colOk p.last <;> simp only [cnd_true, cnd_false, Bool.false_and, Bool.true_and]
      show cnd (pointOk p.from_) _ _ = _
      cases pointOk p.from_ <;> simp only [cnd_true, cnd_false, Bool.false_and, Bool.true_and]
      show cnd (pointOk p.to) _ _ = _
      cases pointOk p.to <;> simp
    · rw [iqf h2, cnd_false]; simp [h2]
/-! ## PaintMask -/
/-! ## What blending yields -/
/-! ## Draws: each is told -/
theorem loopI_tot {σ ρ : Type} {f : σ → Option (σ ⊕ ρ)} (I : σ → Prop) (Q : ρ → Prop) (rk : σ → Nat) (hs : ∀ x, I x → (∃ y, f x = some (.inl y) ∧ I y ∧ rk y < rk x) ∨ (∃ r, f x = some (.inr r) ∧ Q r)) {x : σ} (hx : I x) : ∃ r, loopI f x = some r ∧ Q r := by
  have key : ∀ (n : Nat) (x : σ), rk x < n → I x → ∃ r, loopI f x = some r ∧ Q r := by
    intro n
    induction n with
    | zero => intro x h; omega
    | succ n ih =>
      intro x h hI
      rcases hs x hI with ⟨y, h1, h2, h3⟩ | ⟨r, h1, h2⟩
      · rw [loopI_go h1]; exact ih y (by omega) h2
      · exact ⟨r, loopI_end h1, h2⟩
  exact key (rk x + 1) x (by omega) hx
def need (v : Int) : Int := if v = 1 then 1 else if v = 2 then 1 else if v = 3 then 2 else if v = 4 then 3 else if v = 5 then 0 else -1
theorem m_NeedOf (v : Int) : spec_NeedOf v = some (need v) := by
  unfold spec_NeedOf
  rw [m_spec_l01In, bnd_some]
  cases h : tin v 1 5 with
  | false =>
    have h' : ¬ (1 ≤ v ∧ v ≤ 5) := by rw [← tin_t, h]; simp
    rw [cnd_false]; unfold need
    rw [if_neg (by omega), if_neg (by omega), if_neg (by omega), if_neg (by omega), if_neg (by omega)]
  | true =>
    rw [tin_t] at h
    have : v = 1 ∨ v = 2 ∨ v = 3 ∨ v = 4 ∨ v = 5 := by omega
    rcases this with rfl | rfl | rfl | rfl | rfl <;> decide
theorem need_bd (v : Int) : -1 ≤ need v ∧ need v ≤ 3 := by unfold need; repeat' split <;> omega
/-! ## Lines and masks of drawn paths: each is told -/
def nsum (vs : List Int) (i : Nat) : Int := ((vs.take i).map need).sum
theorem nsum_succ {vs : List Int} {i : Nat} (h : i < vs.length) : nsum vs (i + 1) = nsum vs i + need vs[i] := by
  unfold nsum
  rw [List.take_add_one, List.getElem?_eq_getElem h, List.map_append, List.sum_append]
  simp
structure VOk (vs : List Int) (n : Int) : Prop where
  all : ∀ i (h : i < vs.length), 0 ≤ need vs[i]
  one : ∀ h : 0 < vs.length, vs[0] = 1
  sum : nsum vs vs.length = n
theorem nsum_bd {vs : List Int} : ∀ i, i ≤ vs.length → (∀ j (h : j < vs.length), j < i → 0 ≤ need vs[j]) → 0 ≤ nsum vs i ∧ nsum vs i ≤ 3 * (i : Int) := by
  intro i
  induction i with
  | zero => intro _ _; simp [nsum]
  | succ i ih =>
    intro hi h
    have h1 := ih (by omega) (fun j hj hji => h j hj (by omega))
    have h2 := h i (by omega) (by omega)
    have h3 := need_bd vs[i]
    rw [nsum_succ (by omega)]
    omega
theorem pathOk_t (p : TPath) : ∃ b, spec_PathOk p = some b ∧ (b = true → p.verbs.length ≤ 24 ∧ p.points.length ≤ 24 ∧ VOk p.verbs (p.points.length : Int)) := by
  unfold spec_PathOk
  by_cases h1 : (p.points.length : Int) ≤ 24
  case neg => rw [ilf (by omega), cnd_false]; exact ⟨false, rfl, fun h => by cases h⟩
  by_cases h2 : (p.verbs.length : Int) ≤ 24
  case neg => rw [ilt h1, cnd_true, ilf (by omega), cnd_false]; exact ⟨false, rfl, fun h => by cases h⟩
  rw [ilt h1, ilt h2, cnd_true, cnd_true]
  obtain ⟨r, e1, e2⟩ := loopI_tot (f := spec_PathOk_l0 p) (fun s => ∃ i : Nat, s.2 = (i : Int) ∧ i ≤ p.verbs.length ∧ s.1 = nsum p.verbs i ∧ (∀ j (h : j < p.verbs.length), j < i → 0 ≤ need p.verbs[j]) ∧ (∀ h : 0 < p.verbs.length, 0 < i → p.verbs[0] = 1))
    (fun r => match r with | .inl y => y = nsum p.verbs p.verbs.length ∧ (∀ j (h : j < p.verbs.length), 0 ≤ need p.verbs[j]) ∧ (∀ h : 0 < p.verbs.length, p.verbs[0] = 1) | .inr _ => True) (fun s => (p.verbs.length - s.2).toNat)
    (by
      rintro ⟨x, y⟩ ⟨i, hy, hi, hx, ha, ho⟩
      dsimp only at hy hx
      subst hy; subst hx
      have hb := nsum_bd i hi ha
      rw [spec_PathOk_l0]
      by_cases hlt : i < p.verbs.length
      case neg =>
        right
        rw [ilt (by omega), cnd_true]
        have : i = p.verbs.length := by omega
        subst this
        exact ⟨_, rfl, rfl, fun j h => ha j h h, fun h => ho h h⟩
      have nb := need_bd p.verbs[i]
      rw [ilf (by omega), cnd_false, idx_nat hlt, bnd_some, m_NeedOf, bnd_some]
      by_cases hn : 0 ≤ need p.verbs[i]
      case neg => right; rw [ilf (by omega), cnd_false]; exact ⟨_, rfl, trivial⟩
      rw [ilt hn, cnd_true, wr_in (n := nsum p.verbs i + need p.verbs[i]) (by omega), wr_in (n := (i : Int) + 1) (by omega)]
      have step : ∀ ho' : (∀ h : 0 < p.verbs.length, p.verbs[0] = 1), ∃ k : Nat, (nsum p.verbs i + need p.verbs[i], (i : Int) + 1).2 = (k : Int) ∧ k ≤ p.verbs.length ∧ (nsum p.verbs i + need p.verbs[i], (i : Int) + 1).1 = nsum p.verbs k ∧ (∀ j (h : j < p.verbs.length), j < k → 0 ≤ need p.verbs[j]) ∧ (∀ h : 0 < p.verbs.length, 0 < k → p.verbs[0] = 1) := by
        intro ho'
        refine ⟨i + 1, by simp, by omega, (nsum_succ hlt).symm, fun j h hj => ?_, fun h _ => ho' h⟩
        by_cases hji : j = i
        · subst hji; exact hn
        · exact ha j h (by omega)
      by_cases h0 : i = 0
      · subst h0
        have z : ((0 : Nat) : Int) = 0 := rfl
        rw [z, iqt, cnd_true]
        by_cases hv : p.verbs[0] = 1
        · left
          rw [hv, iqt, cnd_true]
          rw [hv] at step
          exact ⟨_, rfl, step (fun _ => hv), by (try dsimp only) <;> omega⟩
        · right; rw [iqf hv, cnd_false]; exact ⟨_, rfl, trivial⟩
      · rw [iqf (by omega), cnd_false, wr_in (n := (i : Int) - 1) (by omega)]
        obtain ⟨q, hq, _⟩ := idx_of (l := p.verbs) (i := (i : Int) - 1) (by omega) (by omega)
        have ho' : ∀ h : 0 < p.verbs.length, p.verbs[0] = 1 := fun h => ho h (by omega)
        rw [hq, bnd_some]
        by_cases h5 : q = 5
        · rw [h5, iqt, cnd_true]
          by_cases hv : p.verbs[i] = 1
          · left
            rw [hv, iqt, cnd_true]
            rw [hv] at step
            exact ⟨_, rfl, step ho', by (try dsimp only) <;> omega⟩
          · right; rw [iqf hv, cnd_false]; exact ⟨_, rfl, trivial⟩
        · left
          rw [iqf h5, cnd_false]
          exact ⟨_, rfl, step ho', by (try dsimp only) <;> omega⟩)
    (x := (0, 0)) ⟨0, rfl, by omega, by simp [nsum], fun j _ h => by omega, fun _ h => by omega⟩
  rw [e1, bnd_some]
  rcases r with y | u
  · have key := loopI_row (l := p.points) (f := spec_PathOk_l1 p y) (fun q => tin q.x (-8388608) 8388608 && tin q.y (-8388608) 8388608) (by omega) (fun i hi => by rw [spec_PathOk_l1, ilf (by omega), cnd_false, idx_nat hi, bnd_some, t_PointOk, bnd_some]) (by rw [spec_PathOk_l1, ilt (by omega), cnd_true])
    try dsimp only
    rw [key, bnd_some]
    cases p.points.all (fun q => tin q.x (-8388608) 8388608 && tin q.y (-8388608) 8388608)
    · exact ⟨false, rfl, fun h => by cases h⟩
    · refine ⟨ieq y (p.points.length : Int), rfl, fun h => ⟨by omega, by omega, e2.2.1, e2.2.2, ?_⟩⟩
      have : y = (p.points.length : Int) := by simpa [ieq] using h
      rw [← e2.1]; exact this
  · exact ⟨false, rfl, fun h => by cases h⟩
/-! ## Masks of lines -/
/-! ## FnLayers -/
/-! ## FnPaintsOn -/
/-! ## Scenes: the program's word is the reference's -/
theorem loopI_congr {σ ρ : Type} {f g : σ → Option (σ ⊕ ρ)} (I : σ → Prop) (h : ∀ x, I x → f x = g x) (hi : ∀ x y, I x → f x = some (.inl y) → I y) {x : σ} (hx : I x) : loopI f x = loopI g x := by
  have key : ∀ (k : Nat) (x : σ), I x → loopN' f k x = loopN' g k x := by
    intro k
    induction k with
    | zero => intro x _; rfl
    | succ k ih =>
      intro x hI
      rw [loopN', loopN', ← h x hI]
      cases hf : f x with
      | none => rfl
      | some o => cases o with
        | inl y => exact ih y (hi x y hI hf)
        | inr r => rfl
  refine opt_ext fun r => ?_
  rw [loopI_iff, loopI_iff]
  constructor
  · rintro ⟨k, hk⟩; exact ⟨k, by rw [← key k x hx]; exact hk⟩
  · rintro ⟨k, hk⟩; exact ⟨k, by rw [key k x hx]; exact hk⟩
def matOk (m : TMat) : Bool := tin m.a (-1048576) 1048576 && tin m.b (-1048576) 1048576 && tin m.c (-1048576) 1048576 && tin m.d (-1048576) 1048576 && tin m.e (-8388608) 8388608 && tin m.f (-8388608) 8388608
theorem m_spec_MatOk (m : TMat) : spec_MatOk m = some (matOk m) := by
  unfold spec_MatOk matOk
  have e : IntKind.i64.wrap (0 - 1048576) = -1048576 := by decide
  rw [e]
  simp only [m_spec_l01In, bnd_some]
  cases tin m.a (-1048576) 1048576 <;> cases tin m.b (-1048576) 1048576 <;> cases tin m.c (-1048576) 1048576 <;> cases tin m.d (-1048576) 1048576 <;> cases tin m.e (-8388608) 8388608 <;> simp
theorem m_impl_MatOk (m : TMat) : impl_MatOk m = some (matOk m) := by
  unfold impl_MatOk matOk
  have key := loopI_row (l := [m.a, m.b, m.c, m.d]) (f := impl_MatOk_l0 m) (fun x => tin x (-1048576) 1048576) (by simp) (fun i hi => by
    have hi' : i < 4 := hi
    rw [impl_MatOk_l0, ilf (by omega), cnd_false, idx_nat hi, bnd_some, m_impl_inRange, bnd_some]) (by rw [impl_MatOk_l0, ilt (by simp), cnd_true])
  rw [key]
  unfold impl_isFar
  simp only [m_impl_inRange, bnd_some, List.all_cons, List.all_nil, Bool.and_true]
  cases tin m.a (-1048576) 1048576 <;> cases tin m.b (-1048576) 1048576 <;> cases tin m.c (-1048576) 1048576 <;> cases tin m.d (-1048576) 1048576 <;> cases tin m.e (-8388608) 8388608 <;> simp
theorem m_impl_NeedOf (v : Int) : impl_NeedOf v = some (need v) := by
  unfold impl_NeedOf need
  by_cases h1 : v = 1
  · subst h1; simp [ieq]
  by_cases h2 : v = 2
  · subst h2; simp [ieq]
  by_cases h3 : v = 3
  · subst h3; simp [ieq]
  by_cases h4 : v = 4
  · subst h4; simp [ieq]
  by_cases h5 : v = 5
  · subst h5; simp [ieq]
  simp [ieq, h1, h2, h3, h4, h5]
theorem pathL0_eq (p : TPath) (hl : p.verbs.length ≤ 24) : loopI (impl_PathOk_l0 p) (0, 0) = loopI (spec_PathOk_l0 p) (0, 0) := by
  refine loopI_congr (fun s => ∃ i : Nat, s.2 = (i : Int) ∧ i ≤ p.verbs.length) ?_ ?_ ⟨0, rfl, by omega⟩
  · rintro ⟨x, y⟩ ⟨i, hy, hi⟩
    dsimp only at hy
    subst hy
    rw [impl_PathOk_l0, spec_PathOk_l0]
    by_cases hlt : i < p.verbs.length
    case neg => rw [ilt (by omega), cnd_true, cnd_true]
    rw [ilf (by omega), cnd_false, cnd_false, idx_nat hlt, bnd_some, bnd_some, m_impl_NeedOf, m_NeedOf, bnd_some, bnd_some]
    by_cases h0 : i = 0
    · subst h0
      have z : ((0 : Nat) : Int) = 0 := rfl
      rw [z, iqt, cnd_true, cnd_true]
    · rw [iqf (by omega), cnd_false, cnd_false, wr_in (n := (i : Int) - 1) (by omega)]
      obtain ⟨q, hq, _⟩ := idx_of (l := p.verbs) (i := (i : Int) - 1) (by omega) (by omega)
      rw [hq, bnd_some, bnd_some]
  · rintro ⟨x, y⟩ ⟨x', y'⟩ ⟨i, hy, hi⟩ hf
    dsimp only at hy
    subst hy
    rw [impl_PathOk_l0] at hf
    by_cases hlt : i < p.verbs.length
    case neg => rw [ilt (by omega), cnd_true] at hf; cases hf
    refine ⟨i + 1, ?_, by omega⟩
    rw [ilf (by omega), cnd_false, idx_nat hlt, bnd_some, m_impl_NeedOf, bnd_some, wr_in (n := (i : Int) + 1) (by omega)] at hf
    have fin : ∀ {z : Int}, (some (.inl (z, (i : Int) + 1)) : Option ((Int × Int) ⊕ (Int ⊕ Unit))) = some (.inl (x', y')) → y' = ((i + 1 : Nat) : Int) := by
      intro z h; simp only [Option.some.injEq, Sum.inl.injEq, Prod.mk.injEq] at h; omega
    by_cases h0 : i = 0
    · subst h0
      have z : ((0 : Nat) : Int) = 0 := rfl
      rw [z, iqt, cnd_true] at hf
      cases h1 : ile 0 (need p.verbs[0]) <;> rw [h1] at hf
      · cases hf
      · rw [cnd_true] at hf
        cases h2 : ieq p.verbs[0] 1 <;> rw [h2] at hf
        · cases hf
        · exact fin hf
    · rw [iqf (by omega), cnd_false, wr_in (n := (i : Int) - 1) (by omega)] at hf
      obtain ⟨q, hq, _⟩ := idx_of (l := p.verbs) (i := (i : Int) - 1) (by omega) (by omega)
      rw [hq, bnd_some] at hf
      cases h1 : ile 0 (need p.verbs[i]) <;> rw [h1] at hf
      · cases hf
      · rw [cnd_true] at hf
        cases h3 : ieq q 5 <;> rw [h3] at hf
        · exact fin hf
        · rw [cnd_true] at hf
          cases h2 : ieq p.verbs[i] 1 <;> rw [h2] at hf
          · cases hf
          · exact fin hf
theorem pathL0_t (p : TPath) (hl : p.verbs.length ≤ 24) : ∃ r, loopI (spec_PathOk_l0 p) (0, 0) = some r := by
  obtain ⟨r, e, _⟩ := loopI_tot (f := spec_PathOk_l0 p) (fun s => ∃ i : Nat, s.2 = (i : Int) ∧ i ≤ p.verbs.length) (fun _ => True) (fun s => ((p.verbs.length : Int) - s.2).toNat)
    (by
      rintro ⟨x, y⟩ ⟨i, hy, hi⟩
      dsimp only at hy
      subst hy
      rw [spec_PathOk_l0]
      by_cases hlt : i < p.verbs.length
      case neg => right; rw [ilt (by omega), cnd_true]; exact ⟨_, rfl, trivial⟩
      rw [ilf (by omega), cnd_false, idx_nat hlt, bnd_some, m_NeedOf, bnd_some, wr_in (n := (i : Int) + 1) (by omega)]
      have fin : ∀ z : Int, ∃ y : Int × Int, (some (.inl (z, (i : Int) + 1)) : Option ((Int × Int) ⊕ (Int ⊕ Unit))) = some (.inl y) ∧ (∃ k : Nat, y.2 = (k : Int) ∧ k ≤ p.verbs.length) ∧ ((p.verbs.length : Int) - y.2).toNat < ((p.verbs.length : Int) - (x, (i : Int)).2).toNat := by
        intro z
        exact ⟨_, rfl, ⟨i + 1, by simp, by omega⟩, by (try dsimp only) <;> omega⟩
      cases ile 0 (need p.verbs[i])
      · right; exact ⟨_, rfl, trivial⟩
      rw [cnd_true]
      by_cases h0 : i = 0
      · subst h0
        have z : ((0 : Nat) : Int) = 0 := rfl
        rw [z, iqt, cnd_true]
        cases ieq p.verbs[0] 1
        · right; exact ⟨_, rfl, trivial⟩
        · left; exact fin _
      · rw [iqf (by omega), cnd_false, wr_in (n := (i : Int) - 1) (by omega)]
        obtain ⟨q, hq, _⟩ := idx_of (l := p.verbs) (i := (i : Int) - 1) (by omega) (by omega)
        rw [hq, bnd_some]
        cases ieq q 5
        · left; exact fin _
        · rw [cnd_true]
          cases ieq p.verbs[i] 1
          · right; exact ⟨_, rfl, trivial⟩
          · left; exact fin _)
    (x := (0, 0)) ⟨0, rfl, by omega⟩
  exact ⟨r, e⟩
theorem s_PathOk (p : TPath) : impl_PathOk p = spec_PathOk p ∧ ∃ b, spec_PathOk p = some b := by
  obtain ⟨b, e, _⟩ := pathOk_t p
  refine ⟨?_, b, e⟩
  unfold impl_PathOk spec_PathOk
  by_cases h1 : (p.points.length : Int) ≤ 24
  case neg => rw [ilf (by omega), cnd_false, cnd_false]
  by_cases h2 : (p.verbs.length : Int) ≤ 24
  case neg => rw [ilt h1, cnd_true, cnd_true, ilf (by omega), cnd_false, cnd_false]
  rw [ilt h1, ilt h2]
  simp only [cnd_true]
  obtain ⟨r, er⟩ := pathL0_t p (by omega)
  rw [pathL0_eq p (by omega), er]
  have k1 := loopI_row (l := p.points) (f := impl_pointsOk_l0 p.points) (fun q => tin q.x (-8388608) 8388608 && tin q.y (-8388608) 8388608) (by omega) (fun i hi => by rw [impl_pointsOk_l0, ilf (by omega), cnd_false, idx_nat hi, bnd_some, s_PointOk, t_PointOk, bnd_some]) (by rw [impl_pointsOk_l0, ilt (by omega), cnd_true])
  unfold impl_pointsOk
  rw [k1]
  simp only [bnd_some]
  rcases r with y | u
  · have k2 := loopI_row (l := p.points) (f := spec_PathOk_l1 p y) (fun q => tin q.x (-8388608) 8388608 && tin q.y (-8388608) 8388608) (by omega) (fun i hi => by rw [spec_PathOk_l1, ilf (by omega), cnd_false, idx_nat hi, bnd_some, t_PointOk, bnd_some]) (by rw [spec_PathOk_l1, ilt (by omega), cnd_true])
    simp only
    rw [k2]
    cases p.points.all (fun q => tin q.x (-8388608) 8388608 && tin q.y (-8388608) 8388608) <;> rfl
  · simp only
    cases p.points.all (fun q => tin q.x (-8388608) 8388608 && tin q.y (-8388608) 8388608) <;> rfl
theorem s_DashOk {l : List Int} (hl : l.length ≤ 1048576) : impl_DashOk l = spec_DashOk l ∧ ∃ b, spec_DashOk l = some b := by
  have k1 := loopI_row (l := l) (f := impl_DashOk_l0 l) (fun x => tin x 1 20000) (by omega) (fun i hi => by rw [impl_DashOk_l0, ilf (by omega), cnd_false, idx_nat hi, bnd_some, m_impl_inRange, bnd_some]) (by rw [impl_DashOk_l0, ilt (by omega), cnd_true])
  have k2 := loopI_row (l := l) (f := spec_DashOk_l0 l) (fun x => tin x 1 20000) (by omega) (fun i hi => by rw [spec_DashOk_l0, ilf (by omega), cnd_false, idx_nat hi, bnd_some, m_spec_l01In, bnd_some]) (by rw [spec_DashOk_l0, ilt (by omega), cnd_true])
  unfold impl_DashOk spec_DashOk
  rw [k1, k2]
  cases l.all (fun x => tin x 1 20000)
  · (first | exact ⟨rfl, _, rfl⟩ | exact ⟨trivial, _, rfl⟩)
  · simp only [if_true, bnd_some]
    cases ieq ((l.length : Int).tmod 2) 0 <;> (first | exact ⟨rfl, _, rfl⟩ | exact ⟨trivial, _, rfl⟩)
theorem s_NodeOk {x : TNode} (hl : x.dashes.length ≤ 1048576) : impl_NodeOk x = spec_NodeOk x ∧ ∃ b, spec_NodeOk x = some b := by
  obtain ⟨d1, db, d2⟩ := s_DashOk hl
  obtain ⟨p1, pb, p2⟩ := s_PathOk x.path
  obtain ⟨q1, qb, q2⟩ := s_PathOk x.clip
  unfold impl_NodeOk spec_NodeOk impl_isMode impl_Path_isNone spec_l15NoPath spec_l15NoPaint
  rw [d1, d2, p1, p2, q1, q2]
  simp only [m_impl_inRange, m_spec_l01In, bnd_some, m_impl_MatOk, m_spec_MatOk, m_impl_isByte, m_impl_PaintOk, m_spec_PaintOk]
  cases tin x.id 1 99
  · (first | exact ⟨rfl, _, rfl⟩ | exact ⟨trivial, _, rfl⟩)
  cases tin x.parent 0 99
  · (first | exact ⟨rfl, _, rfl⟩ | exact ⟨trivial, _, rfl⟩)
  cases ieq x.id x.parent
  case true => (first | exact ⟨rfl, _, rfl⟩ | exact ⟨trivial, _, rfl⟩)
  cases matOk x.mat
  · (first | exact ⟨rfl, _, rfl⟩ | exact ⟨trivial, _, rfl⟩)
  cases pb
  · (first | exact ⟨rfl, _, rfl⟩ | exact ⟨trivial, _, rfl⟩)
  cases qb
  · (first | exact ⟨rfl, _, rfl⟩ | exact ⟨trivial, _, rfl⟩)
  cases tin x.width 0 2048
  · (first | exact ⟨rfl, _, rfl⟩ | exact ⟨trivial, _, rfl⟩)
  cases db
  · (first | exact ⟨rfl, _, rfl⟩ | exact ⟨trivial, _, rfl⟩)
  cases tin x.mode 1 5
  · (first | exact ⟨rfl, _, rfl⟩ | exact ⟨trivial, _, rfl⟩)
  cases tin x.fade 0 255
  · (first | exact ⟨rfl, _, rfl⟩ | exact ⟨trivial, _, rfl⟩)
  cases x.group
  · (first | exact ⟨rfl, _, rfl⟩ | exact ⟨trivial, _, rfl⟩)
  simp only [cnd_true, cnd_false]
  generalize (andB (decide (x.paint.kind = 0)) _) = u
  cases u <;> cases ieq (x.path.verbs.length : Int) 0 <;> simp only [cnd_true, cnd_false, bnd_some]
  · (first | exact ⟨rfl, _, rfl⟩ | exact ⟨trivial, _, rfl⟩)
  · cases ieq (x.path.points.length : Int) 0 <;> (first | exact ⟨rfl, _, rfl⟩ | exact ⟨trivial, _, rfl⟩)
  · (first | exact ⟨rfl, _, rfl⟩ | exact ⟨trivial, _, rfl⟩)
  · cases ieq (x.path.points.length : Int) 0 <;> simp only [cnd_true, cnd_false]
    · (first | exact ⟨rfl, _, rfl⟩ | exact ⟨trivial, _, rfl⟩)
    · cases ieq x.width 0 <;> simp only [cnd_true, cnd_false]
      · (first | exact ⟨rfl, _, rfl⟩ | exact ⟨trivial, _, rfl⟩)
      · cases ieq (x.dashes.length : Int) 0 <;> (first | exact ⟨rfl, _, rfl⟩ | exact ⟨trivial, _, rfl⟩)
def nodeAt (s : TScene) (id : Int) : Int := fst (fun k => ieq k.id id) s.nodes
theorem fst_in {α : Type} {q : α → Bool} {l : List α} (h : 0 ≤ fst q l) : ∃ x, idx l (fst q l) = some x := by
  unfold fst at h ⊢
  cases hq : l.findIdx? q with
  | none => rw [hq] at h; simp at h
  | some i =>
    rw [List.findIdx?_eq_some_iff_getElem] at hq
    obtain ⟨h1, _⟩ := hq
    exact ⟨_, idx_nat h1⟩
theorem m_impl_NodeAt {s : TScene} {id : Int} (h : s.nodes.length ≤ 1048576) : impl_NodeAt s id = some (nodeAt s id) := by
  unfold impl_NodeAt slices_IndexFunc_Node_NodeAt_1
  have e : s.nodes.length ≤ 9223372036854775807 := by omega
  rw [loopI_index (l := s.nodes) (fun k => ieq k.id id) (.inl ()) .inr e (fun i hi => ?_) ?_]
  · unfold nodeAt fst
    cases List.findIdx? (fun k : TNode => ieq k.id id) s.nodes <;> rfl
  · rw [slices_IndexFunc_Node_NodeAt_1_l0, ilt (by omega), cnd_true]
  · rw [slices_IndexFunc_Node_NodeAt_1_l0, ilf (by omega), cnd_false, idx_nat hi, bnd_some, impl_NodeAt_1, bnd_some]
theorem m_spec_NodeAt {s : TScene} {id : Int} (h : s.nodes.length ≤ 1048576) : spec_NodeAt s id = some (nodeAt s id) := by
  unfold spec_NodeAt
  have e : s.nodes.length ≤ 9223372036854775807 := by omega
  rw [loopI_index (l := s.nodes) (fun k => ieq k.id id) (.inl ()) .inr e (fun i hi => ?_) ?_]
  · unfold nodeAt fst
    cases List.findIdx? (fun k : TNode => ieq k.id id) s.nodes <;> rfl
  · rw [spec_NodeAt_l0, ilt (by omega), cnd_true]
  · rw [spec_NodeAt_l0, ilf (by omega), cnd_false, idx_nat hi, bnd_some]
def outI : Int ⊕ Unit → Int
  | .inl y => y
  | .inr _ => 0
theorem depth_eq {s : TScene} (h : s.nodes.length ≤ 1048576) : ∀ (m : Nat) (n : Int) (id : Int), n + (m : Int) = 9 → 1 ≤ n → id ≠ 0 → ∃ q q', loopI (impl_DepthOf_l0 s) (id, n) = some q ∧ loopI (spec_DepthOf_l0 s) (id, n - 1, n - 1) = some q' ∧ outI q = outI q' := by
  intro m
  induction m with
  | zero =>
    intro n id hn h1 hid
    have : n = 9 := by omega
    subst this
    have e1 : loopI (impl_DepthOf_l0 s) (id, 9) = some (.inr ()) := loopI_end (by rw [impl_DepthOf_l0, ilf (by omega), cnd_false])
    by_cases ha : 0 ≤ nodeAt s id
    · obtain ⟨x, hx⟩ := fst_in ha
      have hx' : idx s.nodes (nodeAt s id) = some x := hx
      have e2 : spec_DepthOf_l0 s (id, 9 - 1, 9 - 1) = some (.inl (x.parent, 9, 9)) := by
        rw [spec_DepthOf_l0, ilt (by omega), cnd_true, iqf hid, cnd_false, m_spec_NodeAt h, bnd_some, ilt ha, cnd_true, hx', bnd_some, wr_in (by omega)]; rfl
      have e3 : loopI (spec_DepthOf_l0 s) (x.parent, 9, 9) = some (.inr ()) := loopI_end (by rw [spec_DepthOf_l0, ilf (by omega), cnd_false])
      exact ⟨_, _, e1, by rw [loopI_go e2]; exact e3, rfl⟩
    · have e2 : loopI (spec_DepthOf_l0 s) (id, 9 - 1, 9 - 1) = some (.inl 0) := loopI_end (by
        rw [spec_DepthOf_l0, ilt (by omega), cnd_true, iqf hid, cnd_false, m_spec_NodeAt h, bnd_some, ilf (by omega), cnd_false])
      exact ⟨_, _, e1, e2, rfl⟩
  | succ m ih =>
    intro n id hn h1 hid
    by_cases ha : 0 ≤ nodeAt s id
    · obtain ⟨x, hx⟩ := fst_in ha
      have hx' : idx s.nodes (nodeAt s id) = some x := hx
      have e2 : spec_DepthOf_l0 s (id, n - 1, n - 1) = some (.inl (x.parent, n, n)) := by
        rw [spec_DepthOf_l0, ilt (by omega), cnd_true, iqf hid, cnd_false, m_spec_NodeAt h, bnd_some, ilt ha, cnd_true, hx', bnd_some, wr_in (by omega), show n - 1 + 1 = n by omega]
      by_cases hp : x.parent = 0
      · have e1 : loopI (impl_DepthOf_l0 s) (id, n) = some (.inl n) := loopI_end (by
          rw [impl_DepthOf_l0, ilt (by omega), cnd_true, m_impl_NodeAt h, bnd_some, ilt ha, cnd_true, hx', bnd_some, hp, iqt, cnd_true])
        have e3 : loopI (spec_DepthOf_l0 s) (x.parent, n, n) = some (.inl n) := loopI_end (by rw [spec_DepthOf_l0, ilt (by omega), cnd_true, hp, iqt, cnd_true])
        exact ⟨_, _, e1, by rw [loopI_go e2]; exact e3, rfl⟩
      · have e1 : impl_DepthOf_l0 s (id, n) = some (.inl (x.parent, n + 1)) := by
          rw [impl_DepthOf_l0, ilt (by omega), cnd_true, m_impl_NodeAt h, bnd_some, ilt ha, cnd_true, hx', bnd_some, iqf hp, cnd_false, wr_in (by omega)]
        obtain ⟨q, q', f1, f2, f3⟩ := ih (n + 1) x.parent (by omega) (by omega) hp
        have f2' : loopI (spec_DepthOf_l0 s) (x.parent, n, n) = some q' := by
          rw [show n + 1 - 1 = n by omega] at f2; exact f2
        exact ⟨q, q', by rw [loopI_go e1]; exact f1, by rw [loopI_go e2]; exact f2', f3⟩
    · have e1 : loopI (impl_DepthOf_l0 s) (id, n) = some (.inl 0) := loopI_end (by
        rw [impl_DepthOf_l0, ilt (by omega), cnd_true, m_impl_NodeAt h, bnd_some, ilf (by omega), cnd_false])
      have e2 : loopI (spec_DepthOf_l0 s) (id, n - 1, n - 1) = some (.inl 0) := loopI_end (by
        rw [spec_DepthOf_l0, ilt (by omega), cnd_true, iqf hid, cnd_false, m_spec_NodeAt h, bnd_some, ilf (by omega), cnd_false])
      exact ⟨_, _, e1, e2, rfl⟩
theorem s_DepthOf {s : TScene} (h : s.nodes.length ≤ 1048576) (id : Int) : ∃ v, impl_DepthOf s id = some v ∧ spec_DepthOf s id = some v := by
  unfold impl_DepthOf spec_DepthOf
  by_cases hid : id = 0
  · subst hid
    have e : loopI (spec_DepthOf_l0 s) (0, 0, 0) = some (.inl 0) := loopI_end (by rw [spec_DepthOf_l0, ilt (by omega), cnd_true, iqt, cnd_true])
    rw [iqt, cnd_true, e]
    exact ⟨0, rfl, rfl⟩
  · obtain ⟨q, q', e1, e2, e3⟩ := depth_eq h 8 1 id (by omega) (by omega) hid
    have e2' : loopI (spec_DepthOf_l0 s) (id, 0, 0) = some q' := e2
    rw [iqf hid, cnd_false, e1, e2']
    refine ⟨outI q, ?_, ?_⟩
    · cases q <;> rfl
    · rw [e3]; cases q' <;> rfl
structure RowsS (s : TScene) : Prop where
  n : s.nodes.length ≤ 1048576
  d : ∀ x ∈ s.nodes, x.dashes.length ≤ 1048576
theorem s_SceneOk {s : TScene} (h : RowsS s) : impl_SceneOk s = spec_SceneOk s ∧ ∃ b, spec_SceneOk s = some b := by
  have hn := h.n
  unfold impl_SceneOk spec_SceneOk
  by_cases h8 : (s.nodes.length : Int) ≤ 8
  case neg => rw [ilf (by omega), cnd_false, cnd_false]; (first | exact ⟨rfl, _, rfl⟩ | exact ⟨trivial, _, rfl⟩)
  rw [ilt h8, cnd_true, cnd_true]
  have step : ∀ (i : Nat) (hi : i < s.nodes.length), ∃ b : Bool, impl_SceneOk_l0 s (i : Int) = cnd b (some (.inl (IntKind.i64.wrap ((i : Int) + 1)))) (some (.inr (.inr ()))) ∧ spec_SceneOk_l0 s (i : Int) = cnd b (some (.inl (IntKind.i64.wrap ((i : Int) + 1)))) (some (.inr (.inr ()))) := by
    intro i hi
    obtain ⟨n1, nb, n2⟩ := s_NodeOk (h.d _ (List.getElem_mem hi))
    obtain ⟨v, v1, v2⟩ := s_DepthOf hn (s.nodes[i]).id
    rw [impl_SceneOk_l0, spec_SceneOk_l0, ilf (by omega), cnd_false, cnd_false, idx_nat hi, bnd_some, bnd_some, n1, n2, bnd_some, bnd_some]
    cases nb
    · exact ⟨false, rfl, rfl⟩
    rw [cnd_true, cnd_true, m_impl_NodeAt hn, m_spec_NodeAt hn, bnd_some, bnd_some]
    cases ieq (nodeAt s (s.nodes[i]).id) (i : Int)
    · exact ⟨false, rfl, rfl⟩
    rw [cnd_true, cnd_true, v2, bnd_some, m_spec_l01In, bnd_some, m_spec_NodeAt hn]
    unfold impl_Scene_isParent
    rw [m_impl_NodeAt hn, bnd_some]
    by_cases hp : (s.nodes[i]).parent = 0
    · rw [hp, iqt, cnd_true, bnd_some, cnd_true, v1, bnd_some, m_impl_inRange, bnd_some, bnd_some, cnd_true]
      exact ⟨tin v 1 4, rfl, rfl⟩
    · rw [iqf hp, cnd_false, bnd_some, cnd_false]
      by_cases ha : 0 ≤ nodeAt s (s.nodes[i]).parent
      · obtain ⟨x, hx⟩ := fst_in ha
        have hx' : idx s.nodes (nodeAt s (s.nodes[i]).parent) = some x := hx
        rw [ilt ha, cnd_true, cnd_true, hx', bnd_some, bnd_some, bnd_some, v1, bnd_some, m_impl_inRange, bnd_some]
        refine ⟨x.group && tin v 1 4, ?_, ?_⟩
        · cases x.group <;> cases tin v 1 4 <;> rfl
        · cases x.group <;> cases tin v 1 4 <;> rfl
      · rw [ilf (by omega), cnd_false, cnd_false, bnd_some, cnd_false]
        refine ⟨false, rfl, ?_⟩
        cases tin v 1 4 <;> rfl
  have hc : ∀ (i : Nat), ∃ b : Bool, ∀ hi : i < s.nodes.length, impl_SceneOk_l0 s (i : Int) = cnd b (some (.inl (IntKind.i64.wrap ((i : Int) + 1)))) (some (.inr (.inr ()))) ∧ spec_SceneOk_l0 s (i : Int) = cnd b (some (.inl (IntKind.i64.wrap ((i : Int) + 1)))) (some (.inr (.inr ()))) := by
    intro i
    by_cases hi : i < s.nodes.length
    · obtain ⟨b, h1⟩ := step i hi; exact ⟨b, fun _ => h1⟩
    · exact ⟨false, fun h => absurd h hi⟩
  let B : Nat → Bool := fun i => (hc i).choose
  have hB : ∀ i (hi : i < s.nodes.length), impl_SceneOk_l0 s (i : Int) = cnd (B i) (some (.inl (IntKind.i64.wrap ((i : Int) + 1)))) (some (.inr (.inr ()))) ∧ spec_SceneOk_l0 s (i : Int) = cnd (B i) (some (.inl (IntKind.i64.wrap ((i : Int) + 1)))) (some (.inr (.inr ()))) := fun i hi => (hc i).choose_spec hi
  have k1 := loopI_all (f := impl_SceneOk_l0 s) s.nodes.length B (by omega) (fun i hi => (hB i hi).1) (by rw [impl_SceneOk_l0, ilt (by omega), cnd_true])
  have k2 := loopI_all (f := spec_SceneOk_l0 s) s.nodes.length B (by omega) (fun i hi => (hB i hi).2) (by rw [spec_SceneOk_l0, ilt (by omega), cnd_true])
  rw [k1, k2]
  cases (List.range s.nodes.length).all B <;> (first | exact ⟨rfl, _, rfl⟩ | exact ⟨trivial, _, rfl⟩)

/-! ## EngineOk -/
theorem rowsS_gd {s : TScene} (h : gd_Scene s) : RowsS s := by
  have h1 : gdL gd_Node s.nodes := h
  refine ⟨h1.1, fun x hx => ?_⟩
  have h2 : gd_Node x := h1.2 x hx
  exact h2.2.1.1
theorem s_EngineOk {e : TEngine} (h : gd_Engine e) : impl_EngineOk e = spec_EngineOk e ∧ ∃ b, spec_EngineOk e = some b := by
  obtain ⟨h1, h2, h3, h4, h5⟩ := h
  obtain ⟨s1, sb, s2⟩ := s_SceneOk (rowsS_gd h1)
  have l2 : e.frame.pix.length ≤ 1048576 := h2.1
  have l3 := h3.1
  have l4 := h4.1
  have k1 := loopI_row (l := e.stamps) (f := impl_EngineOk_l0 e) (fun n => ile 0 n) (by omega) (fun i hi => by rw [impl_EngineOk_l0, ilf (by omega), cnd_false, idx_nat hi, bnd_some]) (by rw [impl_EngineOk_l0, ilt (by omega), cnd_true])
  have k2 := loopI_row (l := e.stamps) (f := spec_EngineOk_l0 e) (fun n => ile 0 n) (by omega) (fun i hi => by rw [spec_EngineOk_l0, ilf (by omega), cnd_false, idx_nat hi, bnd_some]) (by rw [spec_EngineOk_l0, ilt (by omega), cnd_true])
  unfold impl_EngineOk spec_EngineOk
  rw [k1, k2, s1, s2, m_impl_SurfaceOk (by omega), m_spec_SurfaceOk (by omega), m_impl_CacheOk (rows_gd h5), m_spec_CacheOk (rows_gd h5), m_impl_TileCount, m_spec_TileCount]
  simp only [bnd_some]
  cases e.stamps.all (fun n => ile 0 n) <;> cases sb <;> cases surfaceOk e.frame <;> cases cacheOk e.cache <;> cases ieq (e.stamps.length : Int) (tileCount e.frame.w e.frame.h) <;> cases ile (e.dirty.length : Int) 40 <;> cases ile 0 e.painted <;> exact ⟨rfl, _, rfl⟩
theorem m_FnExactEngineOk {e : TEngine} (h : ok_Engine e) : laws_FnExactEngineOk e = some true := by
  obtain ⟨v, ev, _, _, g⟩ := f_laws_szEngine h (left := 1048576) (by omega) (by omega)
  unfold laws_FnExactEngineOk
  rw [ev, bnd_some]
  by_cases hv : 0 ≤ v
  · have hg := g hv
    obtain ⟨s1, b, s2⟩ := s_EngineOk hg
    rw [ilt hv, cnd_true, f_laws_toEngine hg, bnd_some, s2, bnd_some, s1, s2, bnd_some, f_laws_eqEngine hg]
    simp [andB]
  · rw [ilf (by omega), cnd_false]

end Go.Proofs.YtokobfpimdadmaaGreat.Am
