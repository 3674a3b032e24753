import Derived.Test.YtapchldnmkfkoabAmPnMo
import Derived.Test.YtapchldnmkfkoabAmRo
import Derived.Test.YtapchldnmkfkoabAmLw
set_option linter.unusedVariables false
set_option linter.unusedSimpArgs false
set_option linter.unusedSectionVars false
namespace Go.Proofs.Ytapchldnmkfkoab.Am
open Go Go.Proofs
def ok_Mat (x:TMat):Prop:=(okN .i64) x.a∧(okN .i64) x.b∧(okN .i64) x.c∧(okN .i64) x.d∧(okN .i64) x.e∧(okN .i64) x.f
theorem dm_Mat:Dm (.struct [.int .i64,.int .i64,.int .i64,.int .i64,.int .i64,.int .i64]) eMat ok_Mat:=⟨fun cs h=>by
 rw [Dom] at h;simp only [DomL] at h
 obtain ⟨_,_,rfl,h0,_,_,rfl,h1,_,_,rfl,h2,_,_,rfl,h3,_,_,rfl,h4,_,_,rfl,h5,rfl⟩:=h
 obtain ⟨x0,rfl,k0⟩:=dm_int.c h0
 obtain ⟨x1,rfl,k1⟩:=dm_int.c h1
 obtain ⟨x2,rfl,k2⟩:=dm_int.c h2
 obtain ⟨x3,rfl,k3⟩:=dm_int.c h3
 obtain ⟨x4,rfl,k4⟩:=dm_int.c h4
 obtain ⟨x5,rfl,k5⟩:=dm_int.c h5
 exact ⟨⟨x0,x1,x2,x3,x4,x5⟩,by simp [elA,Ty.isS],k0,k1,k2,k3,k4,k5⟩⟩
def ok_Point (x:TPoint):Prop:=(okN .i64) x.x∧(okN .i64) x.y
theorem dm_Point:Dm (.struct [.int .i64,.int .i64]) ePoint ok_Point:=⟨fun cs h=>by
 rw [Dom] at h;simp only [DomL] at h
 obtain ⟨_,_,rfl,h0,_,_,rfl,h1,rfl⟩:=h
 obtain ⟨x0,rfl,k0⟩:=dm_int.c h0
 obtain ⟨x1,rfl,k1⟩:=dm_int.c h1
 exact ⟨⟨x0,x1⟩,by simp [elA,Ty.isS],k0,k1⟩⟩
def ok_Path (x:TPath):Prop:=(okL (okN .i64)) x.verbs∧(okL ok_Point) x.points
theorem dm_Path:Dm (.struct [.slice (.int .i64),.slice (.struct [.int .i64,.int .i64])]) ePath ok_Path:=⟨fun cs h=>by
 rw [Dom] at h;simp only [DomL] at h
 obtain ⟨_,_,rfl,h0,_,_,rfl,h1,rfl⟩:=h
 obtain ⟨x0,rfl,k0⟩:=(dm_sl dm_int).c h0
 obtain ⟨x1,rfl,k1⟩:=(dm_sl dm_Point).c h1
 exact ⟨⟨x0,x1⟩,by simp [elA,Ty.isS],k0,k1⟩⟩
def ok_Color (x:TColor):Prop:=(okN .i64) x.r∧(okN .i64) x.g∧(okN .i64) x.b∧(okN .i64) x.a
theorem dm_Color:Dm (.struct [.int .i64,.int .i64,.int .i64,.int .i64]) eColor ok_Color:=⟨fun cs h=>by
 rw [Dom] at h;simp only [DomL] at h
 obtain ⟨_,_,rfl,h0,_,_,rfl,h1,_,_,rfl,h2,_,_,rfl,h3,rfl⟩:=h
 obtain ⟨x0,rfl,k0⟩:=dm_int.c h0
 obtain ⟨x1,rfl,k1⟩:=dm_int.c h1
 obtain ⟨x2,rfl,k2⟩:=dm_int.c h2
 obtain ⟨x3,rfl,k3⟩:=dm_int.c h3
 exact ⟨⟨x0,x1,x2,x3⟩,by simp [elA,Ty.isS],k0,k1,k2,k3⟩⟩
def ok_Paint (x:TPaint):Prop:=(okN .i64) x.kind∧ok_Color x.first∧ok_Color x.last∧ok_Point x.from_∧ok_Point x.to
theorem dm_Paint:Dm (.struct [.int .i64,.struct [.int .i64,.int .i64,.int .i64,.int .i64],.struct [.int .i64,.int .i64,.int .i64,.int .i64],.struct [.int .i64,.int .i64],.struct [.int .i64,.int .i64]]) ePaint ok_Paint:=⟨fun cs h=>by
 rw [Dom] at h;simp only [DomL] at h
 obtain ⟨_,_,rfl,h0,_,_,rfl,h1,_,_,rfl,h2,_,_,rfl,h3,_,_,rfl,h4,rfl⟩:=h
 obtain ⟨x0,rfl,k0⟩:=dm_int.c h0
 obtain ⟨x1,rfl,k1⟩:=dm_Color.c h1
 obtain ⟨x2,rfl,k2⟩:=dm_Color.c h2
 obtain ⟨x3,rfl,k3⟩:=dm_Point.c h3
 obtain ⟨x4,rfl,k4⟩:=dm_Point.c h4
 exact ⟨⟨x0,x1,x2,x3,x4⟩,by simp [elA,Ty.isS],k0,k1,k2,k3,k4⟩⟩
def ok_Node (x:TNode):Prop:=(okN .i64) x.id∧(okN .i64) x.parent∧(fun _:Bool=>True) x.group∧ok_Mat x.mat∧ok_Path x.path∧(fun _:Bool=>True) x.even∧(okN .i64) x.width∧(okL (okN .i64)) x.dashes∧ok_Paint x.paint∧(okN .i64) x.mode∧(okN .i64) x.fade∧ok_Path x.clip
theorem dm_Node:Dm (.struct [.int .i64,.int .i64,.bool,.struct [.int .i64,.int .i64,.int .i64,.int .i64,.int .i64,.int .i64],.struct [.slice (.int .i64),.slice (.struct [.int .i64,.int .i64])],.bool,.int .i64,.slice (.int .i64),.struct [.int .i64,.struct [.int .i64,.int .i64,.int .i64,.int .i64],.struct [.int .i64,.int .i64,.int .i64,.int .i64],.struct [.int .i64,.int .i64],.struct [.int .i64,.int .i64]],.int .i64,.int .i64,.struct [.slice (.int .i64),.slice (.struct [.int .i64,.int .i64])]]) eNode ok_Node:=⟨fun cs h=>by
 rw [Dom] at h;simp only [DomL] at h
 obtain ⟨_,_,rfl,h0,_,_,rfl,h1,_,_,rfl,h2,_,_,rfl,h3,_,_,rfl,h4,_,_,rfl,h5,_,_,rfl,h6,_,_,rfl,h7,_,_,rfl,h8,_,_,rfl,h9,_,_,rfl,h10,_,_,rfl,h11,rfl⟩:=h
 obtain ⟨x0,rfl,k0⟩:=dm_int.c h0
 obtain ⟨x1,rfl,k1⟩:=dm_int.c h1
 obtain ⟨x2,rfl,k2⟩:=dm_bool.c h2
 obtain ⟨x3,rfl,k3⟩:=dm_Mat.c h3
 obtain ⟨x4,rfl,k4⟩:=dm_Path.c h4
 obtain ⟨x5,rfl,k5⟩:=dm_bool.c h5
 obtain ⟨x6,rfl,k6⟩:=dm_int.c h6
 obtain ⟨x7,rfl,k7⟩:=(dm_sl dm_int).c h7
 obtain ⟨x8,rfl,k8⟩:=dm_Paint.c h8
 obtain ⟨x9,rfl,k9⟩:=dm_int.c h9
 obtain ⟨x10,rfl,k10⟩:=dm_int.c h10
 obtain ⟨x11,rfl,k11⟩:=dm_Path.c h11
 exact ⟨⟨x0,x1,x2,x3,x4,x5,x6,x7,x8,x9,x10,x11⟩,by simp [elA,Ty.isS],k0,k1,k2,k3,k4,k5,k6,k7,k8,k9,k10,k11⟩⟩
def ok_Scene (x:TScene):Prop:=(okL ok_Node) x.nodes
theorem dm_Scene:Dm (.struct [.slice (.struct [.int .i64,.int .i64,.bool,.struct [.int .i64,.int .i64,.int .i64,.int .i64,.int .i64,.int .i64],.struct [.slice (.int .i64),.slice (.struct [.int .i64,.int .i64])],.bool,.int .i64,.slice (.int .i64),.struct [.int .i64,.struct [.int .i64,.int .i64,.int .i64,.int .i64],.struct [.int .i64,.int .i64,.int .i64,.int .i64],.struct [.int .i64,.int .i64],.struct [.int .i64,.int .i64]],.int .i64,.int .i64,.struct [.slice (.int .i64),.slice (.struct [.int .i64,.int .i64])]])]) eScene ok_Scene:=⟨fun cs h=>by
 rw [Dom] at h;simp only [DomL] at h
 obtain ⟨_,_,rfl,h0,rfl⟩:=h
 obtain ⟨x0,rfl,k0⟩:=(dm_sl dm_Node).c h0
 exact ⟨⟨x0⟩,by simp [elA,Ty.isS],k0⟩⟩
end Go.Proofs.Ytapchldnmkfkoab.Am
namespace Go.Proofs.Ytapchldnmkfkoab.Am
open Go Go.Proofs
set_option linter.unusedVariables false
set_option linter.unusedSimpArgs false
theorem f_laws_szIntS {a:List Int} {left:Int} (ho:okL (okN .i64) a) (h0:0 ≤ left) (h1:left ≤ 1048576):∃ v,laws_szIntS a left = some v∧szR v left (gdL tt a):=by
 unfold laws_szIntS;exact sz_row (maxL ho.1) h0 h1
theorem f_laws_szPointS {a:List TPoint} {left:Int} (ho:okL ok_Point a) (h0:0 ≤ left) (h1:left ≤ 1048576):∃ v,laws_szPointS a left = some v∧szR v left (gdL tt a):=by
 unfold laws_szPointS;exact sz_row (maxL ho.1) h0 h1
def gd_Path (x:TPath):Prop:=(gdL tt) x.verbs∧(gdL tt) x.points
theorem f_laws_szPath {a:TPath} {left:Int} (ho:ok_Path a) (h0:0 ≤ left) (h1:left ≤ 1048576):∃ v,laws_szPath a left = some v∧szR v left (gd_Path a):=by
 obtain ⟨o0,o1⟩:=ho
 unfold laws_szPath
 obtain ⟨v0,e0,l0,m0,g0⟩:=f_laws_szIntS o0 h0 (by omega)
 rw [e0,bnd_some]
 by_cases c0:0 ≤ v0
 case neg=>rw [ilf (by omega),cnd_false];exact ⟨-1,rfl,by omega,by omega,fun h=>by omega⟩
 rw [ilt c0,cnd_true]
 obtain ⟨v1,e1,l1,m1,g1⟩:=f_laws_szPointS o1 c0 (by omega)
 rw [e1,bnd_some]
 by_cases c1:0 ≤ v1
 case neg=>rw [ilf (by omega),cnd_false];exact ⟨-1,rfl,by omega,by omega,fun h=>by omega⟩
 rw [ilt c1,cnd_true]
 exact ⟨v1,rfl,by omega,by omega,fun _=>⟨g0 c0,g1 c1⟩⟩
def gd_Node (x:TNode):Prop:=gd_Path x.path∧(gdL tt) x.dashes∧gd_Path x.clip
theorem f_laws_szNode {a:TNode} {left:Int} (ho:ok_Node a) (h0:0 ≤ left) (h1:left ≤ 1048576):∃ v,laws_szNode a left = some v∧szR v left (gd_Node a):=by
 obtain ⟨o0,o1,o2,o3,o4,o5,o6,o7,o8,o9,o10,o11⟩:=ho
 unfold laws_szNode
 obtain ⟨v4,e4,l4,m4,g4⟩:=f_laws_szPath o4 h0 (by omega)
 rw [e4,bnd_some]
 by_cases c4:0 ≤ v4
 case neg=>rw [ilf (by omega),cnd_false];exact ⟨-1,rfl,by omega,by omega,fun h=>by omega⟩
 rw [ilt c4,cnd_true]
 obtain ⟨v7,e7,l7,m7,g7⟩:=f_laws_szIntS o7 c4 (by omega)
 rw [e7,bnd_some]
 by_cases c7:0 ≤ v7
 case neg=>rw [ilf (by omega),cnd_false];exact ⟨-1,rfl,by omega,by omega,fun h=>by omega⟩
 rw [ilt c7,cnd_true]
 obtain ⟨v11,e11,l11,m11,g11⟩:=f_laws_szPath o11 c7 (by omega)
 rw [e11,bnd_some]
 by_cases c11:0 ≤ v11
 case neg=>rw [ilf (by omega),cnd_false];exact ⟨-1,rfl,by omega,by omega,fun h=>by omega⟩
 rw [ilt c11,cnd_true]
 exact ⟨v11,rfl,by omega,by omega,fun _=>⟨g4 c4,g7 c7,g11 c11⟩⟩
theorem f_laws_szNodeS {a:List TNode} {left:Int} (ho:okL ok_Node a) (h0:0 ≤ left) (h1:left ≤ 1048576):∃ v,laws_szNodeS a left = some v∧szR v left ((gdL gd_Node) a):=by
 unfold laws_szNodeS
 have hl:=maxL ho.1
 rw [wr_in (by omega)]
 by_cases h:0 ≤ left - (a.length:Int)
 ·rw [ilt h,cnd_true]
  obtain ⟨v,⟨v1,v2,v3⟩,e⟩:=sz_loop (szE:=laws_szNode) (g:=gd_Node) (f:=laws_szNodeS_l0 a) (left:=left - (a.length:Int)) (fun x hx left=>f_laws_szNode (ho.2 x hx)) (fun _ _=>rfl) h (by omega) (by omega)
  refine ⟨v,?_,by omega,v2,v3⟩
  rcases e with ⟨e,_⟩ | ⟨e,rfl⟩ <;> rw [e] <;> rfl
 ·rw [ilf (by omega),cnd_false]
  exact ⟨_,rfl,by omega,by omega,fun h=>by omega⟩
def gd_Scene (x:TScene):Prop:=(gdL gd_Node) x.nodes
theorem f_laws_szScene {a:TScene} {left:Int} (ho:ok_Scene a) (h0:0 ≤ left) (h1:left ≤ 1048576):∃ v,laws_szScene a left = some v∧szR v left (gd_Scene a):=by
 have o0:=ho
 unfold laws_szScene
 obtain ⟨v0,e0,l0,m0,g0⟩:=f_laws_szNodeS o0 h0 (by omega)
 rw [e0,bnd_some]
 by_cases c0:0 ≤ v0
 case neg=>rw [ilf (by omega),cnd_false];exact ⟨-1,rfl,by omega,by omega,fun h=>by omega⟩
 rw [ilt c0,cnd_true]
 exact ⟨v0,rfl,by omega,by omega,fun _=>g0 c0⟩
theorem f_laws_toMat {a:TMat}:laws_toMat a = some a:=by
 unfold laws_toMat
 rfl
theorem f_laws_toIntS {a:List Int} (hg:(gdL tt) a):laws_toIntS a = some a:=by
 unfold laws_toIntS
 rw [chkP_pos (ch_row hg.1 (by omega))]
 have h:=to_loop (f:=laws_toIntS_l0 a) (toE:=some) (0) (fun _ _=>rfl) (fun _ _=>rfl) hg.1
 simp only [nam_eq,h,bnd_some]
theorem f_laws_toPoint {a:TPoint}:laws_toPoint a = some a:=by
 unfold laws_toPoint
 rfl
theorem f_laws_toPointS {a:List TPoint} (hg:(gdL tt) a):laws_toPointS a = some a:=by
 unfold laws_toPointS
 rw [chkP_pos (ch_row hg.1 (by omega))]
 have h:=to_loop (f:=laws_toPointS_l0 a) (toE:=laws_toPoint) ((TPoint.mk 0 0)) (fun x hx=>f_laws_toPoint ) (fun _ _=>rfl) hg.1
 simp only [nam_eq,h,bnd_some]
theorem f_laws_toPath {a:TPath} (hg:gd_Path a):laws_toPath a = some (a.verbs,a.points):=by
 obtain ⟨h0,h1⟩:=hg
 unfold laws_toPath
 simp only [bnd_some,f_laws_toIntS h0,f_laws_toPointS h1]
theorem f_laws_toColor {a:TColor}:laws_toColor a = some a:=by
 unfold laws_toColor
 rfl
theorem f_laws_toPaint {a:TPaint}:laws_toPaint a = some a:=by
 unfold laws_toPaint
 simp only [bnd_some,f_laws_toColor,f_laws_toPoint]
theorem f_laws_toNode {a:TNode} (hg:gd_Node a):laws_toNode a = some (a.id,a.parent,a.group,a.mat,a.even,a.width,a.paint,a.mode,a.fade,a.path.verbs,a.path.points,a.dashes,a.clip.verbs,a.clip.points):=by
 obtain ⟨h0,h1,h2⟩:=hg
 unfold laws_toNode
 simp only [bnd_some,f_laws_toMat,f_laws_toPath h0,f_laws_toPath h2,f_laws_toIntS h1,f_laws_toPaint]
theorem f_laws_toNodeS {a:List TNode} (hg:(gdL gd_Node) a):laws_toNodeS a = some a:=by
 unfold laws_toNodeS
 rw [chkP_pos (ch_row hg.1 (by omega))]
 have h:=to_loop (f:=laws_toNodeS_l0 a) (toE:=fun v=>bnd (laws_toNode v) fun (r0,r1,r2,r3,r4,r5,r6,r7,r8,r9,r10,r11,r12,r13)=>some (TNode.mk r0 r1 r2 (TMat.mk r3.a r3.b r3.c r3.d r3.e r3.f) (TPath.mk r9 r10) r4 r5 r11 (TPaint.mk r6.kind (TColor.mk r6.first.r r6.first.g r6.first.b r6.first.a) (TColor.mk r6.last.r r6.last.g r6.last.b r6.last.a) (TPoint.mk r6.from_.x r6.from_.y) (TPoint.mk r6.to.x r6.to.y)) r7 r8 (TPath.mk r12 r13))) ((TNode.mk 0 0 false (TMat.mk 0 0 0 0 0 0) (TPath.mk [] []) false 0 [] (TPaint.mk 0 (TColor.mk 0 0 0 0) (TColor.mk 0 0 0 0) (TPoint.mk 0 0) (TPoint.mk 0 0)) 0 0 (TPath.mk [] []))) (fun x hx=>by rw [f_laws_toNode (hg.2 x hx)];rfl) (fun _ _=>congrArg (cnd _ _) (congrArg (bnd _) (funext fun v=>by cases laws_toNode v <;> rfl))) hg.1
 simp only [nam_eq,h,bnd_some]
theorem f_laws_toScene {a:TScene} (hg:gd_Scene a):laws_toScene a = some a.nodes:=by
 have h0:=hg
 unfold laws_toScene
 simp only [bnd_some,f_laws_toNodeS h0]
theorem f_laws_eqMat {a:TMat}:laws_eqMat a a = some true:=by
 unfold laws_eqMat
 simp only [bnd_some,cnd_true,iqt,andB,decide_true,Bool.and_self,Bool.and_true]
theorem f_laws_eqIntS {a:List Int} (hg:(gdL tt) a):laws_eqIntS a a = some true:=by
 unfold laws_eqIntS
 have h:=eq_loop (f:=laws_eqIntS_l0 a a) (eqE:=(fun x y=>some (ieq x y))) (fun _ _=>by simp [ieq,sq']) (fun _=>rfl) hg.1
 rw [iqt,cnd_true,h];rfl
theorem f_laws_eqPoint {a:TPoint}:laws_eqPoint a a = some true:=by
 unfold laws_eqPoint
 simp only [bnd_some,cnd_true,iqt,andB,decide_true,Bool.and_self,Bool.and_true]
theorem f_laws_eqPointS {a:List TPoint} (hg:(gdL tt) a):laws_eqPointS a a = some true:=by
 unfold laws_eqPointS
 have h:=eq_loop (f:=laws_eqPointS_l0 a a) (eqE:=laws_eqPoint) (fun x hx=>f_laws_eqPoint ) (fun _=>rfl) hg.1
 rw [iqt,cnd_true,h];rfl
theorem f_laws_eqPath {a:TPath} (hg:gd_Path a):laws_eqPath a a = some true:=by
 obtain ⟨h0,h1⟩:=hg
 unfold laws_eqPath
 simp only [bnd_some,cnd_true,iqt,andB,decide_true,Bool.and_self,Bool.and_true,f_laws_eqIntS h0,f_laws_eqPointS h1]
theorem f_laws_eqColor {a:TColor}:laws_eqColor a a = some true:=by
 unfold laws_eqColor
 simp only [bnd_some,cnd_true,iqt,andB,decide_true,Bool.and_self,Bool.and_true]
theorem f_laws_eqPaint {a:TPaint}:laws_eqPaint a a = some true:=by
 unfold laws_eqPaint
 simp only [bnd_some,cnd_true,iqt,andB,decide_true,Bool.and_self,Bool.and_true,f_laws_eqColor,f_laws_eqPoint]
theorem f_laws_eqNode {a:TNode} (hg:gd_Node a):laws_eqNode a a = some true:=by
 obtain ⟨h0,h1,h2⟩:=hg
 unfold laws_eqNode
 simp only [bnd_some,cnd_true,iqt,andB,decide_true,Bool.and_self,Bool.and_true,f_laws_eqMat,f_laws_eqPath h0,f_laws_eqPath h2,f_laws_eqIntS h1,f_laws_eqPaint]
theorem f_laws_eqNodeS {a:List TNode} (hg:(gdL gd_Node) a):laws_eqNodeS a a = some true:=by
 unfold laws_eqNodeS
 have h:=eq_loop (f:=laws_eqNodeS_l0 a a) (eqE:=laws_eqNode) (fun x hx=>f_laws_eqNode (hg.2 x hx)) (fun _=>rfl) hg.1
 rw [iqt,cnd_true,h];rfl
theorem f_laws_eqScene {a:TScene} (hg:gd_Scene a):laws_eqScene a a = some true:=by
 have h0:=hg
 unfold laws_eqScene
 simp only [bnd_some,cnd_true,iqt,andB,decide_true,Bool.and_self,Bool.and_true,f_laws_eqNodeS h0]
end Go.Proofs.Ytapchldnmkfkoab.Am
namespace Go.Proofs.Ytapchldnmkfkoab.Am
open Go Go.Proofs
set_option linter.unusedSimpArgs false
set_option linter.unusedVariables false
set_option maxRecDepth 100000
def tin (x a b:Int):Bool:=ile a x && ile x b
theorem tin_t {x a b:Int}:tin x a b = true ↔ a ≤ x∧x ≤ b:=by simp [tin,ile_t]
@[simp] theorem m_spec_l01In (x a b:Int):spec_l01In x a b = some (tin x a b):=by
 unfold spec_l01In tin;cases ile a x <;> simp
@[simp] theorem m_impl_inRange (x a b:Int):impl_inRange x a b = some (tin x a b):=by
 unfold impl_inRange tin;cases ile a x <;> simp
theorem idx_of {α:Type} {l:List α} {i:Int} (h0:0 ≤ i) (h1:i < l.length):∃ x,idx l i = some x∧x ∈ l:=by
 have:i.toNat < l.length:=by omega
 refine ⟨l[i.toNat],?_,List.getElem_mem this⟩
 unfold idx;rw [if_pos h0];exact List.getElem?_eq_getElem this
section
variable {a0:List Int} {v3 v4 w h:Int}
end
theorem loopI_all {f:Int→Option (Int ⊕ (Unit ⊕ Unit))} (n:Nat) (p:Nat→Bool) (hn:n ≤ 9223372036854775807)
  (hs:∀ i:Nat,i < n→f (i:Int) = cnd (p i) (some (.inl (IntKind.i64.wrap ((i:Int) + 1)))) (some (.inr (.inr ())))) (he:f (n:Int) = some (.inr (.inl ()))) :
  loopI f 0 = some (if (List.range n).all p then .inl () else .inr ()):=by
 have h:=loopI_find (f:=f) (fun i:Nat=>(i:Int)) n (fun i=>!(p i)) (fun _=>.inr ()) (r:=.inl ()) (fun i hi=>by
  rw [hs i hi,wr_in (by omega)]
  cases p i <;> simp) he
 have e:loopI f 0 = loopI f ((0:Nat):Int):=rfl
 rw [e,h]
 congr 1
 cases hq:(List.range n).find? (fun i=>!(p i)) with
 | none =>
  rw [List.find?_eq_none] at hq
  have:(List.range n).all p = true:=List.all_eq_true.2 fun x hx=>by simpa using hq x hx
  rw [this];rfl
 | some i =>
  have h1:=List.find?_some hq
  have h2:=List.mem_of_find?_eq_some hq
  have:(List.range n).all p = false:=by
   rw [List.all_eq_false];exact ⟨i,h2,by simpa using h1⟩
  rw [this];rfl
theorem range_all {α:Type} {l:List α} {q:α→Bool} {p:Nat→Bool} (h:∀ i (hi:i < l.length),p i = q l[i]):(List.range l.length).all p = l.all q:=by
 rw [Bool.eq_iff_iff,List.all_eq_true,List.all_eq_true]
 constructor
 ·intro k x hx
  obtain ⟨i,hi,rfl⟩:=List.getElem_of_mem hx
  rw [← h i hi];exact k i (List.mem_range.2 hi)
 ·intro k i hi
  have hi:=List.mem_range.1 hi
  rw [h i hi];exact k _ (List.getElem_mem hi)
theorem loopI_row {α:Type} {l:List α} {f:Int→Option (Int ⊕ (Unit ⊕ Unit))} (q:α→Bool) (hn:l.length ≤ 9223372036854775807)
  (hs:∀ (i:Nat) (h:i < l.length),f (i:Int) = cnd (q l[i]) (some (.inl (IntKind.i64.wrap ((i:Int) + 1)))) (some (.inr (.inr ())))) (he:f (l.length:Int) = some (.inr (.inl ()))) :
  loopI f 0 = some (if l.all q then .inl () else .inr ()):=by
 have h:=loopI_all (f:=f) l.length (fun i=>if h:i < l.length then q l[i] else false) hn (fun i hi=>by rw [hs i hi];simp [hi]) he
 rw [h,range_all (q:=q) (fun i hi=>by simp [hi])]
def fst {α:Type} (q:α→Bool) (l:List α):Int:=match l.findIdx? q with | some i=>(i:Int) | none=>-1
theorem loopI_index {α ρ:Type} {l:List α} {f:Int→Option (Int ⊕ ρ)} (q:α→Bool) (a:ρ) (b:Int→ρ) (hn:l.length ≤ 9223372036854775807)
  (hs:∀ (i:Nat) (h:i < l.length),f (i:Int) = cnd (q l[i]) (some (.inr (b (i:Int)))) (some (.inl (IntKind.i64.wrap ((i:Int) + 1))))) (he:f (l.length:Int) = some (.inr a)) :
  loopI f 0 = some (match l.findIdx? q with | some i=>b (i:Int) | none=>a):=by
 have h:=loopI_find (f:=f) (fun i:Nat=>(i:Int)) l.length (fun i=>match l[i]? with | some x=>q x | none=>false) (fun i=>b (i:Int)) (r:=a) (fun i hi=>by
  rw [hs i hi,wr_in (by omega),List.getElem?_eq_getElem hi]
  cases h:q l[i] <;> simp [h]) he
 have e:loopI f 0 = loopI f ((0:Nat):Int):=rfl
 rw [e,h]
 have:(List.range l.length).find? (fun i=>match l[i]? with | some x=>q x | none=>false) = l.findIdx? q:=by
  cases hq:l.findIdx? q with
  | none =>
   rw [List.findIdx?_eq_none_iff] at hq
   rw [List.find?_eq_none]
   intro i hi
   have hi:=List.mem_range.1 hi
   rw [List.getElem?_eq_getElem hi]
   simp [hq _ (List.getElem_mem hi)]
  | some i =>
   rw [List.findIdx?_eq_some_iff_getElem] at hq
   obtain ⟨h1,h2,h3⟩:=hq
   rw [List.find?_range_eq_some]
   refine ⟨by rw [List.getElem?_eq_getElem h1];exact h2,by simpa using h1,fun j hj=>?_⟩
   have:=h3 j hj
   rw [List.getElem?_eq_getElem (by omega)]
   simpa using this
 rw [this]
 cases l.findIdx? q <;> rfl
theorem fst_eq {α:Type} {q:α→Bool} {l:List α} {i:Nat} (hi:i < l.length) (hq:q l[i] = true):fst q l = (i:Int) ↔ ∀ k (hk:k < i),q l[k] = false:=by
 unfold fst
 cases h:l.findIdx? q with
 | none =>
  rw [List.findIdx?_eq_none_iff] at h
  have:=h _ (List.getElem_mem hi)
  rw [hq] at this;cases this
 | some j =>
  rw [List.findIdx?_eq_some_iff_getElem] at h
  obtain ⟨h1,h2,h3⟩:=h
  show (j:Int) = (i:Int) ↔ _
  constructor
  ·intro e k hk
   have:j = i:=by omega
   have:=h3 k (by omega)
   simpa using this
  ·intro e
   have:¬ j < i:=fun hj=>by have:=e j hj;rw [h2] at this;cases this
   have:¬ i < j:=fun hj=>h3 i hj hq
   show (j:Int) = i
   omega
theorem m_spec_ColorOk (c:TColor):spec_ColorOk c = some (tin c.r 0 255 && tin c.g 0 255 && tin c.b 0 255 && tin c.a 0 255):=by
 unfold spec_ColorOk
 simp only [m_spec_l01In,bnd_some]
 cases tin c.r 0 255 <;> cases tin c.g 0 255 <;> cases tin c.b 0 255 <;> simp
theorem m_impl_isByte (x:Int):impl_isByte x = some (tin x 0 255):=by unfold impl_isByte;simp only [m_impl_inRange,bnd_some]
theorem m_impl_ColorOk (c:TColor):impl_ColorOk c = some (tin c.r 0 255 && tin c.g 0 255 && tin c.b 0 255 && tin c.a 0 255):=by
 unfold impl_ColorOk
 simp only [m_impl_isByte,bnd_some]
 cases tin c.r 0 255 <;> cases tin c.g 0 255 <;> cases tin c.b 0 255 <;> simp
def marked {α:Type} (mk:Int→α) (c k:Int) (n:Nat):List α:=(List.range n).map fun i:Nat=>mk (k + c * (i:Int))
theorem marked_len {α:Type} {mk:Int→α} {c k:Int} {n:Nat}:(marked mk c k n).length = n:=by simp [marked]
theorem cmul {c:Int} {i n:Nat} (hc:0 ≤ c∧c ≤ 64) (hi:i ≤ n) (hn:n ≤ 1048576):0 ≤ c * (i:Int)∧c * (i:Int) ≤ 67108864:=by
 refine ⟨Int.mul_nonneg hc.1 (by omega),?_⟩
 calc c * (i:Int) ≤ 64 * (i:Int):=Int.mul_le_mul_of_nonneg_right hc.2 (by omega)
  _ ≤ 67108864:=by omega
theorem csucc {c:Int} {i:Nat}:c * ((i + 1:Nat):Int) = c * (i:Int) + c:=by
 rw [show ((i + 1:Nat):Int) = (i:Int) + 1 by omega,Int.mul_add,Int.mul_one]
theorem mark_loop {α:Type} (c:Int) (mk:Int→α) {f:Int×Int×List α→Option ((Int×Int×List α) ⊕ (List α×Int))} {a:List α} {k0:Int} (hc:0 ≤ c∧c ≤ 64) (h0:0 ≤ k0∧k0 ≤ 1125899906842624) (ha:a.length ≤ 1048576)
  (he:∀ (k:Int) (l:List α),f (k,(l.length:Int),l) = some (.inr (l,k)))
  (hf:∀ (k:Int) (i:Nat) (l:List α),i < l.length→l.length ≤ 1048576→0 ≤ k→k ≤ 4503599627370496→f (k,(i:Int),l) = some (.inl (k + c,((i + 1:Nat):Int),l.set i (mk k)))) :
  loopI f (k0,0,a) = some (marked mk c k0 a.length,k0 + c * (a.length:Int)):=by
 have key:=loopI_n (f:=f) (fun i=>(k0 + c * (i:Int),(i:Int),marked mk c k0 i ++ a.drop i)) a.length (r:=(marked mk c k0 a.length,k0 + c * (a.length:Int))) (fun i hi=>?_) ?_
 ·have e:(k0 + c * ((0:Nat):Int),((0:Nat):Int),marked mk c k0 0 ++ a.drop 0) = (k0,0,a):=by simp [marked]
  rwa [e] at key
 ·obtain ⟨b1,b2⟩:=cmul (n:=a.length) hc (Nat.le_of_lt hi) ha
  have hl:(marked mk c k0 i ++ a.drop i).length = a.length:=by simp [marked_len];omega
  rw [hf _ i _ (by omega) (by omega) (by omega) (by omega)]
  have e1:k0 + c * (i:Int) + c = k0 + c * ((i + 1:Nat):Int):=by rw [csucc];omega
  have e2:(marked mk c k0 i ++ a.drop i).set i (mk (k0 + c * (i:Int))) = marked mk c k0 (i + 1) ++ a.drop (i + 1):=by
   have h1:a.drop i = a[i] :: a.drop (i + 1):=List.drop_eq_getElem_cons hi
   rw [List.set_append_right _ _ (by rw [marked_len];omega),marked_len,Nat.sub_self,h1,List.set_cons_zero]
   unfold marked
   rw [List.range_succ,List.map_append,List.append_assoc]
   rfl
  rw [e1,e2]
 ·have e:marked mk c k0 a.length ++ a.drop a.length = marked mk c k0 a.length:=by simp
  try dsimp only
  rw [e]
  have:=he (k0 + c * (a.length:Int)) (marked mk c k0 a.length)
  rwa [marked_len] at this
theorem held_loop {α:Type} (c:Int) (mk:Int→α) {f:Int×Int→Option ((Int×Int) ⊕ (Int ⊕ Unit))} {n:Nat} {k0:Int} (hc:0 ≤ c∧c ≤ 64) (h0:0 ≤ k0∧k0 ≤ 1125899906842624) (hn:n ≤ 1048576)
  (he:∀ k:Int,f (k,(n:Int)) = some (.inr (.inl k)))
  (hf:∀ (k:Int) (i:Nat) (x:α),(marked mk c k0 n)[i]? = some x→i < n→x = mk k→0 ≤ k→k ≤ 4503599627370496→f (k,(i:Int)) = some (.inl (k + c,((i + 1:Nat):Int)))) :
  loopI f (k0,0) = some (.inl (k0 + c * (n:Int))):=by
 have key:=loopI_n (f:=f) (fun i=>(k0 + c * (i:Int),(i:Int))) n (r:=.inl (k0 + c * (n:Int))) (fun i hi=>?_) (he _)
 ·have e:(k0 + c * ((0:Nat):Int),((0:Nat):Int)) = (k0,(0:Int)):=by simp
  rwa [e] at key
 ·obtain ⟨b1,b2⟩:=cmul (n:=n) hc (Nat.le_of_lt hi) hn
  rw [hf (k0 + c * (i:Int)) i (mk (k0 + c * (i:Int))) (by unfold marked;rw [List.getElem?_map,List.getElem?_range hi];rfl) hi rfl (by omega) (by omega)]
  rw [csucc,Int.add_assoc]
theorem m_markIntS {k:Int} {l:List Int} (hk:0 ≤ k∧k ≤ 1125899906842624) (hl:l.length ≤ 1048576):laws_markIntS k l = some (k + 1 * (l.length:Int),marked (fun k=>k) 1 k l.length):=by
 unfold laws_markIntS
 rw [mark_loop (f:=laws_markIntS_l0) 1 (fun k=>k) (by omega) hk hl (fun k l=>by rw [laws_markIntS_l0,ilt (by omega),cnd_true]) (fun k i l hi hl h0 h1=>by
  rw [laws_markIntS_l0,ilf (by omega),cnd_false,idx_nat hi,bnd_some,nam_eq,Int.toNat_natCast,wr_in (n:=k + 1) (by omega),wr_in (by omega)];rfl)]
 rfl
theorem m_heldIntS {k:Int} {n:Nat} (hk:0 ≤ k∧k ≤ 1125899906842624) (hl:n ≤ 1048576):laws_heldIntS (marked (fun k=>k) 1 k n) k = some (k + 1 * (n:Int)):=by
 unfold laws_heldIntS
 rw [held_loop (f:=laws_heldIntS_l0 (marked (fun k=>k) 1 k n)) 1 (fun k=>k) (n:=n) (by omega) hk hl (fun k=>by rw [laws_heldIntS_l0,marked_len,ilt (by omega),cnd_true]) (fun k i x hx hi he h0 h1=>by
  rw [laws_heldIntS_l0,marked_len,ilf (by omega),cnd_false,idx_some hx,bnd_some,he,iqt,cnd_true,wr_in (n:=k + 1) (by omega),wr_in (by omega)];rfl)]
 rfl
section
variable {α:Type}
end
instance decCol:DecidableEq TColor:=fun a b=>decidable_of_iff (a.r = b.r∧a.g = b.g∧a.b = b.b∧a.a = b.a) (by cases a;cases b;simp)
instance decPt:DecidableEq TPoint:=fun a b=>decidable_of_iff (a.x = b.x∧a.y = b.y) (by cases a;cases b;simp)
theorem s_PointOk (p:TPoint):impl_PointOk p = spec_PointOk p:=by
 unfold impl_PointOk spec_PointOk impl_isFar
 rw [m_impl_inRange,m_spec_l01In,m_impl_inRange,m_spec_l01In];rfl
theorem t_PointOk (p:TPoint):spec_PointOk p = some (tin p.x (-8388608) 8388608 && tin p.y (-8388608) 8388608):=by
 unfold spec_PointOk
 rw [m_spec_l01In,bnd_some,m_spec_l01In]
 cases tin p.x (-8388608) 8388608 <;> simp
def pointOk (p:TPoint):Bool:=tin p.x (-8388608) 8388608 && tin p.y (-8388608) 8388608
def colOk (c:TColor):Bool:=tin c.r 0 255 && tin c.g 0 255 && tin c.b 0 255 && tin c.a 0 255
def paintOk (p:TPaint):Bool:=colOk p.first && if p.kind = 1 then decide (p.last = ⟨0,0,0,0⟩) && decide (p.from_ = ⟨0,0⟩) && decide (p.to = ⟨0,0⟩)
 else decide (p.kind = 2) && colOk p.last && pointOk p.from_ && pointOk p.to && !decide (p.from_ = p.to)
theorem col_eq {c d:TColor}:andB (decide (c.r = d.r)) (andB (decide (c.g = d.g)) (andB (decide (c.b = d.b)) (andB (decide (c.a = d.a)) true))) = decide (c = d):=by
 cases c;cases d;simp [andB,Bool.decide_and]
theorem pt_eq {c d:TPoint}:andB (decide (c.x = d.x)) (andB (decide (c.y = d.y)) true) = decide (c = d):=by
 cases c;cases d;simp [andB,Bool.decide_and]
theorem m_spec_PaintOk (p:TPaint):spec_PaintOk p = some (paintOk p):=by
 unfold spec_PaintOk paintOk
 rw [m_spec_ColorOk,bnd_some]
 have e1:=col_eq (c:=p.last) (d:=⟨0,0,0,0⟩)
 have e2:=pt_eq (c:=p.from_) (d:=⟨0,0⟩)
 have e3:=pt_eq (c:=p.to) (d:=⟨0,0⟩)
 have e4:=pt_eq (c:=p.from_) (d:=p.to)
 dsimp only at e1 e2 e3
 rw [e1,e2,e3,e4,m_spec_ColorOk,t_PointOk,t_PointOk]
 show cnd (colOk p.first) _ _ = _
 cases colOk p.first
 ·rfl
 rw [cnd_true,Bool.true_and]
 by_cases h1:p.kind = 1
 ·rw [h1,iqt,cnd_true,if_pos rfl]
  cases decide (p.last = ⟨0,0,0,0⟩) <;> simp only [cnd_true,cnd_false,Bool.false_and,Bool.true_and]
  cases decide (p.from_ = ⟨0,0⟩) <;> simp
 ·rw [iqf h1,cnd_false,if_neg h1]
  by_cases h2:p.kind = 2
  ·rw [h2,iqt,cnd_true]
   simp only [bnd_some,decide_true,Bool.true_and]
   show cnd (colOk p.last) _ _ = _
   cases colOk p.last <;> simp only [cnd_true,cnd_false,Bool.false_and,Bool.true_and]
   show cnd (pointOk p.from_) _ _ = _
   cases pointOk p.from_ <;> simp only [cnd_true,cnd_false,Bool.false_and,Bool.true_and]
   show cnd (pointOk p.to) _ _ = _
   cases pointOk p.to <;> simp
  ·rw [iqf h2,cnd_false];simp [h2]
theorem m_impl_PaintOk (p:TPaint):impl_PaintOk p = some (paintOk p):=by
 unfold impl_PaintOk paintOk
 have e1:=col_eq (c:=p.last) (d:=⟨0,0,0,0⟩)
 have e2:=pt_eq (c:=p.from_) (d:=⟨0,0⟩)
 have e3:=pt_eq (c:=p.to) (d:=⟨0,0⟩)
 have e4:=pt_eq (c:=p.from_) (d:=p.to)
 dsimp only at e1 e2 e3
 by_cases h1:p.kind = 1
 ·rw [h1,iqt,cnd_true,m_impl_ColorOk,bnd_some,if_pos rfl]
  show cnd (colOk p.first) _ _ = _
  cases colOk p.first
  ·rfl
  rw [cnd_true,Bool.true_and]
  congr 1
  rw [← e1,← e2,← e3]
  simp only [andB,decide_true,Bool.true_and,Bool.and_true,Bool.and_assoc]
 ·rw [iqf h1,cnd_false,if_neg h1]
  by_cases h2:p.kind = 2
  ·rw [h2,iqt,cnd_true,e4,m_impl_ColorOk,m_impl_ColorOk,s_PointOk,s_PointOk,t_PointOk,t_PointOk]
   simp only [bnd_some,decide_true,Bool.true_and]
   show cnd (colOk p.first) _ _ = _
   cases colOk p.first <;> simp only [cnd_true,cnd_false,Bool.false_and,Bool.true_and]
   show cnd (colOk p.last) _ _ = _
   cases colOk p.last <;> simp only [cnd_true,cnd_false,Bool.false_and,Bool.true_and]
   show cnd (pointOk p.from_) _ _ = _
   cases pointOk p.from_ <;> simp only [cnd_true,cnd_false,Bool.false_and,Bool.true_and]
   show cnd (pointOk p.to) _ _ = _
   cases pointOk p.to <;> simp
  ·rw [iqf h2,cnd_false];simp [h2]
theorem loopI_tot {σ ρ:Type} {f:σ→Option (σ ⊕ ρ)} (I:σ→Prop) (Q:ρ→Prop) (rk:σ→Nat) (hs:∀ x,I x→(∃ y,f x = some (.inl y)∧I y∧rk y < rk x) ∨ (∃ r,f x = some (.inr r)∧Q r)) {x:σ} (hx:I x):∃ r,loopI f x = some r∧Q r:=by
 have key:∀ (n:Nat) (x:σ),rk x < n→I x→∃ r,loopI f x = some r∧Q r:=by
  intro n
  induction n with
  | zero=>intro x h;omega
  | succ n ih =>
   intro x h hI
   rcases hs x hI with ⟨y,h1,h2,h3⟩ | ⟨r,h1,h2⟩
   ·rw [loopI_go h1];exact ih y (by omega) h2
   ·exact ⟨r,loopI_end h1,h2⟩
 exact key (rk x + 1) x (by omega) hx
def need (v:Int):Int:=if v = 1 then 1 else if v = 2 then 1 else if v = 3 then 2 else if v = 4 then 3 else if v = 5 then 0 else -1
theorem m_NeedOf (v:Int):spec_NeedOf v = some (need v):=by
 unfold spec_NeedOf
 rw [m_spec_l01In,bnd_some]
 cases h:tin v 1 5 with
 | false =>
  have h':¬ (1 ≤ v∧v ≤ 5):=by rw [← tin_t,h];simp
  rw [cnd_false];unfold need
  rw [if_neg (by omega),if_neg (by omega),if_neg (by omega),if_neg (by omega),if_neg (by omega)]
 | true =>
  rw [tin_t] at h
  have:v = 1 ∨ v = 2 ∨ v = 3 ∨ v = 4 ∨ v = 5:=by omega
  rcases this with rfl | rfl | rfl | rfl | rfl <;> decide
theorem need_bd (v:Int):-1 ≤ need v∧need v ≤ 3:=by unfold need;repeat' split <;> omega
def nsum (vs:List Int) (i:Nat):Int:=((vs.take i).map need).sum
theorem nsum_succ {vs:List Int} {i:Nat} (h:i < vs.length):nsum vs (i + 1) = nsum vs i + need vs[i]:=by
 unfold nsum
 rw [List.take_add_one,List.getElem?_eq_getElem h,List.map_append,List.sum_append]
 simp
structure VOk (vs:List Int) (n:Int):Prop where
 all:∀ i (h:i < vs.length),0 ≤ need vs[i]
 one:∀ h:0 < vs.length,vs[0] = 1
 sum:nsum vs vs.length = n
theorem nsum_bd {vs:List Int}:∀ i,i ≤ vs.length→(∀ j (h:j < vs.length),j < i→0 ≤ need vs[j])→0 ≤ nsum vs i∧nsum vs i ≤ 3 * (i:Int):=by
 intro i
 induction i with
 | zero=>intro _ _;simp [nsum]
 | succ i ih =>
  intro hi h
  have h1:=ih (by omega) (fun j hj hji=>h j hj (by omega))
  have h2:=h i (by omega) (by omega)
  have h3:=need_bd vs[i]
  rw [nsum_succ (by omega)]
  omega
theorem pathOk_t (p:TPath):∃ b,spec_PathOk p = some b∧(b = true→p.verbs.length ≤ 24∧p.points.length ≤ 24∧VOk p.verbs (p.points.length:Int)):=by
 unfold spec_PathOk
 by_cases h1:(p.points.length:Int) ≤ 24
 case neg=>rw [ilf (by omega),cnd_false];exact ⟨false,rfl,fun h=>by cases h⟩
 by_cases h2:(p.verbs.length:Int) ≤ 24
 case neg=>rw [ilt h1,cnd_true,ilf (by omega),cnd_false];exact ⟨false,rfl,fun h=>by cases h⟩
 rw [ilt h1,ilt h2,cnd_true,cnd_true]
 obtain ⟨r,e1,e2⟩:=loopI_tot (f:=spec_PathOk_l0 p) (fun s=>∃ i:Nat,s.2 = (i:Int)∧i ≤ p.verbs.length∧s.1 = nsum p.verbs i∧(∀ j (h:j < p.verbs.length),j < i→0 ≤ need p.verbs[j])∧(∀ h:0 < p.verbs.length,0 < i→p.verbs[0] = 1))
  (fun r=>match r with | .inl y=>y = nsum p.verbs p.verbs.length∧(∀ j (h:j < p.verbs.length),0 ≤ need p.verbs[j])∧(∀ h:0 < p.verbs.length,p.verbs[0] = 1) | .inr _=>True) (fun s=>(p.verbs.length - s.2).toNat)
  (by
   rintro ⟨x,y⟩ ⟨i,hy,hi,hx,ha,ho⟩
   dsimp only at hy hx
   subst hy;subst hx
   have hb:=nsum_bd i hi ha
   rw [spec_PathOk_l0]
   by_cases hlt:i < p.verbs.length
   case neg =>
    right
    rw [ilt (by omega),cnd_true]
    have:i = p.verbs.length:=by omega
    subst this
    exact ⟨_,rfl,rfl,fun j h=>ha j h h,fun h=>ho h h⟩
   have nb:=need_bd p.verbs[i]
   rw [ilf (by omega),cnd_false,idx_nat hlt,bnd_some,m_NeedOf,bnd_some]
   by_cases hn:0 ≤ need p.verbs[i]
   case neg=>right;rw [ilf (by omega),cnd_false];exact ⟨_,rfl,trivial⟩
   rw [ilt hn,cnd_true,wr_in (n:=nsum p.verbs i + need p.verbs[i]) (by omega),wr_in (n:=(i:Int) + 1) (by omega)]
   have step:∀ ho':(∀ h:0 < p.verbs.length,p.verbs[0] = 1),∃ k:Nat,(nsum p.verbs i + need p.verbs[i],(i:Int) + 1).2 = (k:Int)∧k ≤ p.verbs.length∧(nsum p.verbs i + need p.verbs[i],(i:Int) + 1).1 = nsum p.verbs k∧(∀ j (h:j < p.verbs.length),j < k→0 ≤ need p.verbs[j])∧(∀ h:0 < p.verbs.length,0 < k→p.verbs[0] = 1):=by
    intro ho'
    refine ⟨i + 1,by simp,by omega,(nsum_succ hlt).symm,fun j h hj=>?_,fun h _=>ho' h⟩
    by_cases hji:j = i
    ·subst hji;exact hn
    ·exact ha j h (by omega)
   by_cases h0:i = 0
   ·subst h0
    have z:((0:Nat):Int) = 0:=rfl
    rw [z,iqt,cnd_true]
    by_cases hv:p.verbs[0] = 1
    ·left
     rw [hv,iqt,cnd_true]
     rw [hv] at step
     exact ⟨_,rfl,step (fun _=>hv),by (try dsimp only) <;> omega⟩
    ·right;rw [iqf hv,cnd_false];exact ⟨_,rfl,trivial⟩
   ·rw [iqf (by omega),cnd_false,wr_in (n:=(i:Int) - 1) (by omega)]
    obtain ⟨q,hq,_⟩:=idx_of (l:=p.verbs) (i:=(i:Int) - 1) (by omega) (by omega)
    have ho':∀ h:0 < p.verbs.length,p.verbs[0] = 1:=fun h=>ho h (by omega)
    rw [hq,bnd_some]
    by_cases h5:q = 5
    ·rw [h5,iqt,cnd_true]
     by_cases hv:p.verbs[i] = 1
     ·left
      rw [hv,iqt,cnd_true]
      rw [hv] at step
      exact ⟨_,rfl,step ho',by (try dsimp only) <;> omega⟩
     ·right;rw [iqf hv,cnd_false];exact ⟨_,rfl,trivial⟩
    ·left
     rw [iqf h5,cnd_false]
     exact ⟨_,rfl,step ho',by (try dsimp only) <;> omega⟩)
  (x:=(0,0)) ⟨0,rfl,by omega,by simp [nsum],fun j _ h=>by omega,fun _ h=>by omega⟩
 rw [e1,bnd_some]
 rcases r with y | u
 ·have key:=loopI_row (l:=p.points) (f:=spec_PathOk_l1 p y) (fun q=>tin q.x (-8388608) 8388608 && tin q.y (-8388608) 8388608) (by omega) (fun i hi=>by rw [spec_PathOk_l1,ilf (by omega),cnd_false,idx_nat hi,bnd_some,t_PointOk,bnd_some]) (by rw [spec_PathOk_l1,ilt (by omega),cnd_true])
  try dsimp only
  rw [key,bnd_some]
  cases p.points.all (fun q=>tin q.x (-8388608) 8388608 && tin q.y (-8388608) 8388608)
  ·exact ⟨false,rfl,fun h=>by cases h⟩
  ·refine ⟨ieq y (p.points.length:Int),rfl,fun h=>⟨by omega,by omega,e2.2.1,e2.2.2,?_⟩⟩
   have:y = (p.points.length:Int):=by simpa [ieq] using h
   rw [← e2.1];exact this
 ·exact ⟨false,rfl,fun h=>by cases h⟩
theorem loopI_congr {σ ρ:Type} {f g:σ→Option (σ ⊕ ρ)} (I:σ→Prop) (h:∀ x,I x→f x = g x) (hi:∀ x y,I x→f x = some (.inl y)→I y) {x:σ} (hx:I x):loopI f x = loopI g x:=by
 have key:∀ (k:Nat) (x:σ),I x→loopN' f k x = loopN' g k x:=by
  intro k
  induction k with
  | zero=>intro x _;rfl
  | succ k ih =>
   intro x hI
   rw [loopN',loopN',← h x hI]
   cases hf:f x with
   | none=>rfl
   | some o=>cases o with
    | inl y=>exact ih y (hi x y hI hf)
    | inr r=>rfl
 refine opt_ext fun r=>?_
 rw [loopI_iff,loopI_iff]
 constructor
 ·rintro ⟨k,hk⟩;exact ⟨k,by rw [← key k x hx];exact hk⟩
 ·rintro ⟨k,hk⟩;exact ⟨k,by rw [key k x hx];exact hk⟩
def matOk (m:TMat):Bool:=tin m.a (-1048576) 1048576 && tin m.b (-1048576) 1048576 && tin m.c (-1048576) 1048576 && tin m.d (-1048576) 1048576 && tin m.e (-8388608) 8388608 && tin m.f (-8388608) 8388608
theorem m_spec_MatOk (m:TMat):spec_MatOk m = some (matOk m):=by
 unfold spec_MatOk matOk
 have e:IntKind.i64.wrap (0 - 1048576) = -1048576:=by decide
 rw [e]
 simp only [m_spec_l01In,bnd_some]
 cases tin m.a (-1048576) 1048576 <;> cases tin m.b (-1048576) 1048576 <;> cases tin m.c (-1048576) 1048576 <;> cases tin m.d (-1048576) 1048576 <;> cases tin m.e (-8388608) 8388608 <;> simp
theorem m_impl_MatOk (m:TMat):impl_MatOk m = some (matOk m):=by
 unfold impl_MatOk matOk
 have key:=loopI_row (l:=[m.a,m.b,m.c,m.d]) (f:=impl_MatOk_l0 m) (fun x=>tin x (-1048576) 1048576) (by simp) (fun i hi=>by
  have hi':i < 4:=hi
  rw [impl_MatOk_l0,ilf (by omega),cnd_false,idx_nat hi,bnd_some,m_impl_inRange,bnd_some]) (by rw [impl_MatOk_l0,ilt (by simp),cnd_true])
 rw [key]
 unfold impl_isFar
 simp only [m_impl_inRange,bnd_some,List.all_cons,List.all_nil,Bool.and_true]
 cases tin m.a (-1048576) 1048576 <;> cases tin m.b (-1048576) 1048576 <;> cases tin m.c (-1048576) 1048576 <;> cases tin m.d (-1048576) 1048576 <;> cases tin m.e (-8388608) 8388608 <;> simp
theorem m_impl_NeedOf (v:Int):impl_NeedOf v = some (need v):=by
 unfold impl_NeedOf need
 by_cases h1:v = 1
 ·subst h1;simp [ieq]
 by_cases h2:v = 2
 ·subst h2;simp [ieq]
 by_cases h3:v = 3
 ·subst h3;simp [ieq]
 by_cases h4:v = 4
 ·subst h4;simp [ieq]
 by_cases h5:v = 5
 ·subst h5;simp [ieq]
 simp [ieq,h1,h2,h3,h4,h5]
theorem pathL0_eq (p:TPath) (hl:p.verbs.length ≤ 24):loopI (impl_PathOk_l0 p) (0,0) = loopI (spec_PathOk_l0 p) (0,0):=by
 refine loopI_congr (fun s=>∃ i:Nat,s.2 = (i:Int)∧i ≤ p.verbs.length) ?_ ?_ ⟨0,rfl,by omega⟩
 ·rintro ⟨x,y⟩ ⟨i,hy,hi⟩
  dsimp only at hy
  subst hy
  rw [impl_PathOk_l0,spec_PathOk_l0]
  by_cases hlt:i < p.verbs.length
  case neg=>rw [ilt (by omega),cnd_true,cnd_true]
  rw [ilf (by omega),cnd_false,cnd_false,idx_nat hlt,bnd_some,bnd_some,m_impl_NeedOf,m_NeedOf,bnd_some,bnd_some]
  by_cases h0:i = 0
  ·subst h0
   have z:((0:Nat):Int) = 0:=rfl
   rw [z,iqt,cnd_true,cnd_true]
  ·rw [iqf (by omega),cnd_false,cnd_false,wr_in (n:=(i:Int) - 1) (by omega)]
   obtain ⟨q,hq,_⟩:=idx_of (l:=p.verbs) (i:=(i:Int) - 1) (by omega) (by omega)
   rw [hq,bnd_some,bnd_some]
 ·rintro ⟨x,y⟩ ⟨x',y'⟩ ⟨i,hy,hi⟩ hf
  dsimp only at hy
  subst hy
  rw [impl_PathOk_l0] at hf
  by_cases hlt:i < p.verbs.length
  case neg=>rw [ilt (by omega),cnd_true] at hf;cases hf
  refine ⟨i + 1,?_,by omega⟩
  rw [ilf (by omega),cnd_false,idx_nat hlt,bnd_some,m_impl_NeedOf,bnd_some,wr_in (n:=(i:Int) + 1) (by omega)] at hf
  have fin:∀ {z:Int},(some (.inl (z,(i:Int) + 1)):Option ((Int×Int) ⊕ (Int ⊕ Unit))) = some (.inl (x',y'))→y' = ((i + 1:Nat):Int):=by
   intro z h;simp only [Option.some.injEq,Sum.inl.injEq,Prod.mk.injEq] at h;omega
  by_cases h0:i = 0
  ·subst h0
   have z:((0:Nat):Int) = 0:=rfl
   rw [z,iqt,cnd_true] at hf
   cases h1:ile 0 (need p.verbs[0]) <;> rw [h1] at hf
   ·cases hf
   ·rw [cnd_true] at hf
    cases h2:ieq p.verbs[0] 1 <;> rw [h2] at hf
    ·cases hf
    ·exact fin hf
  ·rw [iqf (by omega),cnd_false,wr_in (n:=(i:Int) - 1) (by omega)] at hf
   obtain ⟨q,hq,_⟩:=idx_of (l:=p.verbs) (i:=(i:Int) - 1) (by omega) (by omega)
   rw [hq,bnd_some] at hf
   cases h1:ile 0 (need p.verbs[i]) <;> rw [h1] at hf
   ·cases hf
   ·rw [cnd_true] at hf
    cases h3:ieq q 5 <;> rw [h3] at hf
    ·exact fin hf
    ·rw [cnd_true] at hf
     cases h2:ieq p.verbs[i] 1 <;> rw [h2] at hf
     ·cases hf
     ·exact fin hf
theorem pathL0_t (p:TPath) (hl:p.verbs.length ≤ 24):∃ r,loopI (spec_PathOk_l0 p) (0,0) = some r:=by
 obtain ⟨r,e,_⟩:=loopI_tot (f:=spec_PathOk_l0 p) (fun s=>∃ i:Nat,s.2 = (i:Int)∧i ≤ p.verbs.length) (fun _=>True) (fun s=>((p.verbs.length:Int) - s.2).toNat)
  (by
   rintro ⟨x,y⟩ ⟨i,hy,hi⟩
   dsimp only at hy
   subst hy
   rw [spec_PathOk_l0]
   by_cases hlt:i < p.verbs.length
   case neg=>right;rw [ilt (by omega),cnd_true];exact ⟨_,rfl,trivial⟩
   rw [ilf (by omega),cnd_false,idx_nat hlt,bnd_some,m_NeedOf,bnd_some,wr_in (n:=(i:Int) + 1) (by omega)]
   have fin:∀ z:Int,∃ y:Int×Int,(some (.inl (z,(i:Int) + 1)):Option ((Int×Int) ⊕ (Int ⊕ Unit))) = some (.inl y)∧(∃ k:Nat,y.2 = (k:Int)∧k ≤ p.verbs.length)∧((p.verbs.length:Int) - y.2).toNat < ((p.verbs.length:Int) - (x,(i:Int)).2).toNat:=by
    intro z
    exact ⟨_,rfl,⟨i + 1,by simp,by omega⟩,by (try dsimp only) <;> omega⟩
   cases ile 0 (need p.verbs[i])
   ·right;exact ⟨_,rfl,trivial⟩
   rw [cnd_true]
   by_cases h0:i = 0
   ·subst h0
    have z:((0:Nat):Int) = 0:=rfl
    rw [z,iqt,cnd_true]
    cases ieq p.verbs[0] 1
    ·right;exact ⟨_,rfl,trivial⟩
    ·left;exact fin _
   ·rw [iqf (by omega),cnd_false,wr_in (n:=(i:Int) - 1) (by omega)]
    obtain ⟨q,hq,_⟩:=idx_of (l:=p.verbs) (i:=(i:Int) - 1) (by omega) (by omega)
    rw [hq,bnd_some]
    cases ieq q 5
    ·left;exact fin _
    ·rw [cnd_true]
     cases ieq p.verbs[i] 1
     ·right;exact ⟨_,rfl,trivial⟩
     ·left;exact fin _)
  (x:=(0,0)) ⟨0,rfl,by omega⟩
 exact ⟨r,e⟩
theorem s_PathOk (p:TPath):impl_PathOk p = spec_PathOk p∧∃ b,spec_PathOk p = some b:=by
 obtain ⟨b,e,_⟩:=pathOk_t p
 refine ⟨?_,b,e⟩
 unfold impl_PathOk spec_PathOk
 by_cases h1:(p.points.length:Int) ≤ 24
 case neg=>rw [ilf (by omega),cnd_false,cnd_false]
 by_cases h2:(p.verbs.length:Int) ≤ 24
 case neg=>rw [ilt h1,cnd_true,cnd_true,ilf (by omega),cnd_false,cnd_false]
 rw [ilt h1,ilt h2]
 simp only [cnd_true]
 obtain ⟨r,er⟩:=pathL0_t p (by omega)
 rw [pathL0_eq p (by omega),er]
 have k1:=loopI_row (l:=p.points) (f:=impl_pointsOk_l0 p.points) (fun q=>tin q.x (-8388608) 8388608 && tin q.y (-8388608) 8388608) (by omega) (fun i hi=>by rw [impl_pointsOk_l0,ilf (by omega),cnd_false,idx_nat hi,bnd_some,s_PointOk,t_PointOk,bnd_some]) (by rw [impl_pointsOk_l0,ilt (by omega),cnd_true])
 unfold impl_pointsOk
 rw [k1]
 simp only [bnd_some]
 rcases r with y | u
 ·have k2:=loopI_row (l:=p.points) (f:=spec_PathOk_l1 p y) (fun q=>tin q.x (-8388608) 8388608 && tin q.y (-8388608) 8388608) (by omega) (fun i hi=>by rw [spec_PathOk_l1,ilf (by omega),cnd_false,idx_nat hi,bnd_some,t_PointOk,bnd_some]) (by rw [spec_PathOk_l1,ilt (by omega),cnd_true])
  simp only
  rw [k2]
  cases p.points.all (fun q=>tin q.x (-8388608) 8388608 && tin q.y (-8388608) 8388608) <;> rfl
 ·simp only
  cases p.points.all (fun q=>tin q.x (-8388608) 8388608 && tin q.y (-8388608) 8388608) <;> rfl
theorem s_DashOk {l:List Int} (hl:l.length ≤ 1048576):impl_DashOk l = spec_DashOk l∧∃ b,spec_DashOk l = some b:=by
 have k1:=loopI_row (l:=l) (f:=impl_DashOk_l0 l) (fun x=>tin x 1 20000) (by omega) (fun i hi=>by rw [impl_DashOk_l0,ilf (by omega),cnd_false,idx_nat hi,bnd_some,m_impl_inRange,bnd_some]) (by rw [impl_DashOk_l0,ilt (by omega),cnd_true])
 have k2:=loopI_row (l:=l) (f:=spec_DashOk_l0 l) (fun x=>tin x 1 20000) (by omega) (fun i hi=>by rw [spec_DashOk_l0,ilf (by omega),cnd_false,idx_nat hi,bnd_some,m_spec_l01In,bnd_some]) (by rw [spec_DashOk_l0,ilt (by omega),cnd_true])
 unfold impl_DashOk spec_DashOk
 rw [k1,k2]
 cases l.all (fun x=>tin x 1 20000)
 ·(first | exact ⟨rfl,_,rfl⟩ | exact ⟨trivial,_,rfl⟩)
 ·simp only [if_true,bnd_some]
  cases ieq ((l.length:Int).tmod 2) 0 <;> (first | exact ⟨rfl,_,rfl⟩ | exact ⟨trivial,_,rfl⟩)
theorem s_NodeOk {x:TNode} (hl:x.dashes.length ≤ 1048576):impl_NodeOk x = spec_NodeOk x∧∃ b,spec_NodeOk x = some b:=by
 obtain ⟨d1,db,d2⟩:=s_DashOk hl
 obtain ⟨p1,pb,p2⟩:=s_PathOk x.path
 obtain ⟨q1,qb,q2⟩:=s_PathOk x.clip
 unfold impl_NodeOk spec_NodeOk impl_isMode impl_Path_isNone spec_l15NoPath spec_l15NoPaint
 rw [d1,d2,p1,p2,q1,q2]
 simp only [m_impl_inRange,m_spec_l01In,bnd_some,m_impl_MatOk,m_spec_MatOk,m_impl_isByte,m_impl_PaintOk,m_spec_PaintOk]
 cases tin x.id 1 99
 ·(first | exact ⟨rfl,_,rfl⟩ | exact ⟨trivial,_,rfl⟩)
 cases tin x.parent 0 99
 ·(first | exact ⟨rfl,_,rfl⟩ | exact ⟨trivial,_,rfl⟩)
 cases ieq x.id x.parent
 case true=>(first | exact ⟨rfl,_,rfl⟩ | exact ⟨trivial,_,rfl⟩)
 cases matOk x.mat
 ·(first | exact ⟨rfl,_,rfl⟩ | exact ⟨trivial,_,rfl⟩)
 cases pb
 ·(first | exact ⟨rfl,_,rfl⟩ | exact ⟨trivial,_,rfl⟩)
 cases qb
 ·(first | exact ⟨rfl,_,rfl⟩ | exact ⟨trivial,_,rfl⟩)
 cases tin x.width 0 2048
 ·(first | exact ⟨rfl,_,rfl⟩ | exact ⟨trivial,_,rfl⟩)
 cases db
 ·(first | exact ⟨rfl,_,rfl⟩ | exact ⟨trivial,_,rfl⟩)
 cases tin x.mode 1 5
 ·(first | exact ⟨rfl,_,rfl⟩ | exact ⟨trivial,_,rfl⟩)
 cases tin x.fade 0 255
 ·(first | exact ⟨rfl,_,rfl⟩ | exact ⟨trivial,_,rfl⟩)
 cases x.group
 ·(first | exact ⟨rfl,_,rfl⟩ | exact ⟨trivial,_,rfl⟩)
 simp only [cnd_true,cnd_false]
 generalize (andB (decide (x.paint.kind = 0)) _) = u
 cases u <;> cases ieq (x.path.verbs.length:Int) 0 <;> simp only [cnd_true,cnd_false,bnd_some]
 ·(first | exact ⟨rfl,_,rfl⟩ | exact ⟨trivial,_,rfl⟩)
 ·cases ieq (x.path.points.length:Int) 0 <;> (first | exact ⟨rfl,_,rfl⟩ | exact ⟨trivial,_,rfl⟩)
 ·(first | exact ⟨rfl,_,rfl⟩ | exact ⟨trivial,_,rfl⟩)
 ·cases ieq (x.path.points.length:Int) 0 <;> simp only [cnd_true,cnd_false]
  ·(first | exact ⟨rfl,_,rfl⟩ | exact ⟨trivial,_,rfl⟩)
  ·cases ieq x.width 0 <;> simp only [cnd_true,cnd_false]
   ·(first | exact ⟨rfl,_,rfl⟩ | exact ⟨trivial,_,rfl⟩)
   ·cases ieq (x.dashes.length:Int) 0 <;> (first | exact ⟨rfl,_,rfl⟩ | exact ⟨trivial,_,rfl⟩)
def nodeAt (s:TScene) (id:Int):Int:=fst (fun k=>ieq k.id id) s.nodes
theorem fst_in {α:Type} {q:α→Bool} {l:List α} (h:0 ≤ fst q l):∃ x,idx l (fst q l) = some x:=by
 unfold fst at h ⊢
 cases hq:l.findIdx? q with
 | none=>rw [hq] at h;simp at h
 | some i =>
  rw [List.findIdx?_eq_some_iff_getElem] at hq
  obtain ⟨h1,_⟩:=hq
  exact ⟨_,idx_nat h1⟩
theorem m_impl_NodeAt {s:TScene} {id:Int} (h:s.nodes.length ≤ 1048576):impl_NodeAt s id = some (nodeAt s id):=by
 unfold impl_NodeAt slices_IndexFunc_Node_NodeAt_1
 have e:s.nodes.length ≤ 9223372036854775807:=by omega
 rw [loopI_index (l:=s.nodes) (fun k=>ieq k.id id) (.inl ()) .inr e (fun i hi=>?_) ?_]
 ·unfold nodeAt fst
  cases List.findIdx? (fun k:TNode=>ieq k.id id) s.nodes <;> rfl
 ·rw [slices_IndexFunc_Node_NodeAt_1_l0,ilt (by omega),cnd_true]
 ·rw [slices_IndexFunc_Node_NodeAt_1_l0,ilf (by omega),cnd_false,idx_nat hi,bnd_some,impl_NodeAt_1,bnd_some]
theorem m_spec_NodeAt {s:TScene} {id:Int} (h:s.nodes.length ≤ 1048576):spec_NodeAt s id = some (nodeAt s id):=by
 unfold spec_NodeAt
 have e:s.nodes.length ≤ 9223372036854775807:=by omega
 rw [loopI_index (l:=s.nodes) (fun k=>ieq k.id id) (.inl ()) .inr e (fun i hi=>?_) ?_]
 ·unfold nodeAt fst
  cases List.findIdx? (fun k:TNode=>ieq k.id id) s.nodes <;> rfl
 ·rw [spec_NodeAt_l0,ilt (by omega),cnd_true]
 ·rw [spec_NodeAt_l0,ilf (by omega),cnd_false,idx_nat hi,bnd_some]
def outI:Int ⊕ Unit→Int
 | .inl y=>y
 | .inr _=>0
theorem depth_eq {s:TScene} (h:s.nodes.length ≤ 1048576):∀ (m:Nat) (n:Int) (id:Int),n + (m:Int) = 9→1 ≤ n→id ≠ 0→∃ q q',loopI (impl_DepthOf_l0 s) (id,n) = some q∧loopI (spec_DepthOf_l0 s) (id,n - 1,n - 1) = some q'∧outI q = outI q':=by
 intro m
 induction m with
 | zero =>
  intro n id hn h1 hid
  have:n = 9:=by omega
  subst this
  have e1:loopI (impl_DepthOf_l0 s) (id,9) = some (.inr ()):=loopI_end (by rw [impl_DepthOf_l0,ilf (by omega),cnd_false])
  by_cases ha:0 ≤ nodeAt s id
  ·obtain ⟨x,hx⟩:=fst_in ha
   have hx':idx s.nodes (nodeAt s id) = some x:=hx
   have e2:spec_DepthOf_l0 s (id,9 - 1,9 - 1) = some (.inl (x.parent,9,9)):=by
    rw [spec_DepthOf_l0,ilt (by omega),cnd_true,iqf hid,cnd_false,m_spec_NodeAt h,bnd_some,ilt ha,cnd_true,hx',bnd_some,wr_in (by omega)];rfl
   have e3:loopI (spec_DepthOf_l0 s) (x.parent,9,9) = some (.inr ()):=loopI_end (by rw [spec_DepthOf_l0,ilf (by omega),cnd_false])
   exact ⟨_,_,e1,by rw [loopI_go e2];exact e3,rfl⟩
  ·have e2:loopI (spec_DepthOf_l0 s) (id,9 - 1,9 - 1) = some (.inl 0):=loopI_end (by
    rw [spec_DepthOf_l0,ilt (by omega),cnd_true,iqf hid,cnd_false,m_spec_NodeAt h,bnd_some,ilf (by omega),cnd_false])
   exact ⟨_,_,e1,e2,rfl⟩
 | succ m ih =>
  intro n id hn h1 hid
  by_cases ha:0 ≤ nodeAt s id
  ·obtain ⟨x,hx⟩:=fst_in ha
   have hx':idx s.nodes (nodeAt s id) = some x:=hx
   have e2:spec_DepthOf_l0 s (id,n - 1,n - 1) = some (.inl (x.parent,n,n)):=by
    rw [spec_DepthOf_l0,ilt (by omega),cnd_true,iqf hid,cnd_false,m_spec_NodeAt h,bnd_some,ilt ha,cnd_true,hx',bnd_some,wr_in (by omega),show n - 1 + 1 = n by omega]
   by_cases hp:x.parent = 0
   ·have e1:loopI (impl_DepthOf_l0 s) (id,n) = some (.inl n):=loopI_end (by
     rw [impl_DepthOf_l0,ilt (by omega),cnd_true,m_impl_NodeAt h,bnd_some,ilt ha,cnd_true,hx',bnd_some,hp,iqt,cnd_true])
    have e3:loopI (spec_DepthOf_l0 s) (x.parent,n,n) = some (.inl n):=loopI_end (by rw [spec_DepthOf_l0,ilt (by omega),cnd_true,hp,iqt,cnd_true])
    exact ⟨_,_,e1,by rw [loopI_go e2];exact e3,rfl⟩
   ·have e1:impl_DepthOf_l0 s (id,n) = some (.inl (x.parent,n + 1)):=by
     rw [impl_DepthOf_l0,ilt (by omega),cnd_true,m_impl_NodeAt h,bnd_some,ilt ha,cnd_true,hx',bnd_some,iqf hp,cnd_false,wr_in (by omega)]
    obtain ⟨q,q',f1,f2,f3⟩:=ih (n + 1) x.parent (by omega) (by omega) hp
    have f2':loopI (spec_DepthOf_l0 s) (x.parent,n,n) = some q':=by
     rw [show n + 1 - 1 = n by omega] at f2;exact f2
    exact ⟨q,q',by rw [loopI_go e1];exact f1,by rw [loopI_go e2];exact f2',f3⟩
  ·have e1:loopI (impl_DepthOf_l0 s) (id,n) = some (.inl 0):=loopI_end (by
    rw [impl_DepthOf_l0,ilt (by omega),cnd_true,m_impl_NodeAt h,bnd_some,ilf (by omega),cnd_false])
   have e2:loopI (spec_DepthOf_l0 s) (id,n - 1,n - 1) = some (.inl 0):=loopI_end (by
    rw [spec_DepthOf_l0,ilt (by omega),cnd_true,iqf hid,cnd_false,m_spec_NodeAt h,bnd_some,ilf (by omega),cnd_false])
   exact ⟨_,_,e1,e2,rfl⟩
theorem s_DepthOf {s:TScene} (h:s.nodes.length ≤ 1048576) (id:Int):∃ v,impl_DepthOf s id = some v∧spec_DepthOf s id = some v:=by
 unfold impl_DepthOf spec_DepthOf
 by_cases hid:id = 0
 ·subst hid
  have e:loopI (spec_DepthOf_l0 s) (0,0,0) = some (.inl 0):=loopI_end (by rw [spec_DepthOf_l0,ilt (by omega),cnd_true,iqt,cnd_true])
  rw [iqt,cnd_true,e]
  exact ⟨0,rfl,rfl⟩
 ·obtain ⟨q,q',e1,e2,e3⟩:=depth_eq h 8 1 id (by omega) (by omega) hid
  have e2':loopI (spec_DepthOf_l0 s) (id,0,0) = some q':=e2
  rw [iqf hid,cnd_false,e1,e2']
  refine ⟨outI q,?_,?_⟩
  ·cases q <;> rfl
  ·rw [e3];cases q' <;> rfl
structure RowsS (s:TScene):Prop where
 n:s.nodes.length ≤ 1048576
 d:∀ x ∈ s.nodes,x.dashes.length ≤ 1048576
theorem s_SceneOk {s:TScene} (h:RowsS s):impl_SceneOk s = spec_SceneOk s∧∃ b,spec_SceneOk s = some b:=by
 have hn:=h.n
 unfold impl_SceneOk spec_SceneOk
 by_cases h8:(s.nodes.length:Int) ≤ 8
 case neg=>rw [ilf (by omega),cnd_false,cnd_false];(first | exact ⟨rfl,_,rfl⟩ | exact ⟨trivial,_,rfl⟩)
 rw [ilt h8,cnd_true,cnd_true]
 have step:∀ (i:Nat) (hi:i < s.nodes.length),∃ b:Bool,impl_SceneOk_l0 s (i:Int) = cnd b (some (.inl (IntKind.i64.wrap ((i:Int) + 1)))) (some (.inr (.inr ())))∧spec_SceneOk_l0 s (i:Int) = cnd b (some (.inl (IntKind.i64.wrap ((i:Int) + 1)))) (some (.inr (.inr ()))):=by
  intro i hi
  obtain ⟨n1,nb,n2⟩:=s_NodeOk (h.d _ (List.getElem_mem hi))
  obtain ⟨v,v1,v2⟩:=s_DepthOf hn (s.nodes[i]).id
  rw [impl_SceneOk_l0,spec_SceneOk_l0,ilf (by omega),cnd_false,cnd_false,idx_nat hi,bnd_some,bnd_some,n1,n2,bnd_some,bnd_some]
  cases nb
  ·exact ⟨false,rfl,rfl⟩
  rw [cnd_true,cnd_true,m_impl_NodeAt hn,m_spec_NodeAt hn,bnd_some,bnd_some]
  cases ieq (nodeAt s (s.nodes[i]).id) (i:Int)
  ·exact ⟨false,rfl,rfl⟩
  rw [cnd_true,cnd_true,v2,bnd_some,m_spec_l01In,bnd_some,m_spec_NodeAt hn]
  unfold impl_Scene_isParent
  rw [m_impl_NodeAt hn,bnd_some]
  by_cases hp:(s.nodes[i]).parent = 0
  ·rw [hp,iqt,cnd_true,bnd_some,cnd_true,v1,bnd_some,m_impl_inRange,bnd_some,bnd_some,cnd_true]
   exact ⟨tin v 1 4,rfl,rfl⟩
  ·rw [iqf hp,cnd_false,bnd_some,cnd_false]
   by_cases ha:0 ≤ nodeAt s (s.nodes[i]).parent
   ·obtain ⟨x,hx⟩:=fst_in ha
    have hx':idx s.nodes (nodeAt s (s.nodes[i]).parent) = some x:=hx
    rw [ilt ha,cnd_true,cnd_true,hx',bnd_some,bnd_some,bnd_some,v1,bnd_some,m_impl_inRange,bnd_some]
    refine ⟨x.group && tin v 1 4,?_,?_⟩
    ·cases x.group <;> cases tin v 1 4 <;> rfl
    ·cases x.group <;> cases tin v 1 4 <;> rfl
   ·rw [ilf (by omega),cnd_false,cnd_false,bnd_some,cnd_false]
    refine ⟨false,rfl,?_⟩
    cases tin v 1 4 <;> rfl
 have hc:∀ (i:Nat),∃ b:Bool,∀ hi:i < s.nodes.length,impl_SceneOk_l0 s (i:Int) = cnd b (some (.inl (IntKind.i64.wrap ((i:Int) + 1)))) (some (.inr (.inr ())))∧spec_SceneOk_l0 s (i:Int) = cnd b (some (.inl (IntKind.i64.wrap ((i:Int) + 1)))) (some (.inr (.inr ()))):=by
  intro i
  by_cases hi:i < s.nodes.length
  ·obtain ⟨b,h1⟩:=step i hi;exact ⟨b,fun _=>h1⟩
  ·exact ⟨false,fun h=>absurd h hi⟩
 let B:Nat→Bool:=fun i=>(hc i).choose
 have hB:∀ i (hi:i < s.nodes.length),impl_SceneOk_l0 s (i:Int) = cnd (B i) (some (.inl (IntKind.i64.wrap ((i:Int) + 1)))) (some (.inr (.inr ())))∧spec_SceneOk_l0 s (i:Int) = cnd (B i) (some (.inl (IntKind.i64.wrap ((i:Int) + 1)))) (some (.inr (.inr ()))):=fun i hi=>(hc i).choose_spec hi
 have k1:=loopI_all (f:=impl_SceneOk_l0 s) s.nodes.length B (by omega) (fun i hi=>(hB i hi).1) (by rw [impl_SceneOk_l0,ilt (by omega),cnd_true])
 have k2:=loopI_all (f:=spec_SceneOk_l0 s) s.nodes.length B (by omega) (fun i hi=>(hB i hi).2) (by rw [spec_SceneOk_l0,ilt (by omega),cnd_true])
 rw [k1,k2]
 cases (List.range s.nodes.length).all B <;> (first | exact ⟨rfl,_,rfl⟩ | exact ⟨trivial,_,rfl⟩)
structure NB (x:TNode):Prop where
 v:x.path.verbs.length ≤ 1048576
 p:x.path.points.length ≤ 1048576
 d:x.dashes.length ≤ 1048576
 cv:x.clip.verbs.length ≤ 1048576
 cp:x.clip.points.length ≤ 1048576
theorem m_spec_copyPath {p:TPath} (h:p.verbs.length ≤ 1048576) (h1:p.points.length ≤ 1048576):spec_l15CopyPath p = some p:=by
 unfold spec_l15CopyPath
 rw [chkP_pos (by omega),nam_eq,chkP_pos (by omega),nam_eq]
 simp
theorem m_spec_copyNode {x:TNode} (h:NB x):spec_l15CopyNode x = some x:=by
 unfold spec_l15CopyNode
 have:=h.d
 rw [m_spec_copyPath h.v h.p,bnd_some,m_spec_copyPath h.cv h.cp,bnd_some,chkP_pos (by omega),nam_eq]
 simp
theorem copy_loop {α:Type} {l:List α} {f:Int×List α→Option ((Int×List α) ⊕ (List α))} (hs:∀ (i:Nat) (h:i < l.length),f ((i:Int),l.take i) = some (.inl (((i + 1:Nat):Int),l.take i ++ [l[i]]))) (he:f ((l.length:Int),l) = some (.inr l)):loopI f (0,[]) = some l:=by
 have key:=loopI_n (f:=f) (fun i=>((i:Int),l.take i)) l.length (r:=l) (fun i hi=>?_) (by (try dsimp only);rw [List.take_length];exact he)
 ·exact key
 ·try dsimp only
  rw [hs i hi,List.take_add_one,List.getElem?_eq_getElem hi];rfl
structure SB (s:TScene):Prop where
 n:s.nodes.length ≤ 1048576
 x:∀ y ∈ s.nodes,NB y
theorem SB.rows {s:TScene} (h:SB s):RowsS s:=⟨h.n,fun y hy=>(h.x y hy).d⟩
theorem isParent_t {s:TScene} (h:s.nodes.length ≤ 1048576) (p:Int):∃ b,impl_Scene_isParent s p = some b∧(b = true ↔ p = 0 ∨ ∃ y,idx s.nodes (nodeAt s p) = some y∧y.group = true):=by
 unfold impl_Scene_isParent
 rw [m_impl_NodeAt h,bnd_some]
 by_cases hp:p = 0
 ·rw [hp,iqt,cnd_true];exact ⟨true,rfl,by simp⟩
 rw [iqf hp,cnd_false]
 by_cases ha:0 ≤ nodeAt s p
 ·obtain ⟨x,hx⟩:=fst_in ha
  have hx':idx s.nodes (nodeAt s p) = some x:=hx
  rw [ilt ha,cnd_true,hx',bnd_some]
  exact ⟨_,rfl,by simp [hp]⟩
 ·rw [ilf (by omega),cnd_false]
  refine ⟨false,rfl,?_⟩
  have:idx s.nodes (nodeAt s p) = none:=by unfold idx;rw [if_neg ha]
  simp [hp,this]
structure GoodAt (s:TScene) (i:Nat) (y:TNode):Prop where
 ok:impl_NodeOk y = some true
 at':nodeAt s y.id = (i:Int)
 par:y.parent = 0 ∨ ∃ z,idx s.nodes (nodeAt s y.parent) = some z∧z.group = true
 dep:∃ d,impl_DepthOf s y.id = some d∧tin d 1 4 = true
theorem sceneOk_iff {s:TScene} (h:RowsS s):impl_SceneOk s = some true ↔ s.nodes.length ≤ 8∧∀ (i:Nat) (hi:i < s.nodes.length),GoodAt s i s.nodes[i]:=by
 have hn:=h.n
 unfold impl_SceneOk
 by_cases h8:(s.nodes.length:Int) ≤ 8
 case neg=>rw [ilf (by omega),cnd_false];simp;omega
 rw [ilt h8,cnd_true]
 have step:∀ (i:Nat) (hi:i < s.nodes.length),∃ b:Bool,impl_SceneOk_l0 s (i:Int) = cnd b (some (.inl (IntKind.i64.wrap ((i:Int) + 1)))) (some (.inr (.inr ())))∧(b = true ↔ GoodAt s i s.nodes[i]):=by
  intro i hi
  obtain ⟨n1,nb,n2⟩:=s_NodeOk (h.d _ (List.getElem_mem hi))
  obtain ⟨v,v1,v2⟩:=s_DepthOf hn (s.nodes[i]).id
  obtain ⟨pb,p1,p2⟩:=isParent_t hn (s.nodes[i]).parent
  rw [impl_SceneOk_l0,ilf (by omega),cnd_false,idx_nat hi,bnd_some,n1,n2,bnd_some]
  cases nb with
  | false=>exact ⟨false,rfl,by simp;intro g;have:=g.ok;rw [n1,n2] at this;cases this⟩
  | true =>
   rw [cnd_true,m_impl_NodeAt hn,bnd_some]
   by_cases ha:nodeAt s (s.nodes[i]).id = (i:Int)
   case neg=>rw [iqf ha];exact ⟨false,rfl,by simp;intro g;exact ha g.at'⟩
   rw [ha,iqt,cnd_true,p1,bnd_some]
   cases pb with
   | false=>exact ⟨false,rfl,by simp;intro g;have:=p2.2 g.par;cases this⟩
   | true =>
    rw [cnd_true,v1,bnd_some,m_impl_inRange,bnd_some]
    refine ⟨tin v 1 4,?_,fun ht=>⟨by rw [n1,n2],ha,p2.1 rfl,v,v1,ht⟩,fun g=>?_⟩
    ·cases tin v 1 4 <;> rfl
    ·obtain ⟨d,d1,d2⟩:=g.dep
     rw [v1] at d1;cases d1;exact d2
 have hc:∀ (i:Nat),∃ b:Bool,∀ hi:i < s.nodes.length,impl_SceneOk_l0 s (i:Int) = cnd b (some (.inl (IntKind.i64.wrap ((i:Int) + 1)))) (some (.inr (.inr ())))∧(b = true ↔ GoodAt s i s.nodes[i]):=by
  intro i
  by_cases hi:i < s.nodes.length
  ·obtain ⟨b,h1⟩:=step i hi;exact ⟨b,fun _=>h1⟩
  ·exact ⟨false,fun h=>absurd h hi⟩
 let B:Nat→Bool:=fun i=>(hc i).choose
 have hB:∀ i (hi:i < s.nodes.length),impl_SceneOk_l0 s (i:Int) = cnd (B i) (some (.inl (IntKind.i64.wrap ((i:Int) + 1)))) (some (.inr (.inr ())))∧(B i = true ↔ GoodAt s i s.nodes[i]):=fun i hi=>(hc i).choose_spec hi
 have k1:=loopI_all (f:=impl_SceneOk_l0 s) s.nodes.length B (by omega) (fun i hi=>(hB i hi).1) (by rw [impl_SceneOk_l0,ilt (by omega),cnd_true])
 rw [k1]
 have e:(List.range s.nodes.length).all B = true ↔ ∀ (i:Nat) (hi:i < s.nodes.length),GoodAt s i s.nodes[i]:=by
  rw [List.all_eq_true]
  exact ⟨fun k i hi=>(hB i hi).2.1 (k i (List.mem_range.2 hi)),fun k i hi=>(hB i (List.mem_range.1 hi)).2.2 (k i (List.mem_range.1 hi))⟩
 cases hA:(List.range s.nodes.length).all B with
 | true=>simp only [if_true,bnd_some];exact ⟨fun _=>⟨by omega,e.1 hA⟩,fun _=>trivial⟩
 | false =>
  simp only [Bool.false_eq_true,if_false,bnd_some]
  refine ⟨fun hx=>by simp at hx,fun hx=>?_⟩
  rw [e.2 hx.2] at hA;cases hA
theorem idx_toNat {α:Type} {l:List α} {i:Int} {x:α} (h:idx l i = some x):0 ≤ i∧i.toNat < l.length∧l[i.toNat]? = some x:=by
 unfold idx at h
 split at h
 ·rename_i h0
  exact ⟨h0,(List.getElem?_eq_some_iff.1 h).1,h⟩
 ·cases h
theorem nodeOk_parent {x:TNode} {p:Int} (hx:x.dashes.length ≤ 1048576) (h:impl_NodeOk x = some true) (hp:tin p 0 99 = true) (hne:x.id ≠ p) :
  impl_NodeOk ⟨x.id,p,x.group,x.mat,x.path,x.even,x.width,x.dashes,x.paint,x.mode,x.fade,x.clip⟩ = some true:=by
 revert h
 unfold impl_NodeOk
 simp only [m_impl_inRange,bnd_some,hp,cnd_true,iqf hne,cnd_false]
 cases tin x.id 1 99 <;> simp only [cnd_true,cnd_false] <;> try (intro h;exact h)
 cases tin x.parent 0 99 <;> simp only [cnd_true,cnd_false] <;> try (intro h;cases h)
 cases ieq x.id x.parent <;> simp only [cnd_true,cnd_false] <;> try (intro h;cases h)
 exact fun h=>h
theorem nodeOk_par {x:TNode} (h:impl_NodeOk x = some true):tin x.parent 0 99 = true∧x.id ≠ x.parent∧tin x.id 1 99 = true:=by
 revert h
 unfold impl_NodeOk
 simp only [m_impl_inRange,bnd_some]
 cases tin x.id 1 99 <;> simp only [cnd_true,cnd_false] <;> try (intro h;cases h)
 cases tin x.parent 0 99 <;> simp only [cnd_true,cnd_false] <;> try (intro h;cases h)
 by_cases he:x.id = x.parent
 ·rw [he,iqt];intro h;cases h
 ·intro _;exact ⟨trivial,he,trivial⟩
theorem fst_cases {α:Type} (q:α→Bool) (l:List α):(fst q l = -1∧∀ x ∈ l,q x = false) ∨ ∃ (i:Nat) (hi:i < l.length),fst q l = (i:Int)∧q l[i] = true∧∀ (k:Nat) (hk:k < i),q l[k] = false:=by
 unfold fst
 cases h:l.findIdx? q with
 | none=>exact .inl ⟨rfl,List.findIdx?_eq_none_iff.1 h⟩
 | some i =>
  obtain ⟨hi,h1,h2⟩:=List.findIdx?_eq_some_iff_getElem.1 h
  exact .inr ⟨i,hi,rfl,h1,fun k hk=>by simpa using h2 k hk⟩
theorem filter_take_succ {α:Type} {p:α→Bool} {l:List α} {j:Nat} (hj:j < l.length):(l.take (j + 1)).filter p = (l.take j).filter p ++ (if p l[j] then [l[j]] else []):=by
 rw [List.take_add_one,List.getElem?_eq_getElem hj,List.filter_append]
 congr 1
 simp only [Option.toList,List.filter_cons,List.filter_nil]
theorem m_Index {l:List Int} {x:Int} (h:l.length ≤ 1048576):slices_Index_int l x = some (fst (fun y=>ieq x y) l):=by
 unfold slices_Index_int
 rw [loopI_index (l:=l) (fun y=>ieq x y) (.inl ()) .inr (by omega) (fun i hi=>?_) ?_]
 ·unfold fst
  cases List.findIdx? (fun y=>ieq x y) l <;> rfl
 ·rw [slices_Index_int_l0,ilt (by omega),cnd_true]
 ·rw [slices_Index_int_l0,ilf (by omega),cnd_false,idx_nat hi,bnd_some]
def isIn (x:Int) (l:List Int):Bool:=l.any fun y=>ieq x y
theorem m_Contains {l:List Int} {x:Int} (h:l.length ≤ 1048576):slices_Contains_int l x = some (isIn x l):=by
 unfold slices_Contains_int
 rw [m_Index h,bnd_some]
 congr 1
 unfold isIn
 rcases fst_cases (fun y=>ieq x y) l with ⟨h1,h2⟩ | ⟨i,hi,h1,h2,_⟩
 ·rw [h1,ilf (by omega)]
  symm
  rw [List.any_eq_false]
  intro y hy;simpa using h2 y hy
 ·rw [h1,ilt (by omega)]
  symm
  rw [List.any_eq_true]
  exact ⟨_,List.getElem_mem hi,h2⟩
def upOf (s:TScene) (id:Int):Option Int:=(idx s.nodes (nodeAt s id)).map (·.parent)
def dl (p:Int→Option Int):Nat→Int→Int→Int
 | 0,_,_=>0
 | f + 1,id,n=>match p id with
  | none=>0
  | some q=>if q = 0 then n else dl p f q (n + 1)
def dpt (p:Int→Option Int) (id:Int):Int:=if id = 0 then 0 else dl p 8 id 1
def ct (p:Int→Option Int):Nat→Int→Int→Bool
 | 0,id,top=>ieq id top
 | f + 1,id,top=>if ieq id top then true else match p id with
  | none=>false
  | some q=>ct p f q top
theorem idx_at {s:TScene} {id:Int}:(0 ≤ nodeAt s id∧∃ x,idx s.nodes (nodeAt s id) = some x∧upOf s id = some x.parent∧x.id = id∧x ∈ s.nodes) ∨ (nodeAt s id < 0∧upOf s id = none∧∀ x ∈ s.nodes,x.id ≠ id):=by
 rcases fst_cases (fun k:TNode=>ieq k.id id) s.nodes with ⟨h1,h2⟩ | ⟨i,hi,h1,h2,_⟩
 ·right
  have h0:nodeAt s id = -1:=h1
  refine ⟨by omega,?_,fun x hx e=>?_⟩
  ·unfold upOf;rw [h0];rfl
  ·have:=h2 x hx
   rw [e,iqt] at this;cases this
 ·left
  have h0:nodeAt s id = (i:Int):=h1
  refine ⟨by omega,s.nodes[i],by rw [h0,idx_nat hi],?_,by simpa [ieq] using h2,List.getElem_mem hi⟩
  unfold upOf;rw [h0,idx_nat hi];rfl
theorem m_DepthOf {s : TScene} (h : s.nodes.length ≤ 1048576) (id : Int) : impl_DepthOf s id = some (dpt (upOf s) id) := by
 unfold impl_DepthOf dpt
 by_cases hid : id = 0
 ·rw [hid, iqt, cnd_true, if_pos rfl]
 rw [iqf hid, cnd_false, if_neg hid]
 have key : ∀ (f : Nat) (id n : Int), n + (f : Int) = 9 → 1 ≤ n → ∃ q, loopI (impl_DepthOf_l0 s) (id, n) = some q ∧ outI q = dl (upOf s) f id n := by
  intro f
  induction f with
  | zero =>
   intro id n hn h1
   have : n = 9 := by omega
   subst this
   exact ⟨.inr (), loopI_end (by rw [impl_DepthOf_l0, ilf (by omega), cnd_false]), rfl⟩
  | succ f ih =>
   intro id n hn h1
   rcases idx_at (s := s) (id := id) with ⟨ha, x, hx, hp, _⟩ | ⟨ha, hp, _⟩
   ·by_cases h0 : x.parent = 0
    ·refine ⟨.inl n, loopI_end (by rw [impl_DepthOf_l0, ilt (by omega), cnd_true, m_impl_NodeAt h, bnd_some, ilt ha, cnd_true, hx, bnd_some, h0, iqt, cnd_true]), ?_⟩
     rw [dl, hp]; simp [h0, outI]
    ·obtain ⟨q, q1, q2⟩ := ih x.parent (n + 1) (by omega) (by omega)
     have e1 : impl_DepthOf_l0 s (id, n) = some (.inl (x.parent, n + 1)) := by
      rw [impl_DepthOf_l0, ilt (by omega), cnd_true, m_impl_NodeAt h, bnd_some, ilt ha, cnd_true, hx, bnd_some, iqf h0, cnd_false, wr_in (by omega)]
     refine ⟨q, by rw [loopI_go e1]; exact q1, ?_⟩
     rw [q2, dl, hp]; simp [h0]
   ·refine ⟨.inl 0, loopI_end (by rw [impl_DepthOf_l0, ilt (by omega), cnd_true, m_impl_NodeAt h, bnd_some, ilf (by omega), cnd_false]), ?_⟩
    rw [dl, hp]; rfl
 obtain ⟨q, q1, q2⟩ := key 8 id 1 (by omega) (by omega)
 rw [q1]
 cases q with
 | inl y => simp only [outI] at q2; rw [← q2]; rfl
 | inr u => simp only [outI] at q2; rw [← q2]; rfl
theorem m_comesTo {s:TScene} (h:s.nodes.length ≤ 1048576) (a b:Int):impl_Scene_comesTo s a b = some (ct (upOf s) 8 a b):=by
 unfold impl_Scene_comesTo
 have key:∀ (f:Nat) (id n:Int),n + (f:Int) = 8→0 ≤ n→∃ q,loopI (impl_Scene_comesTo_l0 s b) (id,n) = some q∧ieq q b = ct (upOf s) f id b:=by
  intro f
  induction f with
  | zero =>
   intro id n hn h1
   exact ⟨id,loopI_end (by rw [impl_Scene_comesTo_l0,ilt (by omega),cnd_true]),rfl⟩
  | succ f ih =>
   intro id n hn h1
   by_cases he:id = b
   ·exact ⟨id,loopI_end (by rw [impl_Scene_comesTo_l0,ilf (by omega),cnd_false,m_impl_NodeAt h,bnd_some,he,iqt,cnd_true]),by rw [ct,he,iqt,if_pos rfl]⟩
   rcases idx_at (s:=s) (id:=id) with ⟨ha,x,hx,hp,_⟩ | ⟨ha,hp,_⟩
   ·obtain ⟨q,q1,q2⟩:=ih x.parent (n + 1) (by omega) (by omega)
    have e1:impl_Scene_comesTo_l0 s b (id,n) = some (.inl (x.parent,n + 1)):=by
     rw [impl_Scene_comesTo_l0,ilf (by omega),cnd_false,m_impl_NodeAt h,bnd_some,iqf he,cnd_false,ilt ha,cnd_true,hx,bnd_some,wr_in (by omega)]
    refine ⟨q,by rw [loopI_go e1];exact q1,?_⟩
    rw [q2,ct,iqf he,hp];rfl
   ·refine ⟨id,loopI_end (by rw [impl_Scene_comesTo_l0,ilf (by omega),cnd_false,m_impl_NodeAt h,bnd_some,iqf he,cnd_false,ilf (by omega),cnd_false]),?_⟩
    rw [ct,iqf he,hp];rfl
 obtain ⟨q,q1,q2⟩:=key 8 a 0 (by omega) (by omega)
 rw [q1,bnd_some,q2]
theorem m_Under {s:TScene} (h:s.nodes.length ≤ 1048576) (a b:Int):spec_l15Under s a b = some (ct (upOf s) 8 a b):=by
 unfold spec_l15Under
 have key:∀ (f:Nat) (id n:Int),n + (f:Int) = 8→0 ≤ n→∃ q:Bool ⊕ Unit,loopI (spec_l15Under_l0 s b) (id,n) = some q∧(match q with | .inl y=>y | .inr _=>false) = ct (upOf s) f id b:=by
  intro f
  induction f with
  | zero =>
   intro id n hn h1
   have:n = 8:=by omega
   subst this
   by_cases he:id = b
   ·exact ⟨.inl true,loopI_end (by rw [spec_l15Under_l0,ilt (by omega),cnd_true,he,iqt,cnd_true]),by rw [ct,he,iqt]⟩
   rcases idx_at (s:=s) (id:=id) with ⟨ha,x,hx,hp,_⟩ | ⟨ha,hp,_⟩
   ·have e1:spec_l15Under_l0 s b (id,8) = some (.inl (x.parent,9)):=by
     rw [spec_l15Under_l0,ilt (by omega),cnd_true,iqf he,cnd_false,m_spec_NodeAt h,bnd_some,ilt ha,cnd_true,hx,bnd_some,wr_in (by omega)];rfl
    refine ⟨.inr (),by rw [loopI_go e1];exact loopI_end (by rw [spec_l15Under_l0,ilf (by omega),cnd_false]),?_⟩
    rw [ct,iqf he]
   ·refine ⟨.inl false,loopI_end (by rw [spec_l15Under_l0,ilt (by omega),cnd_true,iqf he,cnd_false,m_spec_NodeAt h,bnd_some,ilf (by omega),cnd_false]),?_⟩
    rw [ct,iqf he]
  | succ f ih =>
   intro id n hn h1
   by_cases he:id = b
   ·exact ⟨.inl true,loopI_end (by rw [spec_l15Under_l0,ilt (by omega),cnd_true,he,iqt,cnd_true]),by rw [ct,he,iqt];rfl⟩
   rcases idx_at (s:=s) (id:=id) with ⟨ha,x,hx,hp,_⟩ | ⟨ha,hp,_⟩
   ·obtain ⟨q,q1,q2⟩:=ih x.parent (n + 1) (by omega) (by omega)
    have e1:spec_l15Under_l0 s b (id,n) = some (.inl (x.parent,n + 1)):=by
     rw [spec_l15Under_l0,ilt (by omega),cnd_true,iqf he,cnd_false,m_spec_NodeAt h,bnd_some,ilt ha,cnd_true,hx,bnd_some,wr_in (by omega)]
    refine ⟨q,by rw [loopI_go e1];exact q1,?_⟩
    rw [q2,ct,iqf he,hp];rfl
   ·refine ⟨.inl false,loopI_end (by rw [spec_l15Under_l0,ilt (by omega),cnd_true,iqf he,cnd_false,m_spec_NodeAt h,bnd_some,ilf (by omega),cnd_false]),?_⟩
    rw [ct,iqf he,hp];rfl
 obtain ⟨q,q1,q2⟩:=key 8 a 0 (by omega) (by omega)
 rw [q1,bnd_some,← q2]
 cases q <;> rfl
def underOf (s:TScene) (id:Int):List Int:=if 0 ≤ nodeAt s id then (s.nodes.filter fun x=>ct (upOf s) 8 x.id id).map (·.id) else []
theorem m_impl_UnderOf {s:TScene} (h:s.nodes.length ≤ 1048576) (id:Int):impl_UnderOf s id = some (underOf s id):=by
 unfold impl_UnderOf underOf
 rw [m_impl_NodeAt h,bnd_some]
 by_cases ha:0 ≤ nodeAt s id
 case neg=>rw [ilf (by omega),cnd_false,if_neg ha]
 rw [ilt ha,cnd_true,if_pos ha]
 have key:=loopI_n (f:=impl_UnderOf_l0 s id) (fun i=>(((s.nodes.take i).filter fun x=>ct (upOf s) 8 x.id id).map (·.id),(i:Int))) s.nodes.length (r:=(s.nodes.filter fun x=>ct (upOf s) 8 x.id id).map (·.id)) (fun i hi=>?_) ?_
 ·have e:loopI (impl_UnderOf_l0 s id) ([],0) = some ((s.nodes.filter fun x=>ct (upOf s) 8 x.id id).map (·.id)):=key
  rw [e];rfl
 ·try dsimp only
  have kl:(((s.nodes.take i).filter fun x=>ct (upOf s) 8 x.id id).map (·.id)).length ≤ s.nodes.length:=by
   rw [List.length_map]
   have h1:=List.length_filter_le (fun x:TNode=>ct (upOf s) 8 x.id id) (s.nodes.take i)
   rw [List.length_take] at h1;omega
  rw [filter_take_succ hi,List.map_append,impl_UnderOf_l0,ilf (by omega),cnd_false,idx_nat hi,bnd_some,m_comesTo h,bnd_some,wr_in (by omega)]
  cases ct (upOf s) 8 (s.nodes[i]).id id with
  | true=>rw [cnd_true,chkP_pos (by omega),nam_eq];rfl
  | false=>rw [cnd_false];simp
 ·try dsimp only
  rw [impl_UnderOf_l0,ilt (by omega),cnd_true,List.take_length]
theorem dl_same {p p':Int→Option Int} {id:Int} (hp:∀ z,z ≠ id→p z = p' z):∀ (f:Nat) (y n:Int),ct p f y id = false→dl p f y n = dl p' f y n
 | 0,_,_,_=>rfl
 | f + 1,y,n,h=>by
  rw [ct] at h
  by_cases he:y = id
  ·rw [he,iqt] at h;cases h
  rw [iqf he] at h
  simp only [Bool.false_eq_true,if_false] at h
  rw [dl,dl,← hp y he]
  cases hq:p y with
  | none=>rfl
  | some q =>
   rw [hq] at h
   dsimp only at h ⊢
   by_cases h0:q = 0
   ·rw [if_pos h0,if_pos h0]
   ·rw [if_neg h0,if_neg h0];exact dl_same hp f q (n + 1) h
theorem dpt_same {p p':Int→Option Int} {id y:Int} (hp:∀ z,z ≠ id→p z = p' z) (h:ct p 8 y id = false):dpt p y = dpt p' y:=by
 unfold dpt
 by_cases h0:y = 0
 ·rw [if_pos h0,if_pos h0]
 ·rw [if_neg h0,if_neg h0];exact dl_same hp 8 y 1 h
theorem nodup_at {s:TScene} (hn:(s.nodes.map (·.id)).Nodup) {i:Nat} (hi:i < s.nodes.length):nodeAt s s.nodes[i].id = (i:Int):=by
 unfold nodeAt
 rw [fst_eq hi (by simp [ieq])]
 intro k hk
 have:s.nodes[k].id ≠ s.nodes[i].id:=fun e=>by
  have h1:(s.nodes.map (·.id))[k]'(by rw [List.length_map];omega) = (s.nodes.map (·.id))[i]'(by rw [List.length_map];omega):=by simpa using e
  have:=(List.getElem_inj hn).1 h1
  omega
 simp [ieq,this]
theorem at_mem {s:TScene} (hn:(s.nodes.map (·.id)).Nodup) {x:TNode} (hx:x ∈ s.nodes):idx s.nodes (nodeAt s x.id) = some x:=by
 obtain ⟨i,hi,rfl⟩:=List.getElem_of_mem hx
 rw [nodup_at hn hi,idx_nat hi]
theorem sceneOk_par {s:TScene} (h:RowsS s):impl_SceneOk s = some true ↔ s.nodes.length ≤ 8∧(s.nodes.map (·.id)).Nodup∧∀ x ∈ s.nodes,impl_NodeOk x = some true∧(x.parent = 0 ∨ ∃ z ∈ s.nodes,z.id = x.parent∧z.group = true)∧tin (dpt (upOf s) x.id) 1 4 = true:=by
 have hn:=h.n
 rw [sceneOk_iff h]
 refine and_congr Iff.rfl ⟨fun hg=>?_,fun ⟨nd,hx⟩ i hi=>?_⟩
 ·have nd:(s.nodes.map (·.id)).Nodup:=by
   unfold List.Nodup
   rw [List.pairwise_iff_getElem]
   intro i j hi hj hij e
   rw [List.length_map] at hi hj
   simp only [List.getElem_map] at e
   have a:=(hg i hi).at'
   have b:=(hg j hj).at'
   rw [e,b] at a
   omega
  refine ⟨nd,fun x hx=>?_⟩
  obtain ⟨i,hi,rfl⟩:=List.getElem_of_mem hx
  have g:=hg i hi
  refine ⟨g.ok,?_,?_⟩
  ·rcases g.par with h0 | ⟨z,z1,z2⟩
   ·exact .inl h0
   ·right
    rcases idx_at (s:=s) (id:=s.nodes[i].parent) with ⟨_,y,y1,_,y3,y4⟩ | ⟨ha,_,_⟩
    ·have:=Option.some.inj (y1.symm.trans z1)
     subst this
     exact ⟨_,y4,y3,z2⟩
    ·unfold idx at z1;rw [if_neg (by omega)] at z1;cases z1
  ·obtain ⟨d,d1,d2⟩:=g.dep
   rw [m_DepthOf hn] at d1;cases d1;exact d2
 ·obtain ⟨x1,x2,x3⟩:=hx _ (List.getElem_mem hi)
  refine ⟨x1,nodup_at nd hi,?_,_,m_DepthOf hn _,x3⟩
  rcases x2 with h0 | ⟨z,z1,z2,z3⟩
  ·exact .inl h0
  ·exact .inr ⟨z,by rw [← z2];exact at_mem nd z1,z3⟩
def withPar (x:TNode) (p:Int):TNode:=⟨x.id,p,x.group,x.mat,x.path,x.even,x.width,x.dashes,x.paint,x.mode,x.fade,x.clip⟩
def plG (id b:Int) (x':TNode) (z:TNode):List TNode:=(if ieq z.id id then [] else [z]) ++ (if ieq z.id b && !ieq b 0 then [x'] else [])
theorem plG_len (id b:Int) (x':TNode):∀ l:List TNode,(l.flatMap (plG id b x')).length ≤ 2 * l.length
 | []=>by simp
 | z :: l=>by
  have ih:=plG_len id b x' l
  have:(plG id b x' z).length ≤ 2:=by
   unfold plG
   rw [List.length_append]
   cases ieq z.id id <;> cases (ieq z.id b && !ieq b 0) <;> simp
  rw [List.flatMap_cons,List.length_append,List.length_cons];omega
theorem rm_eq {l:List TNode} (hn:(l.map (·.id)).Nodup) {k:Nat} (hk:k < l.length):l.take k ++ l.drop (k + 1) = l.filter (fun z=>!ieq z.id l[k].id):=by
 have e:l = l.take k ++ l[k] :: l.drop (k + 1):=by
  rw [List.getElem_cons_drop,List.take_append_drop]
 have hne:∀ (j:Nat) (hj:j < l.length),j ≠ k→ieq l[j].id l[k].id = false:=fun j hj hji=>by
  refine iqf fun e=>hji ?_
  have h1:(l.map (·.id))[j]'(by rw [List.length_map];omega) = (l.map (·.id))[k]'(by rw [List.length_map];omega):=by simpa using e
  exact (List.getElem_inj hn).1 h1
 have h1:(l.take k).filter (fun z=>!ieq z.id l[k].id) = l.take k:=by
  refine List.filter_eq_self.2 fun a ha=>?_
  obtain ⟨j,hj,rfl⟩:=List.getElem_of_mem ha
  rw [List.length_take] at hj
  rw [List.getElem_take,hne j (by omega) (by omega)];rfl
 have h2:(l.drop (k + 1)).filter (fun z=>!ieq z.id l[k].id) = l.drop (k + 1):=by
  refine List.filter_eq_self.2 fun a ha=>?_
  obtain ⟨j,hj,rfl⟩:=List.getElem_of_mem ha
  rw [List.length_drop] at hj
  rw [List.getElem_drop,hne _ (by omega) (by omega)];rfl
 have h3:(l.take k ++ l[k] :: l.drop (k + 1)).filter (fun z=>!ieq z.id l[k].id) = l.take k ++ l.drop (k + 1):=by
  rw [List.filter_append,List.filter_cons,iqt,h1,h2];simp
 rw [← e] at h3
 exact h3.symm
theorem flat_filter {id b:Int} {x':TNode} (hb:ieq id b = false ∨ ieq b 0 = true):∀ l:List TNode,l.flatMap (plG id b x') = (l.filter (fun z=>!ieq z.id id)).flatMap (plG id b x')
 | []=>rfl
 | z :: l=>by
  rw [List.flatMap_cons,flat_filter hb l,List.filter_cons]
  cases h:ieq z.id id with
  | false=>simp
  | true =>
   have he:z.id = id:=by simpa [ieq] using h
   have:plG id b x' z = []:=by
    unfold plG
    rw [he,iqt]
    rcases hb with h | h <;> simp [h]
   simp [this]
theorem flat_id {id b:Int} {x':TNode}:∀ l:List TNode,(∀ z ∈ l,ieq z.id id = false)→(∀ z ∈ l,(ieq z.id b && !ieq b 0) = false)→l.flatMap (plG id b x') = l
 | [],_,_=>rfl
 | z :: l,h,k=>by
  rw [List.flatMap_cons,flat_id l (fun y hy=>h y (by simp [hy])) (fun y hy=>k y (by simp [hy]))]
  unfold plG
  rw [h z (by simp),k z (by simp)];simp
structure Pl (s:TScene) (id p b:Int) (k:Nat):Prop where
 sb:SB s
 ok:impl_SceneOk s = some true
 hk:k < s.nodes.length
 hi:∀ h:k < s.nodes.length,s.nodes[k].id = id
 hp:p = 0 ∨ ∃ z ∈ s.nodes,z.id = p∧z.group = true
 hb:b = 0 ∨ b ≠ id∧∃ z ∈ s.nodes,z.id = b
 hr:p = 0 ∨ ct (upOf s) 8 p id = false
def rest (s:TScene) (id:Int):List TNode:=s.nodes.filter (fun z=>!ieq z.id id)
def placed (s:TScene) (b:Int) (x':TNode):List TNode :=
 (rest s x'.id).take (nodeAt ⟨rest s x'.id⟩ b + 1).toNat ++ [x'] ++ (rest s x'.id).drop (nodeAt ⟨rest s x'.id⟩ b + 1).toNat
section
variable {s:TScene} {id p b:Int} {k:Nat}
theorem Pl.facts (h:Pl s id p b k):s.nodes.length ≤ 8∧(s.nodes.map (·.id)).Nodup∧(∀ x ∈ s.nodes,impl_NodeOk x = some true∧(x.parent = 0 ∨ ∃ z ∈ s.nodes,z.id = x.parent∧z.group = true)∧tin (dpt (upOf s) x.id) 1 4 = true):=(sceneOk_par h.sb.rows).1 h.ok
theorem Pl.id1 (h:Pl s id p b k):1 ≤ id∧id ≤ 99:=by
 have:=(nodeOk_par (h.facts.2.2 _ (List.getElem_mem h.hk)).1).2.2
 rw [h.hi h.hk,tin_t] at this;omega
theorem rest_nodup (hn:(s.nodes.map (·.id)).Nodup) (id:Int):((rest s id).map (·.id)).Nodup:=List.Nodup.sublist (List.filter_sublist.map _) hn
theorem rest_mem {z:TNode}:z ∈ rest s id ↔ z ∈ s.nodes∧z.id ≠ id:=by
 unfold rest
 rw [List.mem_filter]
 refine and_congr Iff.rfl ?_
 by_cases h:z.id = id <;> simp [ieq,h]
theorem rest_len (h:Pl s id p b k):(rest s id).length + 1 = s.nodes.length:=by
 have:=congrArg List.length (rm_eq h.facts.2.1 h.hk)
 rw [h.hi h.hk] at this
 unfold rest
 rw [← this]
 have:=h.hk
 simp only [List.length_append,List.length_take,List.length_drop];omega
theorem flat_eq (h:Pl s id p b k) {x':TNode} (hx:x'.id = id):(if b = 0 then [x'] else []) ++ s.nodes.flatMap (plG id b x') = placed s b x':=by
 have h1:=h.id1
 unfold placed
 rw [hx]
 rcases h.hb with rfl | ⟨hbi,z,hz,hzb⟩
 ·rw [if_pos rfl,flat_filter (.inr iqt)]
  have hrn:nodeAt ⟨rest s id⟩ 0 = -1:=by
   rcases idx_at (s:=⟨rest s id⟩) (id:=0) with ⟨_,x,_,_,x1,x2⟩ | ⟨ha,_,_⟩
   ·have:=(h.facts.2.2 x (rest_mem.1 x2).1).1
    have:=(nodeOk_par this).2.2
    rw [x1,tin_t] at this;omega
   ·rcases fst_cases (fun k:TNode=>ieq k.id 0) (rest s id) with ⟨q,_⟩ | ⟨i,hi,q,_⟩
    ·exact q
    ·have q':nodeAt ⟨rest s id⟩ 0 = (i:Int):=q
     omega
  rw [hrn]
  have:(rest s id).flatMap (plG id 0 x') = rest s id:=flat_id _ (fun z hz=>iqf (rest_mem.1 hz).2) (fun z _=>by rw [iqt];simp)
  unfold rest at this ⊢
  rw [this];rfl
 ·have hb0:b ≠ 0:=fun e=>by
   have:=(nodeOk_par (h.facts.2.2 z hz).1).2.2
   rw [hzb,e,tin_t] at this;omega
  rw [if_neg hb0,List.nil_append,flat_filter (.inl (iqf (Ne.symm hbi)))]
  have hzr:z ∈ rest s id:=rest_mem.2 ⟨hz,by rw [hzb];exact hbi⟩
  obtain ⟨t,ht,hte⟩:=List.getElem_of_mem hzr
  have hat:nodeAt ⟨rest s id⟩ b = (t:Int):=by
   have:=nodup_at (s:=⟨rest s id⟩) (rest_nodup h.facts.2.1 id) (i:=t) ht
   rw [← hzb,← hte];exact this
  rw [hat]
  have ht1:((t:Int) + 1).toNat = t + 1:=by omega
  rw [ht1]
  have e:rest s id = (rest s id).take t ++ (rest s id)[t] :: (rest s id).drop (t + 1):=by rw [List.getElem_cons_drop,List.take_append_drop]
  have hne:∀ (j:Nat) (hj:j < (rest s id).length),j ≠ t→ieq (rest s id)[j].id b = false:=fun j hj hji=>by
   rw [← hzb,← hte]
   refine iqf fun e=>hji ?_
   have h1:((rest s id).map (·.id))[j]'(by rw [List.length_map];omega) = ((rest s id).map (·.id))[t]'(by rw [List.length_map];omega):=by simpa using e
   exact (List.getElem_inj (rest_nodup h.facts.2.1 id)).1 h1
  have f1:((rest s id).take t).flatMap (plG id b x') = (rest s id).take t:=flat_id _ (fun z hz=>iqf (rest_mem.1 (List.mem_of_mem_take hz)).2) (fun z hz=>by
   obtain ⟨j,hj,rfl⟩:=List.getElem_of_mem hz
   rw [List.length_take] at hj
   rw [List.getElem_take,hne j (by omega) (by omega)];rfl)
  have f2:((rest s id).drop (t + 1)).flatMap (plG id b x') = (rest s id).drop (t + 1):=flat_id _ (fun z hz=>iqf (rest_mem.1 (List.mem_of_mem_drop hz)).2) (fun z hz=>by
   obtain ⟨j,hj,rfl⟩:=List.getElem_of_mem hz
   rw [List.length_drop] at hj
   rw [List.getElem_drop,hne _ (by omega) (by omega)];rfl)
  have f3:plG id b x' (rest s id)[t] = [(rest s id)[t],x']:=by
   unfold plG
   rw [iqf (rest_mem.1 (List.getElem_mem ht)).2,hte,hzb,iqt,iqf hb0];rfl
  have f4:((rest s id).take t ++ (rest s id)[t] :: (rest s id).drop (t + 1)).flatMap (plG id b x') = (rest s id).take t ++ ([(rest s id)[t],x'] ++ (rest s id).drop (t + 1)):=by
   rw [List.flatMap_append,List.flatMap_cons,f1,f2,f3]
  rw [← e] at f4
  have f5:(rest s id).flatMap (plG id b x') = (rest s id).take t ++ ([(rest s id)[t],x'] ++ (rest s id).drop (t + 1)):=f4
  have f6:(rest s id).take (t + 1) = (rest s id).take t ++ [(rest s id)[t]]:=by rw [List.take_add_one,List.getElem?_eq_getElem ht];rfl
  rw [f6]
  unfold rest at f5 ⊢
  rw [f5];simp
theorem placed_mem {x':TNode} {z:TNode}:z ∈ placed s b x' ↔ z = x' ∨ z ∈ rest s x'.id:=by
 unfold placed
 rw [List.mem_append,List.mem_append,List.mem_singleton]
 constructor
 ·rintro ((h | h) | h)
  ·exact .inr (List.mem_of_mem_take h)
  ·exact .inl h
  ·exact .inr (List.mem_of_mem_drop h)
 ·rintro (h | h)
  ·exact .inl (.inr h)
  ·rw [← List.take_append_drop (nodeAt ⟨rest s x'.id⟩ b + 1).toNat (rest s x'.id),List.mem_append] at h
   rcases h with h | h
   ·exact .inl (.inl h)
   ·exact .inr h
theorem placed_perm {x':TNode}:List.Perm (placed s b x') (x' :: rest s x'.id):=by
 unfold placed
 have:=List.take_append_drop (nodeAt ⟨rest s x'.id⟩ b + 1).toNat (rest s x'.id)
 conv=>rhs;rw [← this]
 rw [List.append_assoc]
 exact List.perm_middle
theorem placed_nodup (hn:(s.nodes.map (·.id)).Nodup) {x':TNode}:((placed s b x').map (·.id)).Nodup:=by
 have hp:=placed_perm (s:=s) (b:=b) (x':=x')
 rw [(hp.map (fun z:TNode=>z.id)).nodup_iff,List.map_cons,List.nodup_cons]
 refine ⟨fun hm=>?_,rest_nodup hn _⟩
 obtain ⟨y,hy,he⟩:=List.mem_map.1 hm
 exact (rest_mem.1 hy).2 he
theorem placed_len (h:Pl s id p b k) {x':TNode} (hx:x'.id = id):(placed s b x').length = s.nodes.length:=by
 have hp:=placed_perm (s:=s) (b:=b) (x':=x')
 rw [hp.length_eq,List.length_cons,hx,rest_len h]
theorem placed_up (h:Pl s id p b k) (q:Int) {x:TNode} (hx:x.id = id) (z:Int):upOf ⟨placed s b (withPar x q)⟩ z = if z = id then some q else upOf s z:=by
 have hn:=h.facts.2.1
 have hpn:=placed_nodup (s:=s) (b:=b) hn (x':=withPar x q)
 have hxi:(withPar x q).id = id:=hx
 by_cases hz:z = id
 ·rw [if_pos hz]
  have:=at_mem (s:=⟨placed s b (withPar x q)⟩) hpn (x:=withPar x q) (placed_mem.2 (.inl rfl))
  rw [hxi,← hz] at this
  unfold upOf;rw [this];rfl
 ·rw [if_neg hz]
  rcases idx_at (s:=s) (id:=z) with ⟨_,w,_,w2,w3,w4⟩ | ⟨_,w2,w3⟩
  ·have hw:w ∈ placed s b (withPar x q):=placed_mem.2 (.inr (by rw [hxi];exact rest_mem.2 ⟨w4,by rw [w3];exact hz⟩))
   have:=at_mem (s:=⟨placed s b (withPar x q)⟩) hpn hw
   rw [w3] at this
   rw [w2];unfold upOf;rw [this];rfl
  ·rw [w2]
   rcases idx_at (s:=⟨placed s b (withPar x q)⟩) (id:=z) with ⟨_,w,_,_,v3,v4⟩ | ⟨_,v2,_⟩
   ·rcases placed_mem.1 v4 with rfl | hw
    ·exact absurd (v3.symm.trans hxi) hz
    ·rw [hxi] at hw
     exact absurd v3 (w3 w (rest_mem.1 hw).1)
   ·exact v2
theorem placed_sb (h:Pl s id p b k) (q:Int):SB ⟨placed s b (withPar (s.nodes[k]'h.hk) q)⟩:=by
 have hx:=h.hi h.hk
 refine ⟨by have:=placed_len (b:=b) h (x':=withPar (s.nodes[k]'h.hk) q) hx;have:=h.facts.1;(try dsimp only) <;> omega,fun z hz=>?_⟩
 rcases placed_mem.1 hz with rfl | hz
 ·have:=h.sb.x _ (List.getElem_mem h.hk)
  exact ⟨this.v,this.p,this.d,this.cv,this.cp⟩
 ·exact h.sb.x z (rest_mem.1 hz).1
theorem placed_ok (h:Pl s id p b k):impl_SceneOk ⟨placed s b (withPar (s.nodes[k]'h.hk) p)⟩ = some true ↔ ∀ z ∈ placed s b (withPar (s.nodes[k]'h.hk) p),ct (upOf ⟨placed s b (withPar (s.nodes[k]'h.hk) p)⟩) 8 z.id id = true→tin (dpt (upOf ⟨placed s b (withPar (s.nodes[k]'h.hk) p)⟩) z.id) 1 4 = true:=by
 have hx:=h.hi h.hk
 have hf:=h.facts
 have hid:=h.id1
 have hxi:(withPar (s.nodes[k]'h.hk) p).id = id:=hx
 rw [sceneOk_par (placed_sb h p).rows]
 constructor
 ·rintro ⟨_,_,h3⟩ z hz _
  exact (h3 z hz).2.2
 ·intro hc
  have hpar:∀ q:Int,(q = 0 ∨ ∃ z ∈ s.nodes,z.id = q∧z.group = true)→(q = 0 ∨ ∃ z ∈ placed s b (withPar (s.nodes[k]'h.hk) p),z.id = q∧z.group = true):=by
   rintro q (h0 | ⟨z,hz,z1,z2⟩)
   ·exact .inl h0
   ·right
    by_cases hzi:z.id = id
    ·have hzk:z = s.nodes[k]'h.hk:=by
      have a1:=at_mem hf.2.1 hz
      have a2:=at_mem hf.2.1 (List.getElem_mem h.hk)
      rw [hzi] at a1;rw [hx] at a2
      rw [a1] at a2;exact Option.some.inj a2
     exact ⟨withPar (s.nodes[k]'h.hk) p,placed_mem.2 (.inl rfl),by rw [hxi,← hzi];exact z1,by rw [← z2,hzk];rfl⟩
    ·exact ⟨z,placed_mem.2 (.inr (by rw [hxi];exact rest_mem.2 ⟨hz,hzi⟩)),z1,z2⟩
  refine ⟨by (try dsimp only);rw [placed_len h hxi];exact hf.1,placed_nodup hf.2.1,fun z hz=>?_⟩
  have hdep:tin (dpt (upOf ⟨placed s b (withPar (s.nodes[k]'h.hk) p)⟩) z.id) 1 4 = true:=by
   cases hct:ct (upOf ⟨placed s b (withPar (s.nodes[k]'h.hk) p)⟩) 8 z.id id with
   | true=>exact hc z hz hct
   | false =>
    rcases placed_mem.1 hz with rfl | hzr
    ·rw [hxi,ct,iqt] at hct;simp at hct
    ·rw [hxi] at hzr
     rw [dpt_same (p':=upOf s) (fun y hy=>by rw [placed_up h p hx,if_neg hy]) hct]
     exact (hf.2.2 z (rest_mem.1 hzr).1).2.2
  rcases placed_mem.1 hz with rfl | hzr
  ·refine ⟨?_,hpar p h.hp,hdep⟩
   have hpp:tin p 0 99 = true:=by
    rcases h.hp with h0 | ⟨z,hz,z1,_⟩
    ·rw [h0];decide
    ·have:=(nodeOk_par (hf.2.2 z hz).1).2.2
     rw [z1,tin_t] at this
     rw [tin_t];omega
   have hne:(s.nodes[k]'h.hk).id ≠ p:=by
    rw [hx]
    intro e
    rcases h.hr with h0 | h1
    ·omega
    ·rw [← e,ct,iqt] at h1;simp at h1
   exact nodeOk_parent ((h.sb.x _ (List.getElem_mem h.hk)).d) (hf.2.2 _ (List.getElem_mem h.hk)).1 hpp hne
  ·rw [hxi] at hzr
   have:=hf.2.2 z (rest_mem.1 hzr).1
   exact ⟨this.1,hpar _ this.2.1,hdep⟩
end
section
variable {s:TScene} {id p b:Int} {k:Nat}
theorem rest_at (h:Pl s id p b k):(b = 0∧nodeAt ⟨rest s id⟩ b = -1) ∨ (b ≠ 0∧b ≠ id∧∃ (t:Nat) (ht:t < (rest s id).length),nodeAt ⟨rest s id⟩ b = (t:Int)∧(rest s id)[t].id = b):=by
 rcases h.hb with rfl | ⟨hbi,z,hz,hzb⟩
 ·left
  refine ⟨rfl,?_⟩
  rcases idx_at (s:=⟨rest s id⟩) (id:=0) with ⟨_,x,_,_,x1,x2⟩ | ⟨ha,_,_⟩
  ·have:=(h.facts.2.2 x (rest_mem.1 x2).1).1
   have:=(nodeOk_par this).2.2
   rw [x1,tin_t] at this;omega
  ·rcases fst_cases (fun k:TNode=>ieq k.id 0) (rest s id) with ⟨q,_⟩ | ⟨i,hi,q,_⟩
   ·exact q
   ·have q':nodeAt ⟨rest s id⟩ 0 = (i:Int):=q
    omega
 ·right
  have hb0:b ≠ 0:=fun e=>by
   have:=(nodeOk_par (h.facts.2.2 z hz).1).2.2
   rw [hzb,e,tin_t] at this;omega
  have hzr:z ∈ rest s id:=rest_mem.2 ⟨hz,by rw [hzb];exact hbi⟩
  obtain ⟨t,ht,hte⟩:=List.getElem_of_mem hzr
  have hat:nodeAt ⟨rest s id⟩ b = (t:Int):=by
   have:=nodup_at (s:=⟨rest s id⟩) (rest_nodup h.facts.2.1 id) (i:=t) ht
   rw [← hzb,← hte];exact this
  exact ⟨hb0,hbi,t,ht,hat,by rw [hte,hzb]⟩
theorem Pl.at (h:Pl s id p b k):nodeAt s id = (k:Int):=by
 have:=nodup_at h.facts.2.1 h.hk
 rwa [h.hi h.hk] at this
theorem Pl.up (h:Pl s id p b k):Pl s id p b k:=h
theorem under_all (h:Pl s id p b k):((underOf ⟨placed s b (withPar (s.nodes[k]'h.hk) p)⟩ id).all fun u=>tin (dpt (upOf ⟨placed s b (withPar (s.nodes[k]'h.hk) p)⟩) u) 1 4) = true ↔ impl_SceneOk ⟨placed s b (withPar (s.nodes[k]'h.hk) p)⟩ = some true:=by
 rw [placed_ok h,List.all_eq_true]
 have hx:=h.hi h.hk
 have hxi:(withPar (s.nodes[k]'h.hk) p).id = id:=hx
 have hat:0 ≤ nodeAt ⟨placed s b (withPar (s.nodes[k]'h.hk) p)⟩ id:=by
  have:=at_mem (s:=⟨placed s b (withPar (s.nodes[k]'h.hk) p)⟩) (placed_nodup h.facts.2.1) (x:=withPar (s.nodes[k]'h.hk) p) (placed_mem.2 (.inl rfl))
  rw [hxi] at this
  exact (idx_toNat this).1
 unfold underOf
 rw [if_pos hat]
 constructor
 ·intro hc z hz hct
  exact hc z.id (List.mem_map.2 ⟨z,List.mem_filter.2 ⟨hz,hct⟩,rfl⟩)
 ·intro hc u hu
  obtain ⟨z,hz,rfl⟩:=List.mem_map.1 hu
  exact hc z (List.mem_filter.1 hz).1 (List.mem_filter.1 hz).2
theorem ring_iff (h8:s.nodes.length ≤ 1048576) (hat:0 ≤ nodeAt s id) (hp:p = 0 ∨ ∃ z ∈ s.nodes,z.id = p∧z.group = true) (h0:∀ z ∈ s.nodes,z.id ≠ 0):isIn p (underOf s id) = (!ieq p 0 && ct (upOf s) 8 p id):=by
 unfold underOf
 rw [if_pos hat,Bool.eq_iff_iff]
 unfold isIn
 rw [List.any_eq_true]
 constructor
 ·rintro ⟨u,hu,he⟩
  obtain ⟨z,hz,rfl⟩:=List.mem_map.1 hu
  have e:p = z.id:=by simpa [ieq] using he
  have h1:=(List.mem_filter.1 hz)
  rw [e,iqf (h0 z h1.1),h1.2];rfl
 ·intro hc
  simp only [Bool.and_eq_true,Bool.not_eq_true'] at hc
  rcases hp with h0 | ⟨z,hz,z1,_⟩
  ·rw [h0,iqt] at hc;cases hc.1
  ·exact ⟨z.id,List.mem_map.2 ⟨z,List.mem_filter.2 ⟨hz,by rw [z1];exact hc.2⟩,rfl⟩,by rw [z1,iqt]⟩
theorem under_len (hn:s.nodes.length ≤ 1048576):(underOf s id).length ≤ 1048576:=by
 unfold underOf;split
 ·rw [List.length_map];have:=List.length_filter_le (fun x:TNode=>ct (upOf s) 8 x.id id) s.nodes;omega
 ·simp
end
section
variable {s:TScene} {id p b:Int} {k:Nat}
end
theorem m_markPointS {k:Int} {l:List TPoint} (hk:0 ≤ k∧k ≤ 1125899906842624) (hl:l.length ≤ 1048576):laws_markPointS k l = some (k + 2 * (l.length:Int),marked (fun k=>⟨k,k + 1⟩) 2 k l.length):=by
 unfold laws_markPointS
 rw [mark_loop (f:=laws_markPointS_l0) 2 (fun k=>(⟨k,k + 1⟩:TPoint)) (by omega) hk hl (fun k l=>by rw [laws_markPointS_l0,ilt (by omega),cnd_true]) (fun k i l hi hl h0 h1=>by
  rw [laws_markPointS_l0,ilf (by omega),cnd_false,idx_nat hi,bnd_some,nam_eq,Int.toNat_natCast,idx_nat (by rw [List.length_set];exact hi),bnd_some,nam_eq,wr_in (n:=k + 1) (by omega),wr_in (n:=k + 1 + 1) (by omega),wr_in (by omega)]
  simp only [List.set_set,List.getElem_set_self]
  rw [show k + 1 + 1 = k + 2 from by omega];rfl)]
 rfl
theorem m_heldPointS {k:Int} {n:Nat} (hk:0 ≤ k∧k ≤ 1125899906842624) (hl:n ≤ 1048576):laws_heldPointS (marked (fun k=>⟨k,k + 1⟩) 2 k n) k = some (k + 2 * (n:Int)):=by
 unfold laws_heldPointS
 rw [held_loop (f:=laws_heldPointS_l0 (marked (fun k=>⟨k,k + 1⟩) 2 k n)) 2 (fun k=>(⟨k,k + 1⟩:TPoint)) (n:=n) (by omega) hk hl (fun k=>by rw [laws_heldPointS_l0,marked_len,ilt (by omega),cnd_true]) (fun k i x hx hi he h0 h1=>by
  rw [laws_heldPointS_l0,marked_len,ilf (by omega),cnd_false,idx_some hx,bnd_some,he,wr_in (n:=k + 1) (by omega),wr_in (n:=k + 1 + 1) (by omega),wr_in (by omega)]
  simp only [iqt,cnd_true]
  rw [show k + 1 + 1 = k + 2 from by omega];rfl)]
 rfl
theorem mh_loop {α:Type} {f:Int×Int×List α→Option ((Int×Int×List α) ⊕ (List α×Int))} {g:List α→Int×Int→Option ((Int×Int) ⊕ (Int ⊕ Unit))} (a:List α) (C:Nat)
  (hl:a.length ≤ 1048576) (hC:C ≤ 16777216)
  (fe:∀ k l,f (k,(l.length:Int),l) = some (.inr (l,k))) (ge:∀ k l,g l (k,(l.length:Int)) = some (.inr (.inl k)))
  (st:∀ x ∈ a,∀ k:Int,0 ≤ k→k ≤ 562949953421312→∃ (y:α) (k':Int),k ≤ k'∧k' ≤ k + (C:Int) ∧
   (∀ (i:Nat) (l:List α),i < 1048576→l[i]? = some x→f (k,(i:Int),l) = some (.inl (k',((i + 1:Nat):Int),l.set i y))) ∧
   (∀ (i:Nat) (l:List α),i < 1048576→l[i]? = some y→g l (k,(i:Int)) = some (.inl (k',((i + 1:Nat):Int)))))
  {k0:Int} (h0:0 ≤ k0) (h1:k0 ≤ 1048576):∃ (L:List α) (k:Int),(k0 ≤ k∧k ≤ k0 + 17592186044416)∧L.length = a.length∧loopI f (k0,0,a) = some (L,k)∧loopI (g L) (k0,0) = some (.inl k):=by
 have key:∀ n,n ≤ a.length→∃ (D:List α) (k:Int),D.length = n∧k0 ≤ k∧k ≤ k0 + (C:Int) * (n:Int)∧loopI f (k0,0,a) = loopI f (k,(n:Int),D ++ a.drop n) ∧
   ∀ L:List α,L.take n = D→loopI (g L) (k0,0) = loopI (g L) (k,(n:Int)):=by
  intro n
  induction n with
  | zero=>exact fun _=>⟨[],k0,rfl,by omega,by omega,by simp,fun _ _=>rfl⟩
  | succ n ih =>
   intro hn
   obtain ⟨D,k,e1,e2,e3,e4,e5⟩:=ih (by omega)
   have hb:(C:Int) * (n:Int) ≤ 16777216 * 1048576:=Int.mul_le_mul (by omega) (by omega) (by omega) (by omega)
   have hs:(C:Int) * ((n + 1:Nat):Int) = (C:Int) * (n:Int) + (C:Int):=by rw [Int.natCast_add,Int.mul_add];simp
   obtain ⟨y,k',y1,y2,y3,y4⟩:=st a[n] (List.getElem_mem (by omega)) k (by omega) (by omega)
   have hd:a.drop n = a[n] :: a.drop (n + 1):=List.drop_eq_getElem_cons (by omega)
   have hg:(D ++ a.drop n)[n]? = some a[n]:=by rw [List.getElem?_append_right (by omega),e1,Nat.sub_self,hd];rfl
   refine ⟨D ++ [y],k',by simp [e1],by omega,by rw [hs];omega,?_,fun L hL=>?_⟩
   ·rw [e4,loopI_go (y3 n _ (by omega) hg),hd,List.set_append_right _ _ (by omega),e1,Nat.sub_self,List.set_cons_zero]
    simp
   ·have hL1:L.take n = D:=by
     have:=congrArg (List.take n) hL
     rw [List.take_take,Nat.min_eq_left (by omega),List.take_append_of_le_length (by omega),← e1,List.take_length] at this
     rw [← e1];exact this
    have hL2:L[n]? = some y:=by
     have:=congrArg (fun l=>l[n]?) hL
     simp only [List.getElem?_take] at this
     rw [if_pos (by omega),List.getElem?_append_right (by omega),e1,Nat.sub_self] at this
     exact this
    rw [e5 L hL1,loopI_go (y4 n L (by omega) hL2)]
 obtain ⟨D,k,e1,e2,e3,e4,e5⟩:=key a.length (Nat.le_refl _)
 have hb:(C:Int) * (a.length:Int) ≤ 16777216 * 1048576:=Int.mul_le_mul (by omega) (by omega) (by omega) (by omega)
 refine ⟨D,k,⟨e2,by omega⟩,e1,?_,?_⟩
 ·rw [e4,List.drop_length,List.append_nil,← e1,loopI_end (fe k D)]
 ·rw [e5 D (by rw [← e1,List.take_length]),← e1,loopI_end (ge k D)]
def ptM (k:Int) (n:Nat):List TPoint:=marked (fun k=>⟨k,k + 1⟩) 2 k n
def inM (k:Int) (n:Nat):List Int:=marked (fun k=>k) 1 k n
theorem inM_m {k:Int} {l:List Int} (h0:0 ≤ k) (h1:k ≤ 1125899906842624) (hl:l.length ≤ 1048576):laws_markIntS k l = some (k + l.length,inM k l.length):=by
 rw [m_markIntS ⟨h0,h1⟩ hl,Int.one_mul];rfl
theorem inM_h {k:Int} {n:Nat} (h0:0 ≤ k) (h1:k ≤ 1125899906842624) (hl:n ≤ 1048576):laws_heldIntS (inM k n) k = some (k + n):=by
 unfold inM;rw [m_heldIntS ⟨h0,h1⟩ hl,Int.one_mul]
theorem ptM_m {k:Int} {l:List TPoint} (h0:0 ≤ k) (h1:k ≤ 1125899906842624) (hl:l.length ≤ 1048576):laws_markPointS k l = some (k + 2 * l.length,ptM k l.length):=m_markPointS ⟨h0,h1⟩ hl
theorem ptM_h {k:Int} {n:Nat} (h0:0 ≤ k) (h1:k ≤ 1125899906842624) (hl:n ≤ 1048576):laws_heldPointS (ptM k n) k = some (k + 2 * n):=m_heldPointS ⟨h0,h1⟩ hl
theorem nodeS_st {x:TNode} (hx:NB x) {k:Int} (h0:0 ≤ k) (h1:k ≤ 562949953421312):∃ (y:TNode) (k':Int),k ≤ k'∧k' ≤ k + ((16777216:Nat):Int) ∧
   (∀ (i:Nat) (l:List TNode),i < 1048576→l[i]? = some x→laws_markNodeS_l0 (k,(i:Int),l) = some (.inl (k',((i + 1:Nat):Int),l.set i y))) ∧
   (∀ (i:Nat) (l:List TNode),i < 1048576→l[i]? = some y→laws_heldNodeS_l0 l (k,(i:Int)) = some (.inl (k',((i + 1:Nat):Int)))):=by
 obtain ⟨v1,v2,v3,v4,v5⟩:=hx
 obtain ⟨p,hp⟩:∃ p,p = k + 9 + (x.path.verbs.length:Int):=⟨_,rfl⟩
 obtain ⟨q,hq⟩:∃ q,q = p + 2 * (x.path.points.length:Int):=⟨_,rfl⟩
 obtain ⟨r,hr⟩:∃ r,r = q + 2 + (x.dashes.length:Int):=⟨_,rfl⟩
 obtain ⟨s,hs⟩:∃ s,s = r + 15 + (x.clip.verbs.length:Int):=⟨_,rfl⟩
 obtain ⟨t,ht⟩:∃ t,t = s + 2 * (x.clip.points.length:Int):=⟨_,rfl⟩
 refine ⟨⟨k,k + 1,ieq (Int.tmod (k + 2) 3) 0,⟨k + 3,k + 4,k + 5,k + 6,k + 7,k + 8⟩,⟨inM (k + 9) x.path.verbs.length,ptM p x.path.points.length⟩,ieq (Int.tmod q 3) 0,q + 1,inM (q + 2) x.dashes.length,
  ⟨r,⟨r + 1,r + 2,r + 3,r + 4⟩,⟨r + 5,r + 6,r + 7,r + 8⟩,⟨r + 9,r + 10⟩,⟨r + 11,r + 12⟩⟩,r + 13,r + 14,⟨inM (r + 15) x.clip.verbs.length,ptM s x.clip.points.length⟩⟩,t,by omega,by omega,fun i l hi hl=>?_,fun i l hi hl=>?_⟩
 ·have hb:=(List.getElem?_eq_some_iff.1 hl).1
  rw [laws_markNodeS_l0,ilf (by omega),cnd_false,idx_some hl,bnd_some]
  simp (disch:=omega) only [wr_in,Int.add_assoc,Int.reduceAdd]
  rw [inM_m (by omega) (by omega) v1,bnd_some]
  dsimp only
  rw [← hp,ptM_m (by omega) (by omega) v2,bnd_some]
  dsimp only
  rw [← hq]
  simp (disch:=omega) only [wr_in,Int.add_assoc,Int.reduceAdd]
  rw [inM_m (by omega) (by omega) v3,bnd_some]
  dsimp only
  rw [← hr]
  simp (disch:=omega) only [wr_in,Int.add_assoc,Int.reduceAdd]
  rw [inM_m (by omega) (by omega) v4,bnd_some]
  dsimp only
  rw [← hs,ptM_m (by omega) (by omega) v5,bnd_some]
  dsimp only
  rw [← ht,Int.toNat_natCast];rfl
 ·have hb:=(List.getElem?_eq_some_iff.1 hl).1
  rw [laws_heldNodeS_l0,ilf (by omega),cnd_false,idx_some hl,bnd_some]
  simp (disch:=omega) only [wr_in,Int.add_assoc,Int.reduceAdd,iqt,cnd_true,decide_true,andB,Bool.and_self]
  rw [inM_h (by omega) (by omega) v1,bnd_some,← hp,ilt (by omega),cnd_true,ptM_h (by omega) (by omega) v2,bnd_some,← hq,ilt (by omega),cnd_true]
  simp (disch:=omega) only [wr_in,Int.add_assoc,Int.reduceAdd,iqt,cnd_true,decide_true,andB,Bool.and_self]
  rw [inM_h (by omega) (by omega) v3,bnd_some,← hr,ilt (by omega),cnd_true]
  simp (disch:=omega) only [wr_in,Int.add_assoc,Int.reduceAdd,iqt,cnd_true,decide_true,andB,Bool.and_self]
  rw [inM_h (by omega) (by omega) v4,bnd_some,← hs,ilt (by omega),cnd_true,ptM_h (by omega) (by omega) v5,bnd_some,← ht,ilt (by omega),cnd_true]
  rfl
theorem nodeS_mh {a:List TNode} (hl:a.length ≤ 1048576) (hx:∀ x ∈ a,NB x):∃ (L:List TNode) (k:Int),(1 ≤ k∧k ≤ 562949953421312)∧L.length = a.length∧laws_markScene 1 a = some (k,L)∧laws_heldScene ⟨L⟩ 1 = some k:=by
 obtain ⟨L,k,e1,e2,e3,e4⟩:=mh_loop (f:=laws_markNodeS_l0) (g:=laws_heldNodeS_l0) a 16777216 hl (by omega) (fun k l=>by rw [laws_markNodeS_l0,ilt (by omega),cnd_true]) (fun k l=>by rw [laws_heldNodeS_l0,ilt (by omega),cnd_true]) (fun x h k h0 h1=>nodeS_st (hx x h) h0 h1) (k0:=1) (by omega) (by omega)
 refine ⟨L,k,by omega,e2,?_,?_⟩
 ·unfold laws_markScene laws_markNodeS;rw [e3];rfl
 ·unfold laws_heldScene laws_heldNodeS;dsimp only;rw [e4,bnd_some,bnd_some,ilt (by omega),cnd_true]
theorem o_impl_copyPath {p:TPath} (h:p.verbs.length ≤ 1048576) (h1:p.points.length ≤ 1048576):impl_copyPath p = some (p.verbs,p.points):=by
 unfold impl_copyPath slices_Clone_int slices_Clone_Point
 rw [chkP_pos (by omega),bnd_some,chkP_pos (by omega),bnd_some]
theorem o_impl_copyNode {x:TNode} (h:NB x):impl_copyNode x = some (x.id,x.parent,x.group,x.mat,x.even,x.width,x.paint,x.mode,x.fade,x.path.verbs,x.path.points,x.dashes,x.clip.verbs,x.clip.points):=by
 unfold impl_copyNode slices_Clone_int
 have:=h.d
 rw [o_impl_copyPath h.v h.p,bnd_some];dsimp only
 rw [o_impl_copyPath h.cv h.cp,bnd_some];dsimp only
 rw [chkP_pos (by omega),bnd_some]
theorem o_impl_copyScene {s:TScene} (h:SB s):impl_copyScene s = some s.nodes:=by
 have hn:=h.n
 unfold impl_copyScene
 rw [copy_loop (l:=s.nodes) (f:=impl_copyScene_l0 s) (fun i hi=>by
  rw [impl_copyScene_l0,ilf (by omega),cnd_false,idx_nat hi,bnd_some,o_impl_copyNode (h.x _ (List.getElem_mem hi)),bnd_some];dsimp only
  rw [chkP_pos (by rw [List.length_take];omega),wr_in (by omega)];rfl) (by rw [impl_copyScene_l0,ilt (by omega),cnd_true])]
 rfl
theorem nb_gd {x:TNode} (h:gd_Node x):NB x:=⟨h.1.1.1,h.1.2.1,h.2.1.1,h.2.2.1.1,h.2.2.2.1⟩
theorem gd_nb {x:TNode} (h:NB x):gd_Node x:=⟨⟨⟨h.v,fun _ _=>trivial⟩,⟨h.p,fun _ _=>trivial⟩⟩,⟨h.d,fun _ _=>trivial⟩,⟨h.cv,fun _ _=>trivial⟩,⟨h.cp,fun _ _=>trivial⟩⟩
theorem sb_gd {s:TScene} (h:gd_Scene s):SB s:=⟨h.1,fun y hy=>nb_gd (h.2 y hy)⟩
theorem gd_sb {s:TScene} (h:SB s):gd_Scene s:=⟨h.n,fun y hy=>gd_nb (h.x y hy)⟩
theorem SB.filter {s:TScene} (h:SB s) (p:TNode→Bool):SB ⟨s.nodes.filter p⟩:=⟨Nat.le_trans (List.length_filter_le _ _) h.n,fun k hk=>h.x k (List.mem_filter.1 hk).1⟩
section
variable {s:TScene} {id p b:Int} {k:Nat}
theorem o_implGo (h:Pl s id p b k) :
    (bnd (impl_NodeAt (TScene.mk s.nodes) id) fun v6 =>
     bnd (idx s.nodes v6) fun v7 =>
     bnd (slices_Delete_Node_n v6 (IntKind.i64.wrap (v6 + 1)) v7.path.verbs v7.path.points v7.dashes v7.clip.verbs v7.clip.points v7.id v7.parent v7.group v7.mat v7.even v7.width v7.paint v7.mode v7.fade (List.take (Int.toNat v6) s.nodes) (List.drop (Int.toNat v6 + 1) s.nodes)) fun v8 =>
     bnd (impl_NodeAt (TScene.mk v8) b) fun v9 =>
     bnd (slices_Insert_Node_n (IntKind.i64.wrap (v9 + 1)) v8 v7.path.verbs v7.path.points v7.dashes v7.clip.verbs v7.clip.points v7.id p v7.group v7.mat v7.even v7.width v7.paint v7.mode v7.fade) fun v10 =>
     bnd (impl_UnderOf (TScene.mk v10) id) fun v11 =>
     bnd (loopI (impl_PlaceNode_l0 s.nodes v10 v11) 0) fun q=>match q with
     | .inl () =>
      some ((0:Int),v10)
     | .inr () =>
      some (5,s.nodes)) = some (if impl_SceneOk ⟨placed s b (withPar (s.nodes[k]'h.hk) p)⟩ = some true then (0,placed s b (withPar (s.nodes[k]'h.hk) p)) else (5,s.nodes)):=by
  have hk:=h.hk
  have hn:=h.sb.n
  have h8:=h.facts.1
  have hnd:=h.facts.2.1
  have hx:=h.hi h.hk
  have hxi:(withPar (s.nodes[k]'h.hk) p).id = id:=hx
  rw [m_impl_NodeAt (s:=⟨s.nodes⟩) hn,bnd_some]
  have hat:nodeAt ⟨s.nodes⟩ id = (k:Int):=h.at
  rw [hat,idx_nat h.hk,bnd_some,wr_in (by have:=h.hk;omega),Int.toNat_natCast]
  have hkl:(s.nodes.take k).length = k:=by rw [List.length_take];omega
  have hdl:(s.nodes.drop (k + 1)).length = s.nodes.length - (k + 1):=List.length_drop
  have hrl:=rest_len h
  have hre:s.nodes.take k ++ s.nodes.drop (k + 1) = rest s id:=by rw [rm_eq hnd h.hk,hx];rfl
  unfold slices_Delete_Node_n
  rw [chkP_pos ⟨by rw [hkl],rfl,by rw [hkl,hdl];omega⟩,bnd_some,hre,m_impl_NodeAt (s:=⟨rest s id⟩) (by (try dsimp only) <;> omega),bnd_some]
  obtain ⟨j,hj1,hj2,hj3⟩:∃ j:Nat,nodeAt ⟨rest s id⟩ b + 1 = (j:Int)∧j ≤ (rest s id).length∧(nodeAt ⟨rest s id⟩ b + 1).toNat = j:=by
    rcases rest_at h with ⟨_,e⟩ | ⟨_,_,t,ht,e,_⟩
    · exact ⟨0,by omega,by omega,by omega⟩
    · exact ⟨t + 1,by omega,by omega,by omega⟩
  rw [hj1,wr_in (by omega)]
  have hpe:(rest s id).take j ++ withPar (s.nodes[k]'h.hk) p :: (rest s id).drop j = placed s b (withPar (s.nodes[k]'h.hk) p):=by
    unfold placed;rw [hxi,hj3,List.append_assoc];rfl
  unfold slices_Insert_Node_n
  rw [chkP_pos ⟨by omega,by omega,by omega⟩,bnd_some,Int.toNat_natCast]
  show bnd (impl_UnderOf (TScene.mk ((rest s id).take j ++ withPar (s.nodes[k]'h.hk) p :: (rest s id).drop j)) id) _ = _
  rw [hpe]
  have hpl:=placed_len (b:=b) h hxi
  rw [m_impl_UnderOf (by (try dsimp only) <;> omega),bnd_some]
  have hul:(underOf ⟨placed s b (withPar (s.nodes[k]'h.hk) p)⟩ id).length ≤ 1000:=by
    unfold underOf
    split
    · rw [List.length_map]
      have:=List.length_filter_le (fun x:TNode=>ct (upOf ⟨placed s b (withPar (s.nodes[k]'h.hk) p)⟩) 8 x.id id) (placed s b (withPar (s.nodes[k]'h.hk) p))
      (try dsimp only) <;> omega
    · simp
  show bnd (loopI (impl_PlaceNode_l0 s.nodes ((rest s id).take j ++ withPar (s.nodes[k]'h.hk) p :: (rest s id).drop j) (underOf ⟨placed s b (withPar (s.nodes[k]'h.hk) p)⟩ id)) 0) (fun q=>match q with
     | .inl ()=>some ((0:Int),(rest s id).take j ++ withPar (s.nodes[k]'h.hk) p :: (rest s id).drop j)
     | .inr ()=>some (5,s.nodes)) = _
  rw [hpe]
  rw [loopI_row (l:=underOf ⟨placed s b (withPar (s.nodes[k]'h.hk) p)⟩ id) (f:=impl_PlaceNode_l0 s.nodes (placed s b (withPar (s.nodes[k]'h.hk) p)) (underOf ⟨placed s b (withPar (s.nodes[k]'h.hk) p)⟩ id)) (fun u=>tin (dpt (upOf ⟨placed s b (withPar (s.nodes[k]'h.hk) p)⟩) u) 1 4) (by omega) (fun i hi=>?_) ?_]
  · by_cases hok:impl_SceneOk ⟨placed s b (withPar (s.nodes[k]'h.hk) p)⟩ = some true
    · rw [(under_all h).2 hok,if_pos hok];rfl
    · have:((underOf ⟨placed s b (withPar (s.nodes[k]'h.hk) p)⟩ id).all fun u=>tin (dpt (upOf ⟨placed s b (withPar (s.nodes[k]'h.hk) p)⟩) u) 1 4) = false:=by
        cases hc:((underOf ⟨placed s b (withPar (s.nodes[k]'h.hk) p)⟩ id).all fun u=>tin (dpt (upOf ⟨placed s b (withPar (s.nodes[k]'h.hk) p)⟩) u) 1 4) with
        | false=>rfl
        | true=>exact absurd ((under_all h).1 hc) hok
      rw [this,if_neg hok];rfl
  · rw [impl_PlaceNode_l0,ilt (by omega),cnd_true]
  · rw [impl_PlaceNode_l0,ilf (by omega),cnd_false,idx_nat hi,bnd_some,m_DepthOf (by (try dsimp only) <;> omega),bnd_some,m_impl_inRange,bnd_some]
theorem oz_spec_Copy {s:TScene} (h:SB s):spec_l15Copy s = some ⟨s.nodes⟩:=by
 have hn:=h.n
 unfold spec_l15Copy
 rw [copy_loop (l:=s.nodes) (f:=spec_l15Copy_l0 s) (fun i hi=>by
  rw [spec_l15Copy_l0,ilf (by omega),cnd_false,idx_nat hi,bnd_some,m_spec_copyNode (h.x _ (List.getElem_mem hi)),bnd_some,chkP_pos (by rw [List.length_take];omega),nam_eq,wr_in (by omega)];rfl) (by rw [spec_l15Copy_l0,ilt (by omega),cnd_true])]
 rfl
theorem oplaceL_0 {s:TScene} {p b id:Int} {v1:TScene} {k:Nat} {x:TNode} {init:List TNode} (hs:SB s) (hn:(s.nodes.map (·.id)).Nodup) (hk:k < s.nodes.length) (hki:s.nodes[k].id = id) (hi:init.length ≤ 1) :
  loopI (spec_PlaceNode_l0 s p b v1 (k:Int) x) (0,init) = some (init ++ s.nodes.flatMap (plG id b (withPar x p))):=by
 have hl:=hs.n
 have key:=loopI_n (f:=spec_PlaceNode_l0 s p b v1 (k:Int) x) (fun i=>((i:Int),init ++ (s.nodes.take i).flatMap (plG id b (withPar x p)))) s.nodes.length (r:=init ++ s.nodes.flatMap (plG id b (withPar x p))) (fun i hi'=>?_) ?_
 ·have e:loopI (spec_PlaceNode_l0 s p b v1 (k:Int) x) (0,init ++ ([]:List TNode).flatMap (plG id b (withPar x p))) = some (init ++ s.nodes.flatMap (plG id b (withPar x p))):=key
  rwa [List.flatMap_nil,List.append_nil] at e
 ·try dsimp only
  have hlen:(init ++ (s.nodes.take i).flatMap (plG id b (withPar x p))).length ≤ 1 + 2 * i:=by
   have:=plG_len id b (withPar x p) (s.nodes.take i)
   rw [List.length_take] at this
   rw [List.length_append];omega
  have hst:init ++ (s.nodes.take (i + 1)).flatMap (plG id b (withPar x p)) = (init ++ (s.nodes.take i).flatMap (plG id b (withPar x p))) ++ plG id b (withPar x p) s.nodes[i]:=by
   rw [List.take_add_one,List.getElem?_eq_getElem hi',List.flatMap_append,List.append_assoc]
   congr 2
   simp
  rw [hst]
  obtain ⟨O,hO⟩:∃ O,O = init ++ (s.nodes.take i).flatMap (plG id b (withPar x p)):=⟨_,rfl⟩
  rw [← hO] at hlen ⊢
  rw [spec_PlaceNode_l0,ilf (by omega),cnd_false,idx_nat hi',bnd_some,bnd_some,wr_in (by omega)]
  have hxe:(TNode.mk x.id p x.group x.mat x.path x.even x.width x.dashes x.paint x.mode x.fade x.clip) = withPar x p:=rfl
  have hcast:((i:Int) + 1) = ((i + 1:Nat):Int):=by omega
  rw [hcast,hxe]
  by_cases he:i = k
  ·subst he
   rw [iqt,cnd_true]
   unfold plG
   rw [hki,iqt]
   cases h1:ieq id b with
   | false=>simp
   | true =>
    rw [cnd_true]
    cases h2:ieq b 0 with
    | true=>simp
    | false=>rw [cnd_false,chkP_pos (by omega),nam_eq];simp
  ·have hne:ieq s.nodes[i].id id = false:=by
    rw [← hki]
    refine iqf fun e=>he ?_
    have h1:(s.nodes.map (·.id))[i]'(by rw [List.length_map];omega) = (s.nodes.map (·.id))[k]'(by rw [List.length_map];omega):=by simpa using e
    exact (List.getElem_inj hn).1 h1
   rw [iqf (by omega),cnd_false,m_spec_copyNode (hs.x _ (List.getElem_mem hi')),bnd_some,chkP_pos (by omega),nam_eq]
   unfold plG
   rw [hne]
   cases h1:ieq s.nodes[i].id b with
   | false=>simp
   | true =>
    rw [cnd_true]
    cases h2:ieq b 0 with
    | true=>simp
    | false=>rw [cnd_false,chkP_pos (by rw [List.length_append];simp;omega),nam_eq];simp
 ·try dsimp only
  rw [spec_PlaceNode_l0,ilt (by omega),cnd_true,List.take_length]
theorem oplaceL_1 {s:TScene} {p b id:Int} {v1:TScene} {k:Nat} {x:TNode} {init:List TNode} (hs:SB s) (hn:(s.nodes.map (·.id)).Nodup) (hk:k < s.nodes.length) (hki:s.nodes[k].id = id) (hi:init.length ≤ 1) :
  loopI (spec_PlaceNode_l1 s p b v1 (k:Int) x) (0,init) = some (init ++ s.nodes.flatMap (plG id b (withPar x p))):=by
 have hl:=hs.n
 have key:=loopI_n (f:=spec_PlaceNode_l1 s p b v1 (k:Int) x) (fun i=>((i:Int),init ++ (s.nodes.take i).flatMap (plG id b (withPar x p)))) s.nodes.length (r:=init ++ s.nodes.flatMap (plG id b (withPar x p))) (fun i hi'=>?_) ?_
 ·have e:loopI (spec_PlaceNode_l1 s p b v1 (k:Int) x) (0,init ++ ([]:List TNode).flatMap (plG id b (withPar x p))) = some (init ++ s.nodes.flatMap (plG id b (withPar x p))):=key
  rwa [List.flatMap_nil,List.append_nil] at e
 ·try dsimp only
  have hlen:(init ++ (s.nodes.take i).flatMap (plG id b (withPar x p))).length ≤ 1 + 2 * i:=by
   have:=plG_len id b (withPar x p) (s.nodes.take i)
   rw [List.length_take] at this
   rw [List.length_append];omega
  have hst:init ++ (s.nodes.take (i + 1)).flatMap (plG id b (withPar x p)) = (init ++ (s.nodes.take i).flatMap (plG id b (withPar x p))) ++ plG id b (withPar x p) s.nodes[i]:=by
   rw [List.take_add_one,List.getElem?_eq_getElem hi',List.flatMap_append,List.append_assoc]
   congr 2
   simp
  rw [hst]
  obtain ⟨O,hO⟩:∃ O,O = init ++ (s.nodes.take i).flatMap (plG id b (withPar x p)):=⟨_,rfl⟩
  rw [← hO] at hlen ⊢
  rw [spec_PlaceNode_l1,ilf (by omega),cnd_false,idx_nat hi',bnd_some,bnd_some,wr_in (by omega)]
  have hxe:(TNode.mk x.id p x.group x.mat x.path x.even x.width x.dashes x.paint x.mode x.fade x.clip) = withPar x p:=rfl
  have hcast:((i:Int) + 1) = ((i + 1:Nat):Int):=by omega
  rw [hcast,hxe]
  by_cases he:i = k
  ·subst he
   rw [iqt,cnd_true]
   unfold plG
   rw [hki,iqt]
   cases h1:ieq id b with
   | false=>simp
   | true =>
    rw [cnd_true]
    cases h2:ieq b 0 with
    | true=>simp
    | false=>rw [cnd_false,chkP_pos (by omega),nam_eq];simp
  ·have hne:ieq s.nodes[i].id id = false:=by
    rw [← hki]
    refine iqf fun e=>he ?_
    have h1:(s.nodes.map (·.id))[i]'(by rw [List.length_map];omega) = (s.nodes.map (·.id))[k]'(by rw [List.length_map];omega):=by simpa using e
    exact (List.getElem_inj hn).1 h1
   rw [iqf (by omega),cnd_false,m_spec_copyNode (hs.x _ (List.getElem_mem hi')),bnd_some,chkP_pos (by omega),nam_eq]
   unfold plG
   rw [hne]
   cases h1:ieq s.nodes[i].id b with
   | false=>simp
   | true =>
    rw [cnd_true]
    cases h2:ieq b 0 with
    | true=>simp
    | false=>rw [cnd_false,chkP_pos (by rw [List.length_append];simp;omega),nam_eq];simp
 ·try dsimp only
  rw [spec_PlaceNode_l1,ilt (by omega),cnd_true,List.take_length]
theorem oplaceL_2 {s:TScene} {p b id:Int} {v1:TScene} {k:Nat} {x:TNode} {init:List TNode} (hs:SB s) (hn:(s.nodes.map (·.id)).Nodup) (hk:k < s.nodes.length) (hki:s.nodes[k].id = id) (hi:init.length ≤ 1) :
  loopI (spec_PlaceNode_l2 s p b v1 (k:Int) x) (0,init) = some (init ++ s.nodes.flatMap (plG id b (withPar x p))):=by
 have hl:=hs.n
 have key:=loopI_n (f:=spec_PlaceNode_l2 s p b v1 (k:Int) x) (fun i=>((i:Int),init ++ (s.nodes.take i).flatMap (plG id b (withPar x p)))) s.nodes.length (r:=init ++ s.nodes.flatMap (plG id b (withPar x p))) (fun i hi'=>?_) ?_
 ·have e:loopI (spec_PlaceNode_l2 s p b v1 (k:Int) x) (0,init ++ ([]:List TNode).flatMap (plG id b (withPar x p))) = some (init ++ s.nodes.flatMap (plG id b (withPar x p))):=key
  rwa [List.flatMap_nil,List.append_nil] at e
 ·try dsimp only
  have hlen:(init ++ (s.nodes.take i).flatMap (plG id b (withPar x p))).length ≤ 1 + 2 * i:=by
   have:=plG_len id b (withPar x p) (s.nodes.take i)
   rw [List.length_take] at this
   rw [List.length_append];omega
  have hst:init ++ (s.nodes.take (i + 1)).flatMap (plG id b (withPar x p)) = (init ++ (s.nodes.take i).flatMap (plG id b (withPar x p))) ++ plG id b (withPar x p) s.nodes[i]:=by
   rw [List.take_add_one,List.getElem?_eq_getElem hi',List.flatMap_append,List.append_assoc]
   congr 2
   simp
  rw [hst]
  obtain ⟨O,hO⟩:∃ O,O = init ++ (s.nodes.take i).flatMap (plG id b (withPar x p)):=⟨_,rfl⟩
  rw [← hO] at hlen ⊢
  rw [spec_PlaceNode_l2,ilf (by omega),cnd_false,idx_nat hi',bnd_some,bnd_some,wr_in (by omega)]
  have hxe:(TNode.mk x.id p x.group x.mat x.path x.even x.width x.dashes x.paint x.mode x.fade x.clip) = withPar x p:=rfl
  have hcast:((i:Int) + 1) = ((i + 1:Nat):Int):=by omega
  rw [hcast,hxe]
  by_cases he:i = k
  ·subst he
   rw [iqt,cnd_true]
   unfold plG
   rw [hki,iqt]
   cases h1:ieq id b with
   | false=>simp
   | true =>
    rw [cnd_true]
    cases h2:ieq b 0 with
    | true=>simp
    | false=>rw [cnd_false,chkP_pos (by omega),nam_eq];simp
  ·have hne:ieq s.nodes[i].id id = false:=by
    rw [← hki]
    refine iqf fun e=>he ?_
    have h1:(s.nodes.map (·.id))[i]'(by rw [List.length_map];omega) = (s.nodes.map (·.id))[k]'(by rw [List.length_map];omega):=by simpa using e
    exact (List.getElem_inj hn).1 h1
   rw [iqf (by omega),cnd_false,m_spec_copyNode (hs.x _ (List.getElem_mem hi')),bnd_some,chkP_pos (by omega),nam_eq]
   unfold plG
   rw [hne]
   cases h1:ieq s.nodes[i].id b with
   | false=>simp
   | true =>
    rw [cnd_true]
    cases h2:ieq b 0 with
    | true=>simp
    | false=>rw [cnd_false,chkP_pos (by rw [List.length_append];simp;omega),nam_eq];simp
 ·try dsimp only
  rw [spec_PlaceNode_l2,ilt (by omega),cnd_true,List.take_length]
theorem oplaceL_3 {s:TScene} {p b id:Int} {v1:TScene} {k:Nat} {x:TNode} {init:List TNode} (hs:SB s) (hn:(s.nodes.map (·.id)).Nodup) (hk:k < s.nodes.length) (hki:s.nodes[k].id = id) (hi:init.length ≤ 1) :
  loopI (spec_PlaceNode_l3 s p b v1 (k:Int) x) (0,init) = some (init ++ s.nodes.flatMap (plG id b (withPar x p))):=by
 have hl:=hs.n
 have key:=loopI_n (f:=spec_PlaceNode_l3 s p b v1 (k:Int) x) (fun i=>((i:Int),init ++ (s.nodes.take i).flatMap (plG id b (withPar x p)))) s.nodes.length (r:=init ++ s.nodes.flatMap (plG id b (withPar x p))) (fun i hi'=>?_) ?_
 ·have e:loopI (spec_PlaceNode_l3 s p b v1 (k:Int) x) (0,init ++ ([]:List TNode).flatMap (plG id b (withPar x p))) = some (init ++ s.nodes.flatMap (plG id b (withPar x p))):=key
  rwa [List.flatMap_nil,List.append_nil] at e
 ·try dsimp only
  have hlen:(init ++ (s.nodes.take i).flatMap (plG id b (withPar x p))).length ≤ 1 + 2 * i:=by
   have:=plG_len id b (withPar x p) (s.nodes.take i)
   rw [List.length_take] at this
   rw [List.length_append];omega
  have hst:init ++ (s.nodes.take (i + 1)).flatMap (plG id b (withPar x p)) = (init ++ (s.nodes.take i).flatMap (plG id b (withPar x p))) ++ plG id b (withPar x p) s.nodes[i]:=by
   rw [List.take_add_one,List.getElem?_eq_getElem hi',List.flatMap_append,List.append_assoc]
   congr 2
   simp
  rw [hst]
  obtain ⟨O,hO⟩:∃ O,O = init ++ (s.nodes.take i).flatMap (plG id b (withPar x p)):=⟨_,rfl⟩
  rw [← hO] at hlen ⊢
  rw [spec_PlaceNode_l3,ilf (by omega),cnd_false,idx_nat hi',bnd_some,bnd_some,wr_in (by omega)]
  have hxe:(TNode.mk x.id p x.group x.mat x.path x.even x.width x.dashes x.paint x.mode x.fade x.clip) = withPar x p:=rfl
  have hcast:((i:Int) + 1) = ((i + 1:Nat):Int):=by omega
  rw [hcast,hxe]
  by_cases he:i = k
  ·subst he
   rw [iqt,cnd_true]
   unfold plG
   rw [hki,iqt]
   cases h1:ieq id b with
   | false=>simp
   | true =>
    rw [cnd_true]
    cases h2:ieq b 0 with
    | true=>simp
    | false=>rw [cnd_false,chkP_pos (by omega),nam_eq];simp
  ·have hne:ieq s.nodes[i].id id = false:=by
    rw [← hki]
    refine iqf fun e=>he ?_
    have h1:(s.nodes.map (·.id))[i]'(by rw [List.length_map];omega) = (s.nodes.map (·.id))[k]'(by rw [List.length_map];omega):=by simpa using e
    exact (List.getElem_inj hn).1 h1
   rw [iqf (by omega),cnd_false,m_spec_copyNode (hs.x _ (List.getElem_mem hi')),bnd_some,chkP_pos (by omega),nam_eq]
   unfold plG
   rw [hne]
   cases h1:ieq s.nodes[i].id b with
   | false=>simp
   | true =>
    rw [cnd_true]
    cases h2:ieq b 0 with
    | true=>simp
    | false=>rw [cnd_false,chkP_pos (by rw [List.length_append];simp;omega),nam_eq];simp
 ·try dsimp only
  rw [spec_PlaceNode_l3,ilt (by omega),cnd_true,List.take_length]
theorem oP_no (hs:SB s) (hok:impl_SceneOk s = some true) (h:impl_Scene_isPlace s id p b = some false):impl_PlaceNode s id p b = some (2,s.nodes):=by
 unfold impl_PlaceNode
 rw [o_impl_copyScene hs,bnd_some,hok,bnd_some,cnd_true,h,bnd_some,cnd_false]
theorem oP_ring (hs:SB s) (hok:impl_SceneOk s = some true) (h:impl_Scene_isPlace s id p b = some true) (hr:isIn p (underOf s id) = true):impl_PlaceNode s id p b = some (6,s.nodes):=by
 unfold impl_PlaceNode
 rw [o_impl_copyScene hs,bnd_some,hok,bnd_some,cnd_true,h,bnd_some,cnd_true,m_impl_UnderOf hs.n,bnd_some,m_Contains (under_len hs.n),bnd_some,hr,cnd_true]
theorem oP_go (hs:SB s) (hok:impl_SceneOk s = some true) (h:impl_Scene_isPlace s id p b = some true) (hr:isIn p (underOf s id) = false) (hP:Pl s id p b k) :
  impl_PlaceNode s id p b = some (if impl_SceneOk ⟨placed s b (withPar (s.nodes[k]'hP.hk) p)⟩ = some true then (0,placed s b (withPar (s.nodes[k]'hP.hk) p)) else (5,s.nodes)):=by
 unfold impl_PlaceNode
 rw [o_impl_copyScene hs,bnd_some,hok,bnd_some,cnd_true,h,bnd_some,cnd_true,m_impl_UnderOf hs.n,bnd_some,m_Contains (under_len hs.n),bnd_some,hr,cnd_false]
 exact o_implGo hP
theorem o_PlaceNode (hs:SB s) (id p b:Int):∃ r:Int×List TNode,impl_PlaceNode s id p b = some r∧spec_PlaceNode s id p b = some (⟨r.2⟩,r.1)∧SB ⟨r.2⟩:=by
 have hn:=hs.n
 obtain ⟨s1,sb,s2⟩:=s_SceneOk hs.rows
 have bad:∀ (e:Int),e ≠ 0→impl_PlaceNode s id p b = some (e,s.nodes)→spec_PlaceNode s id p b = some (⟨s.nodes⟩,e)→∃ r:Int×List TNode,impl_PlaceNode s id p b = some r∧spec_PlaceNode s id p b = some (⟨r.2⟩,r.1)∧SB ⟨r.2⟩:=fun e _ h1 h2=>⟨_,h1,h2,hs⟩
 cases sb with
 | false =>
  refine bad 1 (by decide) ?_ ?_
  ·unfold impl_PlaceNode;rw [o_impl_copyScene hs,bnd_some,s1,s2,bnd_some,cnd_false]
  ·unfold spec_PlaceNode;rw [oz_spec_Copy hs,bnd_some,s2,bnd_some,cnd_false]
 | true =>
 have hok:impl_SceneOk s = some true:=by rw [s1,s2]
 obtain ⟨f1,f2,f3⟩:=(sceneOk_par hs.rows).1 hok
 have hz0:∀ z ∈ s.nodes,z.id ≠ 0:=fun z hz e=>by
  have:=(nodeOk_par (f3 z hz).1).2.2
  rw [e,tin_t] at this;omega
 rcases idx_at (s:=s) (id:=id) with ⟨ha,y,hy,_,hyi,hym⟩ | ⟨ha,_,_⟩
 case inr =>
  refine bad 2 (by decide) (oP_no hs hok ?_) ?_
  ·unfold impl_Scene_isPlace;rw [m_impl_NodeAt hn,bnd_some,ilf ha,cnd_false]
  ·unfold spec_PlaceNode;simp only [oz_spec_Copy hs,s2,bnd_some,cnd_true,m_spec_NodeAt hn,ilf ha,cnd_false]
 obtain ⟨pb,p1,p2⟩:=isParent_t hn p
 have hp_iff:pb = true ↔ p = 0 ∨ ∃ z ∈ s.nodes,z.id = p∧z.group = true:=by
  rw [p2]
  refine or_congr Iff.rfl ⟨fun ⟨z,z1,z2⟩=>?_,fun ⟨z,z1,z2,z3⟩=>⟨z,by rw [← z2];exact at_mem f2 z1,z3⟩⟩
  rcases idx_at (s:=s) (id:=p) with ⟨_,w,w1,_,w3,w4⟩ | ⟨hb,_,_⟩
  ·have:=Option.some.inj (w1.symm.trans z1)
   subst this
   exact ⟨_,w4,w3,z2⟩
  ·unfold idx at z1;rw [if_neg (by omega)] at z1;cases z1
 obtain ⟨k,hk,hke⟩:=List.getElem_of_mem hym
 have hatk:nodeAt s id = (k:Int):=by
  have:=nodup_at f2 hk
  rwa [hke,hyi] at this
 have hyb:NB y:=hs.x y hym
 have hid0:id ≠ 0:=by rw [← hyi];exact hz0 y hym
 have hxe:∀ x:TNode,(TNode.mk x.id p x.group x.mat x.path x.even x.width x.dashes x.paint x.mode x.fade x.clip) = withPar x p:=fun _=>rfl
 cases pb with
 | false =>
  have hp':¬ (p = 0 ∨ ∃ z ∈ s.nodes,z.id = p∧z.group = true):=fun h=>by have:=hp_iff.2 h;cases this
  have hp0:p ≠ 0:=fun e=>hp' (.inl e)
  refine bad 2 (by decide) (oP_no hs hok ?_) ?_
  ·unfold impl_Scene_isPlace;rw [m_impl_NodeAt hn,bnd_some,ilt ha,cnd_true,p1,bnd_some,cnd_false]
  ·unfold spec_PlaceNode
   rcases idx_at (s:=s) (id:=p) with ⟨hb,z,hz,_,z1,z2⟩ | ⟨hb,_,_⟩
   ·have hg:z.group = false:=by
     cases hg:z.group with
     | false=>rfl
     | true=>exact absurd (.inr ⟨z,z2,z1,hg⟩) hp'
    simp only [oz_spec_Copy hs,s2,bnd_some,cnd_true,m_spec_NodeAt hn,ilt ha,iqf hp0,cnd_false,ilt hb,hz,hg]
   ·simp only [oz_spec_Copy hs,s2,bnd_some,cnd_true,m_spec_NodeAt hn,ilt ha,iqf hp0,cnd_false,ilf hb]
 | true =>
 have hp:=hp_iff.1 rfl
 have hpz:p ≠ 0→∃ z,idx s.nodes (nodeAt s p) = some z∧z.group = true∧0 ≤ nodeAt s p:=fun hp0=>by
  obtain ⟨z,hz,z1,z2⟩:=hp.resolve_left hp0
  have:=at_mem f2 hz
  rw [z1] at this
  exact ⟨z,this,z2,(idx_toNat this).1⟩
 have hring:=ring_iff (s:=s) (id:=id) (p:=p) hn ha hp hz0
 have go:∀ (hP:Pl s id p b k) (hI:impl_Scene_isPlace s id p b = some true) (hr:isIn p (underOf s id) = false),(∀ O:List TNode,O = placed s b (withPar (s.nodes[k]'hP.hk) p)→spec_PlaceNode s id p b = bnd (spec_SceneOk (TScene.mk O)) fun v=>cnd v (some ((TScene.mk O),0)) (some ((TScene.mk s.nodes),5))) →
   ∃ r:Int×List TNode,impl_PlaceNode s id p b = some r∧spec_PlaceNode s id p b = some (⟨r.2⟩,r.1)∧SB ⟨r.2⟩:=by
  intro hP hI hr hS
  rw [hS _ rfl,oP_go hs hok hI hr hP]
  obtain ⟨t1,tb,t2⟩:=s_SceneOk (placed_sb hP p).rows
  by_cases ho:impl_SceneOk ⟨placed s b (withPar (s.nodes[k]'hP.hk) p)⟩ = some true
  ·rw [if_pos ho]
   have ho2:=ho
   rw [t1] at ho2
   rw [ho2,bnd_some,cnd_true]
   exact ⟨_,rfl,rfl,placed_sb hP p⟩
  ·rw [if_neg ho]
   rw [t1,t2] at ho
   have:tb = false:=by cases tb <;> simp_all
   rw [t2,this,bnd_some,cnd_false]
   exact ⟨_,rfl,rfl,hs⟩
 have hki:∀ h:k < s.nodes.length,s.nodes[k].id = id:=fun _=>by rw [hke,hyi]
 have hIy:∀ {v:Bool},(cnd (ieq b 0) (some true) (cnd (ieq b id) (some false) (some (ile 0 (nodeAt s b))))) = some v→impl_Scene_isPlace s id p b = some v:=fun {v} h=>by
  unfold impl_Scene_isPlace
  rw [m_impl_NodeAt hn,bnd_some,ilt ha,cnd_true,p1,bnd_some,cnd_true,m_impl_NodeAt hn,bnd_some];exact h
 by_cases b0:b = 0
 ·-- ahead of all
  have hI:impl_Scene_isPlace s id p b = some true:=hIy (by rw [b0,iqt,cnd_true])
  have hbi:ieq b id = false:=iqf (by rw [b0];exact Ne.symm hid0)
  have hb0:ieq b 0 = true:=by rw [b0,iqt]
  by_cases hp0:p = 0
  ·have hP:Pl s id p b k:=⟨hs,hok,hk,hki,hp,.inl b0,.inl hp0⟩
   have hp00:ieq p 0 = true:=by rw [hp0,iqt]
   refine go hP hI (by rw [hring,hp00];rfl) fun O hO=>?_
   have:=oplaceL_0 (p:=p) (b:=b) (id:=id) (v1:=⟨s.nodes⟩) (x:=y) (init:=[withPar y p]) hs f2 hk (hki hk) (by simp)
   have hfe:=flat_eq hP (x':=withPar y p) hyi
   rw [if_pos b0] at hfe
   rw [hfe] at this
   unfold spec_PlaceNode
   simp only [oz_spec_Copy hs,s2,bnd_some,cnd_true,m_spec_NodeAt hn,ilt ha,hp00,hb0,hbi,cnd_false]
   rw [hy,bnd_some,m_spec_copyNode hyb,bnd_some,hatk,hxe,this,bnd_some,hO,hke]
  ·obtain ⟨z,hz,hg,hza⟩:=hpz hp0
   cases hct:ct (upOf s) 8 p id with
   | true =>
    refine bad 6 (by decide) (oP_ring hs hok hI (by rw [hring,iqf hp0,hct];rfl)) ?_
    unfold spec_PlaceNode
    simp only [oz_spec_Copy hs,s2,bnd_some,cnd_true,m_spec_NodeAt hn,ilt ha,iqf hp0,ilt hza,hz,hg,hb0,hbi,cnd_false,m_Under hn,hct]
   | false =>
    have hP:Pl s id p b k:=⟨hs,hok,hk,hki,hp,.inl b0,.inr hct⟩
    refine go hP hI (by rw [hring,hct];simp) fun O hO=>?_
    have:=oplaceL_2 (p:=p) (b:=b) (id:=id) (v1:=⟨s.nodes⟩) (x:=y) (init:=[withPar y p]) hs f2 hk (hki hk) (by simp)
    have hfe:=flat_eq hP (x':=withPar y p) hyi
    rw [if_pos b0] at hfe
    rw [hfe] at this
    unfold spec_PlaceNode
    simp only [oz_spec_Copy hs,s2,bnd_some,cnd_true,m_spec_NodeAt hn,ilt ha,iqf hp0,ilt hza,hz,hg,hb0,hbi,cnd_false,m_Under hn,hct]
    rw [hy,bnd_some,m_spec_copyNode hyb,bnd_some,hatk,hxe,this,bnd_some,hO,hke]
 ·have hb0:ieq b 0 = false:=iqf b0
  by_cases bi:b = id
  ·-- behind itself
   have hbi:ieq b id = true:=by rw [bi,iqt]
   have hbn:0 ≤ nodeAt s b:=by rw [bi];exact ha
   refine bad 2 (by decide) (oP_no hs hok (hIy (by rw [hb0,hbi,cnd_false,cnd_true]))) ?_
   unfold spec_PlaceNode
   by_cases hp0:p = 0
   ·have hp00:ieq p 0 = true:=by rw [hp0,iqt]
    simp only [oz_spec_Copy hs,s2,bnd_some,cnd_true,m_spec_NodeAt hn,ilt ha,hp00,hb0,hbi,cnd_false,ilt hbn]
   ·obtain ⟨z,hz,hg,hza⟩:=hpz hp0
    simp only [oz_spec_Copy hs,s2,bnd_some,cnd_true,m_spec_NodeAt hn,ilt ha,iqf hp0,ilt hza,hz,hg,hb0,hbi,cnd_false,ilt hbn]
  ·have hbi:ieq b id = false:=iqf bi
   rcases idx_at (s:=s) (id:=b) with ⟨hbn,z0,_,_,z01,z02⟩ | ⟨hbn,_,_⟩
   case inr =>
    refine bad 2 (by decide) (oP_no hs hok (hIy (by rw [hb0,hbi,cnd_false,cnd_false,ilf hbn]))) ?_
    unfold spec_PlaceNode
    by_cases hp0:p = 0
    ·have hp00:ieq p 0 = true:=by rw [hp0,iqt]
     simp only [oz_spec_Copy hs,s2,bnd_some,cnd_true,m_spec_NodeAt hn,ilt ha,hp00,hb0,cnd_false,ilf hbn]
    ·obtain ⟨z,hz,hg,hza⟩:=hpz hp0
     simp only [oz_spec_Copy hs,s2,bnd_some,cnd_true,m_spec_NodeAt hn,ilt ha,iqf hp0,ilt hza,hz,hg,hb0,cnd_false,ilf hbn]
   have hI:impl_Scene_isPlace s id p b = some true:=hIy (by rw [hb0,hbi,cnd_false,cnd_false,ilt hbn])
   by_cases hp0:p = 0
   ·have hP:Pl s id p b k:=⟨hs,hok,hk,hki,hp,.inr ⟨bi,z0,z02,z01⟩,.inl hp0⟩
    have hp00:ieq p 0 = true:=by rw [hp0,iqt]
    refine go hP hI (by rw [hring,hp00];rfl) fun O hO=>?_
    have:=oplaceL_1 (p:=p) (b:=b) (id:=id) (v1:=⟨s.nodes⟩) (x:=y) (init:=[]) hs f2 hk (hki hk) (by simp)
    have hfe:=flat_eq hP (x':=withPar y p) hyi
    rw [if_neg b0] at hfe
    rw [hfe] at this
    unfold spec_PlaceNode
    simp only [oz_spec_Copy hs,s2,bnd_some,cnd_true,m_spec_NodeAt hn,ilt ha,hp00,hb0,hbi,cnd_false,ilt hbn]
    rw [hy,bnd_some,m_spec_copyNode hyb,bnd_some,hatk,this,bnd_some,hO,hke]
   ·obtain ⟨z,hz,hg,hza⟩:=hpz hp0
    cases hct:ct (upOf s) 8 p id with
    | true =>
     refine bad 6 (by decide) (oP_ring hs hok hI (by rw [hring,iqf hp0,hct];rfl)) ?_
     unfold spec_PlaceNode
     simp only [oz_spec_Copy hs,s2,bnd_some,cnd_true,m_spec_NodeAt hn,ilt ha,iqf hp0,ilt hza,hz,hg,hb0,hbi,cnd_false,m_Under hn,hct,ilt hbn]
    | false =>
     have hP:Pl s id p b k:=⟨hs,hok,hk,hki,hp,.inr ⟨bi,z0,z02,z01⟩,.inr hct⟩
     refine go hP hI (by rw [hring,hct];simp) fun O hO=>?_
     have:=oplaceL_3 (p:=p) (b:=b) (id:=id) (v1:=⟨s.nodes⟩) (x:=y) (init:=[]) hs f2 hk (hki hk) (by simp)
     have hfe:=flat_eq hP (x':=withPar y p) hyi
     rw [if_neg b0] at hfe
     rw [hfe] at this
     unfold spec_PlaceNode
     simp only [oz_spec_Copy hs,s2,bnd_some,cnd_true,m_spec_NodeAt hn,ilt ha,iqf hp0,ilt hza,hz,hg,hb0,hbi,cnd_false,m_Under hn,hct,ilt hbn]
     rw [hy,bnd_some,m_spec_copyNode hyb,bnd_some,hatk,this,bnd_some,hO,hke]
end
theorem m_FnExactPlaceNode {s:TScene} {id p b:Int} (ha:ok_Scene s) (_:okN .i64 id) (_:okN .i64 p) (_:okN .i64 b):laws_FnExactPlaceNode s id p b = some true:=by
 unfold laws_FnExactPlaceNode
 obtain ⟨v,e1,l1,l2,g1⟩:=f_laws_szScene ha (left:=1048576) (by omega) (by omega)
 rw [e1,bnd_some]
 by_cases c1:0 ≤ v
 case neg=>rw [ilf (by omega),cnd_false]
 rw [ilt c1,cnd_true]
 have hs:=sb_gd (g1 c1)
 rw [f_laws_toScene (g1 c1),bnd_some]
 obtain ⟨⟨rc,rl⟩,r1,r2,hr⟩:=o_PlaceNode hs id p b
 rw [r2,bnd_some]
 dsimp only
 rw [r1,bnd_some]
 dsimp only
 rw [f_laws_eqScene (gd_sb hr),bnd_some,cnd_true,iqt,cnd_true,f_laws_eqScene (g1 c1),bnd_some,cnd_true]
 obtain ⟨L,k,k1,_,k3,_⟩:=nodeS_mh hs.n hs.x
 rw [k3,bnd_some]
 dsimp only
 rw [ilt (by omega),cnd_true]
 obtain ⟨L',k',j1,_,j3,j4⟩:=nodeS_mh hr.n hr.x
 rw [j3,bnd_some]
 dsimp only
 rw [j4,bnd_some,ilt (by omega),cnd_true,iqt,cnd_true]
end Go.Proofs.Ytapchldnmkfkoab.Am
