import Derived.Test.YtapchldnmkfkoabRows
import Derived.Test.YtapchldnmkfkoabAmPnPf
import Derived.Test.YtapchldnmkfkoabAmPnPu
import Derived.WalkKit
import Derived.ProofKit
import Derived.OpenShut
import Derived.ShutString
import Derived.ChangeOld
import Derived.Below
import Derived.Carry
import Derived.SizedLaws
import Derived.Eval
import Derived.JoinedOf
namespace Go.Proofs.Ytapchldnmkfkoab.fnExactPlaceNode
open Go.ChangeShapes Go.WideShapes Go.ChangeAt Go.RowKit Go.Proofs.Ytapchldnmkfkoab.Am
set_option linter.unusedVariables false
theorem own : ownKnob Try.prog.godebug = none:=by kernel_rfl
namespace facts
noncomputable abbrev P : Program:=Try.pinned.checked.prog
noncomputable abbrev f : FuncId:=7
noncomputable abbrev fn : Func:=Try.f7
noncomputable abbrev s : ChangeSpec:=Rows.fnExactPlaceNodeSpec
noncomputable abbrev c : OpenClaim:=Rows.fnExactPlaceNodeRow
theorem j0 : (c.wf (OpenSpec.ofChange s)) = true:=by kernel_rfl
theorem j1 : (laidOutB P) = true:=by kernel_rfl
theorem j2 : (mapsRowed P) = true:=by kernel_rfl
theorem j3 : (fn.params.all (P.readableRec ·)) = true:=by kernel_rfl
theorem j4 : (namedTie P c.named s.vars) = true:=by kernel_rfl
theorem j5 : ((c.stops == [])) = true:=by kernel_rfl
theorem j6 : ((P.stops == [])) = true:=by kernel_rfl
theorem j7 : ((c.knobs == [])) = true:=by kernel_rfl
theorem j8 : ((P.stopKnobs == [])) = true:=by kernel_rfl
theorem j9 : ((c.inPlace == P.inPlace f)) = true:=by kernel_rfl
theorem j10 : ((c.unfollowed == P.unfollowed f)) = true:=by kernel_rfl
theorem j11 : ((c.recurses == P.recurses f)) = true:=by kernel_rfl
theorem j12 : ((c.named == P.varsNamed f)) = true:=by kernel_rfl
theorem j13 : ((c.maps == (fn.params.toList ++ s.plain.varTypes P).any (P.mapsRec ·))) = true:=by kernel_rfl
theorem j14 : ((c.ifaces == (fn.params.toList ++ s.plain.varTypes P).any (P.ifacesRec ·))) = true:=by kernel_rfl
theorem j15 : ((c.mapsOut == P.mapsAmong fn.resultTypes.toList)) = true:=by kernel_rfl
theorem j16 : ((c.loops == (fn.params.toList ++ s.plain.varTypes P).any (P.loopsFrom ·))) = true:=by kernel_rfl
theorem j17 : ((c.wideKeys == (fn.params.toList ++ s.plain.varTypes P ++ fn.resultTypes.toList).any (P.wideKeysFrom ·))) = true:=by kernel_rfl
theorem j18 : (s.vars.all (P.varReadable ·)) = true:=by kernel_rfl
theorem j19 : (fn.resultTypes.all (fun t=>P.readableRec t && decide (t < P.types.size))) = true:=by kernel_rfl
theorem j20 : ((c.ifacesOut == fn.resultTypes.toList.any (P.ifacesRec ·))) = true:=by kernel_rfl
theorem j21 : ((c.loopsOut == fn.resultTypes.toList.any (P.loopsFrom ·))) = true:=by kernel_rfl
theorem j22 : ((c.plainKeys == P.plainKeys)) = true:=by kernel_rfl
theorem j23 : (c.shortTexts.isNone) = true:=by kernel_rfl
theorem j24 : (P.stopsHeard) = true:=by kernel_rfl
theorem j25 : (P.mayEnter) = true:=by kernel_rfl
theorem j26 : ((c.lifted == P.liftsFinal)) = true:=by kernel_rfl
theorem j27 : ((P.make == some c.make)) = true:=by kernel_rfl
theorem j29 : ((c.pinned == c.pinnedBy)) = true:=by kernel_rfl
theorem j30 : ((c.veiled == (fn.params.toList ++ s.plain.varTypes P ++ fn.resultTypes.toList).any (P.veiledRec ·))) = true:=by kernel_rfl
theorem j31 : (c.veiledFits P fn.params.toList (fn.params.toList ++ s.plain.varTypes P ++ fn.resultTypes.toList)) = true:=by kernel_rfl
theorem all : joinedFacts P f fn s c = true:=by
 unfold joinedFacts
 rw [j0,j1,j2,j3,j4,j5,j6,j7,j8,j9,j10,j11,j12,j13,j14,j15,j16,j17,j18,j19,j20,j21,j22,j23,j24,j25,j26,j27,j29,j30,j31]
 kernel_rfl
end facts
set_option maxRecDepth 100000 in
theorem lifted (os : Os) (started : os.Started) (H : Type) (enc : TypeId×Value → H) :
  ReturnsInHanded {} Try.checked os 7 .any (Rows.fnExactPlaceNodeSpec.pre6 enc Try.prog Try.f7 Rows.fnExactPlaceNodeRow.domain false) (Rows.fnExactPlaceNodeSpec.post enc Try.prog Try.f7 false true false false):=by
 refine returnsInHanded_of_change_sized (C:=Try.checked) own started (by kernel_rfl) Try.func7
  (ChangeSpec.witness6 (enc:=enc) (C:=Try.checked) false ⟨#[],#[.agg #[.slice none 0 0],.int .i64 0,.int .i64 0,.int .i64 0],[]⟩ 8 (by kernel_rfl) (by kernel_rfl) (by kernel_rfl) (by kernel_rfl)) ?_
 intro W base args ds gs before hval0 hW hcnd hsz0 _
 have hval : ∀ (j : Nat) t v,Try.f7.params[j]? = some t → args[j]? = some v → Value.okWide Try.prog W .any base t v:=hval0
 have hW':=hW
 obtain ⟨p,q,hA0,hV,rfl,hfz,hnd⟩:=hW
 have hA : DataW.TrodAll enc Try.prog W 0 (fun _=>true) true Try.f7.params.toList args.toList ds p:=hA0
 rw [Try.params7] at hA hval
 obtain ⟨v0,vs0,d0,ds0,p0,q0,hargs,rfl,rfl,h0,r0⟩:=trodAll_cons hA
 obtain ⟨v1,vs1,d1,ds1,p1,q1,rfl,rfl,rfl,h1,r1⟩:=trodAll_cons r0
 obtain ⟨v2,vs2,d2,ds2,p2,q2,rfl,rfl,rfl,h2,r2⟩:=trodAll_cons r1
 obtain ⟨v3,vs3,d3,ds3,p3,q3,rfl,rfl,rfl,h3,r3⟩:=trodAll_cons r2
 obtain ⟨rfl,rfl,rfl⟩:=trodAll_nil r3
 obtain rfl : args = #[v0,v1,v2,v3]:=by cases args; simp_all
 obtain ⟨rfl,rfl⟩:=trodVars_none hV
 have h0x:=h0; obtain ⟨fu0,t0⟩:=h0x
 obtain ⟨c0,e0,w0⟩:=arg_of (T:=.struct [.slice (.struct [.int .i64,.int .i64,.bool,.struct [.int .i64,.int .i64,.int .i64,.int .i64,.int .i64,.int .i64],.struct [.slice (.int .i64),.slice (.struct [.int .i64,.int .i64])],.bool,.int .i64,.slice (.int .i64),.struct [.int .i64,.struct [.int .i64,.int .i64,.int .i64,.int .i64],.struct [.int .i64,.int .i64,.int .i64,.int .i64],.struct [.int .i64,.int .i64],.struct [.int .i64,.int .i64]],.int .i64,.int .i64,.struct [.slice (.int .i64),.slice (.struct [.int .i64,.int .i64])]])]) (d:=40) (by kernel_rfl) (hval 0 51 v0 rfl rfl) t0
 obtain ⟨x0,y0,k0⟩:=dm_Scene.h c0 e0
 rw [y0] at w0
 have h1x:=h1; obtain ⟨fu1,t1⟩:=h1x
 obtain ⟨c1,e1,w1⟩:=arg_of (T:=.int .i64) (d:=40) (by kernel_rfl) (hval 1 3 v1 rfl rfl) t1
 obtain ⟨x1,y1,k1⟩:=dm_int.h c1 e1
 rw [y1] at w1
 have h2x:=h2; obtain ⟨fu2,t2⟩:=h2x
 obtain ⟨c2,e2,w2⟩:=arg_of (T:=.int .i64) (d:=40) (by kernel_rfl) (hval 2 3 v2 rfl rfl) t2
 obtain ⟨x2,y2,k2⟩:=dm_int.h c2 e2
 rw [y2] at w2
 have h3x:=h3; obtain ⟨fu3,t3⟩:=h3x
 obtain ⟨c3,e3,w3⟩:=arg_of (T:=.int .i64) (d:=40) (by kernel_rfl) (hval 3 3 v3 rfl rfl) t3
 obtain ⟨x3,y3,k3⟩:=dm_int.h c3 e3
 rw [y3] at w3
 clear hA0 hval0 hsz0
 have hc : laws_FnExactPlaceNode_x [(eScene x0),((AV.int .i64) x1),((AV.int .i64) x2),((AV.int .i64) x3)] [] = some (.bool true,[]):=by
  refine (laws_FnExactPlaceNode_k x0.nodes x1 x2 x3).trans ?_
  show mapR (laws_FnExactPlaceNode x0 x1 x2 x3) _ = _
  rw [m_FnExactPlaceNode k0 k1 k2 k3]; rfl
 refine (calls_ok (cargs:=#[v0,v1,v2,v3]) (laws_FnExactPlaceNode_ok Try.checked.mixed) hc (vrl_cons w0 (vrl_cons w1 (vrl_cons w2 (vrl_cons w3 vrl_nil))))).mono fun e W' ⟨he,bel⟩=>?_
 subst he
 exact ⟨_,rfl,_,_,_,[],_,[],hW',trodAll_mk1 (shut_bool Try.underlying4 _),(trodAll_cons_mk (Below.trod facts.j1 (by kernel_rfl) (of_decide_eq_true (by kernel_rfl)) h0 bel (DataW.trod_lt _ _ _ _ t0)) (trodAll_cons_mk (Below.trod facts.j1 (by kernel_rfl) (of_decide_eq_true (by kernel_rfl)) h1 bel (DataW.trod_lt _ _ _ _ t1)) (trodAll_cons_mk (Below.trod facts.j1 (by kernel_rfl) (of_decide_eq_true (by kernel_rfl)) h2 bel (DataW.trod_lt _ _ _ _ t2)) (trodAll_cons_mk (Below.trod facts.j1 (by kernel_rfl) (of_decide_eq_true (by kernel_rfl)) h3 bel (DataW.trod_lt _ _ _ _ t3)) trodAll_mk0)))),rfl,bel.frame _,fun h=>by cases h⟩
theorem over : Rows.fnExactPlaceNodeRow.holds Try.pinned (OpenSpec.ofChange Rows.fnExactPlaceNodeSpec) :=
 OpenClaim.holds_of_wide 7 Try.f7 rfl rfl rfl rfl rfl rfl rfl ⟨rfl,rfl,rfl,rfl,rfl⟩ rfl rfl rfl rfl rfl (by as_aux_lemma=>kernel_rfl) Try.func7 facts.all
  (of_decide_eq_true (by kernel_rfl)) (by unfold Func.isWrapper; first | (rw [if_pos (by decide +kernel)]; kernel_rfl) | (rw [if_neg (by decide +kernel)]; exact ⟨rfl,rfl⟩))
  (fun os started H enc _=>lifted os started H enc)
end Go.Proofs.Ytapchldnmkfkoab.fnExactPlaceNode
namespace Go.Proofs.Ytapchldnmkfkoab
/-- The row, under a short name, for the claim. -/
theorem fnExactPlaceNode_holds : Rows.FnExactPlaceNodeSaid:=fnExactPlaceNode.over
end Go.Proofs.Ytapchldnmkfkoab
