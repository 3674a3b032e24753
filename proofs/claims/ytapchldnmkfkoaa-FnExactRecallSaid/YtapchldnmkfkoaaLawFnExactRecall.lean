import Derived.Test.YtapchldnmkfkoaaRows
import Derived.Test.YtapchldnmkfkoaaAmRcPf
import Derived.Test.YtapchldnmkfkoaaAmRcPu
import Derived.WalkKit
import Derived.ProofKit
import Derived.OpenShut
import Derived.ShutString
import Derived.ChangeOld
import Derived.Below
import Derived.Carry
import Derived.SizedLaws
import Derived.Eval
import Derived.JoinedOf
namespace Go.Proofs.Ytapchldnmkfkoaa.fnExactRecall
open Go.ChangeShapes Go.WideShapes Go.ChangeAt Go.RowKit Go.Proofs.Ytapchldnmkfkoaa.Am
set_option linter.unusedVariables false
theorem own : ownKnob Try.prog.godebug = none := by kernel_rfl
namespace facts
noncomputable abbrev P : Program := Try.pinned.checked.prog
noncomputable abbrev f : FuncId := 6
noncomputable abbrev fn : Func := Try.f6
noncomputable abbrev s : ChangeSpec := Rows.fnExactRecallSpec
noncomputable abbrev c : OpenClaim := Rows.fnExactRecallRow
theorem j0 : (c.wf (OpenSpec.ofChange s)) = true := by kernel_rfl
theorem j1 : (laidOutB P) = true := by kernel_rfl
theorem j2 : (mapsRowed P) = true := by kernel_rfl
theorem j3 : (fn.params.all (P.readableRec ·)) = true := by kernel_rfl
theorem j4 : (namedTie P c.named s.vars) = true := by kernel_rfl
theorem j5 : ((c.stops == [])) = true := by kernel_rfl
theorem j6 : ((P.stops == [])) = true := by kernel_rfl
theorem j7 : ((c.knobs == [])) = true := by kernel_rfl
theorem j8 : ((P.stopKnobs == [])) = true := by kernel_rfl
theorem j9 : ((c.inPlace == P.inPlace f)) = true := by kernel_rfl
theorem j10 : ((c.unfollowed == P.unfollowed f)) = true := by kernel_rfl
theorem j11 : ((c.recurses == P.recurses f)) = true := by kernel_rfl
theorem j12 : ((c.named == P.varsNamed f)) = true := by kernel_rfl
theorem j13 : ((c.maps == (fn.params.toList ++ s.plain.varTypes P).any (P.mapsRec ·))) = true := by kernel_rfl
theorem j14 : ((c.ifaces == (fn.params.toList ++ s.plain.varTypes P).any (P.ifacesRec ·))) = true := by kernel_rfl
theorem j15 : ((c.mapsOut == P.mapsAmong fn.resultTypes.toList)) = true := by kernel_rfl
theorem j16 : ((c.loops == (fn.params.toList ++ s.plain.varTypes P).any (P.loopsFrom ·))) = true := by kernel_rfl
theorem j17 : ((c.wideKeys == (fn.params.toList ++ s.plain.varTypes P ++ fn.resultTypes.toList).any (P.wideKeysFrom ·))) = true := by kernel_rfl
theorem j18 : (s.vars.all (P.varReadable ·)) = true := by kernel_rfl
theorem j19 : (fn.resultTypes.all (fun t => P.readableRec t && decide (t < P.types.size))) = true := by kernel_rfl
theorem j20 : ((c.ifacesOut == fn.resultTypes.toList.any (P.ifacesRec ·))) = true := by kernel_rfl
theorem j21 : ((c.loopsOut == fn.resultTypes.toList.any (P.loopsFrom ·))) = true := by kernel_rfl
theorem j22 : ((c.plainKeys == P.plainKeys)) = true := by kernel_rfl
theorem j23 : (c.shortTexts.isNone) = true := by kernel_rfl
theorem j24 : (P.stopsHeard) = true := by kernel_rfl
theorem j25 : (P.mayEnter) = true := by kernel_rfl
theorem j26 : ((c.lifted == P.liftsFinal)) = true := by kernel_rfl
theorem j27 : ((P.make == some c.make)) = true := by kernel_rfl
theorem j29 : ((c.pinned == c.pinnedBy)) = true := by kernel_rfl
theorem j30 : ((c.veiled == (fn.params.toList ++ s.plain.varTypes P ++ fn.resultTypes.toList).any (P.veiledRec ·))) = true := by kernel_rfl
theorem j31 : (c.veiledFits P fn.params.toList (fn.params.toList ++ s.plain.varTypes P ++ fn.resultTypes.toList)) = true := by kernel_rfl
theorem all : joinedFacts P f fn s c = true := by
  unfold joinedFacts
  rw [j0, j1, j2, j3, j4, j5, j6, j7, j8, j9, j10, j11, j12, j13, j14, j15, j16, j17, j18, j19, j20, j21, j22, j23, j24, j25, j26, j27, j29, j30, j31]
  kernel_rfl
end facts
set_option maxRecDepth 100000 in
theorem lifted (os : Os) (started : os.Started) (H : Type) (enc : TypeId × Value → H) :
    ReturnsInHanded {} Try.checked os 6 .any (Rows.fnExactRecallSpec.pre6 enc Try.prog Try.f6 Rows.fnExactRecallRow.domain false) (Rows.fnExactRecallSpec.post enc Try.prog Try.f6 false true false false) := by
  refine returnsInHanded_of_change_sized (C := Try.checked) own started (by kernel_rfl) Try.func6
    (ChangeSpec.witness6 (enc := enc) (C := Try.checked) false ⟨#[], #[.agg #[.int .i64 0, .slice none 0 0], .int .i64 0], []⟩ 8 (by kernel_rfl) (by kernel_rfl) (by kernel_rfl) (by kernel_rfl)) ?_
  intro W base args ds gs before hval0 hW hcnd hsz0 _
  have hval : ∀ (j : Nat) t v, Try.f6.params[j]? = some t → args[j]? = some v → Value.okWide Try.prog W .any base t v := hval0
  have hW' := hW
  obtain ⟨p, q, hA0, hV, rfl, hfz, hnd⟩ := hW
  have hA : DataW.TrodAll enc Try.prog W 0 (fun _ => true) true Try.f6.params.toList args.toList ds p := hA0
  rw [Try.params6] at hA hval
  obtain ⟨v0, vs0, d0, ds0, p0, q0, hargs, rfl, rfl, h0, r0⟩ := trodAll_cons hA
  obtain ⟨v1, vs1, d1, ds1, p1, q1, rfl, rfl, rfl, h1, r1⟩ := trodAll_cons r0
  obtain ⟨rfl, rfl, rfl⟩ := trodAll_nil r1
  obtain rfl : args = #[v0, v1] := by cases args; simp_all
  obtain ⟨rfl, rfl⟩ := trodVars_none hV
  have h0x := h0; obtain ⟨fu0, t0⟩ := h0x
  obtain ⟨c0, e0, w0⟩ := arg_of (T := .struct [.int .i64, .slice (.struct [.int .i64, .struct [.struct [.int .i64, .int .i64, .int .i64, .int .i64], .slice (.int .i64)]])]) (d := 40) (by kernel_rfl) (hval 0 35 v0 rfl rfl) t0
  obtain ⟨x0, y0, k0⟩ := dm_Cache.h c0 e0
  rw [y0] at w0
  have h1x := h1; obtain ⟨fu1, t1⟩ := h1x
  obtain ⟨c1, e1, w1⟩ := arg_of (T := .int .i64) (d := 40) (by kernel_rfl) (hval 1 3 v1 rfl rfl) t1
  obtain ⟨x1, y1, k1⟩ := dm_int.h c1 e1
  rw [y1] at w1
  clear hA0 hval0 hsz0
  have hc : laws_FnExactRecall_x [(eCache x0), ((AV.int .i64) x1)] [] = some (.bool true, []) := by
    refine (laws_FnExactRecall_k x0.most x0.list x1).trans ?_
    show mapR (laws_FnExactRecall x0 x1) _ = _
    rw [m_FnExactRecall k0 k1]; rfl
  refine (calls_ok (cargs := #[v0, v1]) (laws_FnExactRecall_ok Try.checked.mixed) hc (vrl_cons w0 (vrl_cons w1 vrl_nil))).mono fun e W' ⟨he, bel⟩ => ?_
  subst he
  exact ⟨_, rfl, _, _, _, [], _, [], hW', trodAll_mk1 (shut_bool Try.underlying4 _), (trodAll_cons_mk (Below.trod facts.j1 (by kernel_rfl) (of_decide_eq_true (by kernel_rfl)) h0 bel (DataW.trod_lt _ _ _ _ t0)) (trodAll_cons_mk (Below.trod facts.j1 (by kernel_rfl) (of_decide_eq_true (by kernel_rfl)) h1 bel (DataW.trod_lt _ _ _ _ t1)) trodAll_mk0)), rfl, bel.frame _, fun h => by cases h⟩
theorem over : Rows.fnExactRecallRow.holds Try.pinned (OpenSpec.ofChange Rows.fnExactRecallSpec) :=
  OpenClaim.holds_of_wide 6 Try.f6 rfl rfl rfl rfl rfl rfl rfl ⟨rfl, rfl, rfl, rfl, rfl⟩ rfl rfl rfl rfl rfl (by as_aux_lemma => kernel_rfl) Try.func6 facts.all
    (of_decide_eq_true (by kernel_rfl)) (by unfold Func.isWrapper; first | (rw [if_pos (by decide +kernel)]; kernel_rfl) | (rw [if_neg (by decide +kernel)]; exact ⟨rfl, rfl⟩))
    (fun os started H enc _ => lifted os started H enc)
end Go.Proofs.Ytapchldnmkfkoaa.fnExactRecall
namespace Go.Proofs.Ytapchldnmkfkoaa
/-- The row, under a short name, for the claim. -/
theorem fnExactRecall_holds : Rows.FnExactRecallSaid := fnExactRecall.over
end Go.Proofs.Ytapchldnmkfkoaa
