import Derived.Test.YtapchldnmkfkoabDoorRows
import Derived.Test.YtapchldnmkfkoabDoorTie
import Derived.Test.YtapchldnmkfkoabDoorCards
import Derived.Test.YtapchldnmkfkoabDoorAmRsPf
import Derived.Test.YtapchldnmkfkoabDoorAmRsPu
import Derived.WalkKit
import Derived.ProofKit
import Derived.OpenShut
import Derived.ShutString
import Derived.ChangeOld
import Derived.Below
import Derived.Carry
import Derived.SizedLaws
import Derived.Eval
import Derived.JoinedOf
import Derived.Handed
import Derived.HandedShaped
import Derived.LaidMore
import Derived.Lay
import Derived.LaidSub
import Derived.MakeChecks
import Derived.Lib.LaidTab
import Derived.Shelf.Vars
import Derived.SevenTiedAt
namespace Go.Proofs.YtapchldnmkfkoabDoor.fnExactReadScript
open Go.ChangeShapes Go.WideShapes Go.ChangeAt Go.RowKit Go.Proofs.YtapchldnmkfkoabDoor.Am
set_option linter.unusedVariables false
theorem own : ownKnob Tryd.prog.godebug = none := by kernel_rfl
namespace facts
noncomputable abbrev P : Program := Tryd.pinned.checked.prog
noncomputable abbrev f : FuncId := 3
noncomputable abbrev fn : Func := Tryd.f3
noncomputable abbrev s : ChangeSpec := Rows.fnExactReadScriptSpec
noncomputable abbrev c : OpenClaim := Rows.fnExactReadScriptRow
theorem j0 : (c.wf (OpenSpec.ofChange s)) = true := by kernel_rfl
theorem j1 : (laidOutB P) = true := by kernel_rfl
theorem j2 : (mapsRowed P) = true := by kernel_rfl
theorem j3 : (fn.params.all (P.readableRec ·)) = true := by kernel_rfl
theorem j4 : (namedTie P c.named s.vars) = true := by kernel_rfl
theorem j5 : ((c.stops == [])) = true := by kernel_rfl
theorem j6 : ((P.stops == [])) = true := by kernel_rfl
theorem j7 : ((c.knobs == [])) = true := by kernel_rfl
theorem j8 : ((P.stopKnobs == [])) = true := by kernel_rfl
theorem j9 : ((c.inPlace == P.inPlace f)) = true := by kernel_rfl
theorem j10 : ((c.unfollowed == P.unfollowed f)) = true := by kernel_rfl
theorem j11 : ((c.recurses == P.recurses f)) = true := by kernel_rfl
theorem j12 : ((c.named == P.varsNamed f)) = true := by kernel_rfl
theorem j13 : ((c.maps == (fn.params.toList ++ s.plain.varTypes P).any (P.mapsRec ·))) = true := by kernel_rfl
theorem j14 : ((c.ifaces == (fn.params.toList ++ s.plain.varTypes P).any (P.ifacesRec ·))) = true := by kernel_rfl
theorem j15 : ((c.mapsOut == P.mapsAmong fn.resultTypes.toList)) = true := by kernel_rfl
theorem j16 : ((c.loops == (fn.params.toList ++ s.plain.varTypes P).any (P.loopsFrom ·))) = true := by kernel_rfl
theorem j17 : ((c.wideKeys == (fn.params.toList ++ s.plain.varTypes P ++ fn.resultTypes.toList).any (P.wideKeysFrom ·))) = true := by kernel_rfl
theorem j18 : (s.vars.all (P.varReadable ·)) = true := by kernel_rfl
theorem j19 : (fn.resultTypes.all (fun t => P.readableRec t && decide (t < P.types.size))) = true := by kernel_rfl
theorem j20 : ((c.ifacesOut == fn.resultTypes.toList.any (P.ifacesRec ·))) = true := by kernel_rfl
theorem j21 : ((c.loopsOut == fn.resultTypes.toList.any (P.loopsFrom ·))) = true := by kernel_rfl
theorem j22 : ((c.plainKeys == P.plainKeys)) = true := by kernel_rfl
theorem j23 : (c.shortTexts.isNone) = true := by kernel_rfl
theorem j24 : (P.stopsHeard) = true := by kernel_rfl
theorem j25 : (P.mayEnter) = true := by kernel_rfl
theorem j26 : ((c.lifted == P.liftsFinal)) = true := by kernel_rfl
theorem j27 : ((P.make == some c.make)) = true := by kernel_rfl
theorem j29 : ((c.pinned == c.pinnedBy)) = true := by kernel_rfl
theorem j30 : ((c.veiled == (fn.params.toList ++ s.plain.varTypes P ++ fn.resultTypes.toList).any (P.veiledRec ·))) = true := by kernel_rfl
theorem j31 : (c.veiledFits P fn.params.toList (fn.params.toList ++ s.plain.varTypes P ++ fn.resultTypes.toList)) = true := by kernel_rfl
theorem all : joinedFacts P f fn s c = true := by
  unfold joinedFacts
  rw [j0, j1, j2, j3, j4, j5, j6, j7, j8, j9, j10, j11, j12, j13, j14, j15, j16, j17, j18, j19, j20, j21, j22, j23, j24, j25, j26, j27, j29, j30, j31]
  kernel_rfl
end facts
theorem handed {H : Type} {enc : TypeId × Value → H} {a : Assume} {C : Checked} {os : Os} {f : FuncId} {fn : Func} {s : ChangeSpec} {conds : List PathCond} {apart fresh handsOn again : Bool} {X : World → Array Value → Prop}
    (hX : ∀ (w w' : World) (args : Array Value), w.heap = w'.heap → X w args → X w' args)
    (own : ownKnob C.prog.godebug = none) (started : os.Started) (noInit : C.prog.inits.idxOf? f = none) (hfn : C.prog.funcs[f]? = some fn)
    (witness : ∃ (w : World) (tape : Tape) (i : Input), w.os = os ∧ (w.forCall tape i).Shaped C.prog ∧ i.vars = [] ∧ Input.okWide C.prog (w.forCall tape i) .any w.heap.size f i ∧
      ((s.pre enc C.prog fn conds apart (w.forCall tape i).memory i.args ∧ X (w.forCall tape i).memory i.args) ∧ sizedMet enc C.prog fn (OpenSpec.ofChange s) apart (w.forCall tape i).memory i.args) ∧ a.holds C.prog (lone (Frame.enter C.prog f i.args .normal) [] (w.forCall tape i)))
    (contract : ∀ (W : World) (base : Nat) (args : Array Value) (ds gs : List (DataW H)) (before : List MemPlace),
      (∀ (j : Nat) t v, fn.params[j]? = some t → args[j]? = some v → Value.okWide C.prog W .any base t v) →
      DataW.Whole enc C.prog fn.params.toList s.vars apart W args.toList ds gs before → X W args → W.ShapedOpen C.prog →
      Calls C.prog f args W fun e W' => ∃ v, e = .returned v ∧ s.post enc C.prog fn apart fresh handsOn again W args v W') :
    ReturnsInHanded a C os f .any (fun w args => (s.pre enc C.prog fn conds apart w args ∧ X w args) ∧ sizedMet enc C.prog fn (OpenSpec.ofChange s) apart w args) (s.post enc C.prog fn apart fresh handsOn again) := by
  refine returnsInHanded_of_calls own started noInit witness ?_
  intro w tape i _ hsh _ hok hpre _
  obtain ⟨_, _, _, fn', hfn', _, _, _, _, hval⟩ := hok
  obtain rfl : fn' = fn := Option.some.inj (hfn'.symm.trans hfn)
  obtain ⟨⟨⟨ds, gs, before, hw, _⟩, hx⟩, _⟩ := hpre
  refine (contract (w.forCall tape i) w.heap.size i.args ds gs before hval (DataW.Whole.of_heap (w' := w.forCall tape i) (by rfl) hw) (hX _ _ _ (by rfl) hx) hsh).mono fun e W' ⟨v, he, hp⟩ => ?_
  subst he
  exact ChangeSpec.post_blind hp
abbrev lay : List (String × DataW Unit) := Rows.fnExactReadScriptRow.laid
theorem gl_of {W : World} (hL : laidMetH Tryd.prog lay W) (hS : W.ShapedOpen Tryd.prog) : GLp fun b => W.heap[b]? := by
  constructor
  · obtain ⟨m, hm⟩ := cell_of_shapedOpen_int (P := Tryd.prog) (w := W) (g := 0) (t := 3) (zero := #[.int .i64 0]) (k := .i64) hS (by decide +kernel) (by kernel_rfl) rfl (by kernel_rfl) (by kernel_rfl) (by kernel_rfl)
    unfold World.cell? at hm
    cases hh : W.heap[(0 : Nat)]? with
    | none => rw [hh] at hm; simp at hm
    | some o =>
      cases o with
      | cells c t g => rw [hh] at hm; exact ⟨c, t, g, m, hh, by simpa using hm⟩
      | _ => rw [hh] at hm; simp at hm
  · have h1 := MakeChecks.laidMetH_plain Tryd.prog lay W (by kernel_rfl)
    rw [h1] at hL
    have h2 := laidMet.filter (fun x => x.1 == "internal/strconv.uint64pow10") hL
    have h3 : laidMet Tryd.prog [("internal/strconv.uint64pow10", Lib.tabData .u64 Lib.pow10Tab)] W := by
      have e : lay.filter (fun x => x.1 == "internal/strconv.uint64pow10") = [("internal/strconv.uint64pow10", Lib.tabData .u64 Lib.pow10Tab)] := by kernel_rfl
      rw [e] at h2; exact h2
    have h4 := Lib.tabIs_of_head (P := Tryd.prog) (W := W) (g := 3) (by kernel_rfl) (t := 137) (by kernel_rfl) (e := 131) (n := 20) (by kernel_rfl) (by kernel_rfl) (by kernel_rfl) (by kernel_rfl) h3
    unfold Lib.TabIs World.var? at h4
    rw [show Tryd.prog.globalNamed "internal/strconv.uint64pow10" = some 3 by kernel_rfl] at h4
    simp only [Option.bind_some] at h4
    cases hh : W.heap[(3 : Nat)]? with
    | none => rw [hh] at h4; simp at h4
    | some o =>
      cases o with
      | cells c t g =>
        rw [hh] at h4
        simp only [Option.some.injEq] at h4
        have e : c = powTab := by rw [h4]; simp only [powTab, Lib.pow10Tab, List.map_map]; rfl
        exact ⟨t, g, by rw [← e]; exact hh⟩
      | _ => rw [hh] at h4; simp at h4
set_option maxRecDepth 100000 in
theorem lifted (os : Os) (started : os.Started) (H : Type) (enc : TypeId × Value → H) :
    ReturnsInHanded {} Tryd.checked os 3 .any (fun w args => (Rows.fnExactReadScriptSpec.pre enc Tryd.prog Tryd.f3 Rows.fnExactReadScriptRow.domain false w args ∧ laidMetH Tryd.prog lay w) ∧ sizedMet enc Tryd.prog Tryd.f3 (OpenSpec.ofChange Rows.fnExactReadScriptSpec) false w args) (Rows.fnExactReadScriptSpec.post enc Tryd.prog Tryd.f3 false true false false) := by
  refine handed (C := Tryd.checked) (X := fun w _ => laidMetH Tryd.prog lay w) (fun _ _ _ hh h => h.of_heap hh) own started (by kernel_rfl) Tryd.func3
    (ChangeSpec.witness_shaped (enc := enc) (C := Tryd.checked) (os := os) (X := fun w _ => laidMetH Tryd.prog lay w) false (World.laidAll Tryd.prog os lay) #[.string ⟨#[]⟩] 8 (World.laidAll_os _ _ _)
      (World.shaped_of_ZipB (by kernel_rfl) (by kernel_rfl)) (by kernel_rfl) (by kernel_rfl) (by kernel_rfl)
      (by rw [MakeChecks.laidMetH_plain _ _ _ (by kernel_rfl)]; exact laidMet_laidAll _ (by kernel_rfl) (by kernel_rfl))) ?_
  intro W base args ds gs before hval0 hW hL hS
  have hG := gl_of hL hS
  have hval : ∀ (j : Nat) t v, Tryd.f3.params[j]? = some t → args[j]? = some v → Value.okWide Tryd.prog W .any base t v := hval0
  have hW' := hW
  obtain ⟨p, q, hA0, hV, rfl, hfz, hnd⟩ := hW
  have hA : DataW.TrodAll enc Tryd.prog W 0 (fun _ => true) true Tryd.f3.params.toList args.toList ds p := hA0
  rw [Tryd.params3] at hA hval
  obtain ⟨v0, vs0, d0, ds0, p0, q0, hargs, rfl, rfl, h0, r0⟩ := trodAll_cons hA
  obtain ⟨rfl, rfl, rfl⟩ := trodAll_nil r0
  obtain rfl : args = #[v0] := by cases args; simp_all
  obtain ⟨rfl, rfl⟩ := trodVars_none hV
  have h0x := h0; obtain ⟨fu0, t0⟩ := h0x
  obtain ⟨c0, e0, w0⟩ := arg_of (hG := hG) (T := .str) (d := 40) (by kernel_rfl) (hval 0 9 v0 rfl rfl) t0
  obtain ⟨x0, y0, k0⟩ := dm_str.h c0 e0
  rw [y0] at w0
  clear hA0 hval0
  have hc : laws_FnExactReadScript_x [(eS x0)] [] = some (.bool true, []) := by
    refine (laws_FnExactReadScript_k x0).trans ?_
    show mapR (laws_FnExactReadScript x0) _ = _
    rw [m_FnExactReadScript k0]; rfl
  refine (calls_ok (cargs := #[v0]) (laws_FnExactReadScript_ok Tryd.checked.mixed) hc (vrl_cons w0 vrl_nil)).mono fun e W' ⟨he, bel⟩ => ?_
  subst he
  exact ⟨_, rfl, _, _, _, [], _, [], hW', trodAll_mk1 (shut_bool Tryd.underlying4 _), (trodAll_cons_mk (Below.trod facts.j1 (by kernel_rfl) (of_decide_eq_true (by kernel_rfl)) h0 bel (DataW.trod_lt _ _ _ _ t0)) trodAll_mk0), rfl, bel.frame _, fun h => by cases h⟩
theorem over : Rows.fnExactReadScriptRow.holds Tryd.pinned (OpenSpec.ofChange Rows.fnExactReadScriptSpec) :=
  OpenClaim.holds_of_wide 3 Tryd.f3 rfl rfl rfl rfl rfl rfl rfl ⟨rfl, rfl, rfl, rfl, rfl⟩ rfl rfl rfl rfl rfl (by as_aux_lemma => kernel_rfl) Tryd.func3 facts.all
    (of_decide_eq_true (by kernel_rfl)) (by unfold Func.isWrapper; first | (rw [if_pos (by decide +kernel)]; kernel_rfl) | (rw [if_neg (by decide +kernel)]; exact ⟨rfl, rfl⟩))
    (fun os started H enc _ => lifted os started H enc)
end Go.Proofs.YtapchldnmkfkoabDoor.fnExactReadScript
namespace Go.Proofs.YtapchldnmkfkoabDoor
/-- The row. -/
theorem fnExactReadScript_row : Rows.FnExactReadScriptSaid := fnExactReadScript.over
/-- The tied card, for the claim. -/
theorem fnExactReadScript_holds : Rows.FnExactReadScriptCardSaid :=
  Claim7.holds_tied_plain_at .later [] [.data, .data, .data, .data, .pinned] true (true, "89918a521c5ee0b24e4f95dcf96498e7baf75a665dd01ec80b531ebe90b271ee") false fnExactReadScript_row (fun _ h => by cases h) (by kernel_rfl) (fun _ h => by cases h) fnExactReadScript_row_tie rfl ⟨rfl, rfl⟩ (by kernel_rfl) rfl
    (fun f fn hf hfn => by
      obtain rfl : f = 3 := Option.some.inj ((show Tryd.prog.funcNamed "loop.example/g00190/laws.FnExactReadScript" = some 3 by kernel_rfl).symm.trans hf) |>.symm
      obtain rfl : fn = Tryd.f3 := (Option.some.inj (Tryd.func3.symm.trans hfn)).symm
      exact ⟨by kernel_rfl, fun j t ht => by
        rw [Tryd.params3] at ht
        have hm : t ∈ [9] := by simpa using Array.mem_of_getElem? ht
        have hall : ([9].all fun u => !Tryd.prog.wantsStandIn u) = true := by kernel_rfl
        exact (show Tryd.prog.wantsStandIn t = false by simpa using List.all_eq_true.1 hall t hm)⟩)
    (by kernel_rfl)
end Go.Proofs.YtapchldnmkfkoabDoor
