import Derived.Test.YtapchldnmkfkoabAmStMo
set_option linter.unusedVariables false
set_option linter.unusedSimpArgs false
set_option linter.unusedSectionVars false
namespace Go.Proofs.Ytapchldnmkfkoab.Am
open Go Go.Proofs
set_option maxRecDepth 100000
set_option linter.unusedSimpArgs false
set_option linter.unusedVariables false
set_option maxHeartbeats 4000000
theorem laws_FnExactSetNode_ok0 (hm : Try.prog.follows .mixedOrders = true) (k_laws_szScene : Sound Try.prog 16 laws_szScene_x) (k_laws_szNode : Sound Try.prog 17 laws_szNode_x) (k_laws_toScene : Sound Try.prog 19 laws_toScene_x) (k_laws_toNode : Sound Try.prog 20 laws_toNode_x) (k_spec_SetNode : Sound Try.prog 27 spec_SetNode_x) (k_impl_SetNode : Sound Try.prog 28 impl_SetNode_x) (k_laws_eqScene : Sound Try.prog 22 laws_eqScene_x) (k_laws_eqNode : Sound Try.prog 23 laws_eqNode_x) (k_laws_markScene : Sound Try.prog 24 laws_markScene_x) (k_laws_markNode : Sound Try.prog 25 laws_markNode_x) (k_laws_heldScene : Sound Try.prog 26 laws_heldScene_x) : Sound Try.prog 5 laws_FnExactSetNode_x := by
 refine xOf_sound fun q r h => ?_
 obtain ⟨a0, a1⟩ := q
 refine fn_ok E0 hm Try.func5 rfl (by decide +kernel) (by rfl) fun Γ hn hk => ?_
 dsimp only [laws_FnExactSetNode_e, laws_FnExactSetNode_v]
 replace hn : Γ.n = 119 := hn
 replace hk : Γ.k = 0 := hk
 have H : HS (laws_FnExactSetNode a0 a1) r := h
 clear h; unfold laws_FnExactSetNode at H
 try simp -implicitDefEqProofs at H
 refine Tr.of_vc (cl := tabC [(16, laws_szScene_x), (17, laws_szNode_x), (19, laws_toScene_x), (20, laws_toNode_x), (27, spec_SetNode_x), (28, impl_SetNode_x), (22, laws_eqScene_x), (23, laws_eqNode_x), (24, laws_markScene_x), (25, laws_markNode_x), (26, laws_heldScene_x)]) (E := E0) [] (tab_cons k_laws_szScene (tab_cons k_laws_szNode (tab_cons k_laws_toScene (tab_cons k_laws_toNode (tab_cons k_spec_SetNode (tab_cons k_impl_SetNode (tab_cons k_laws_eqScene (tab_cons k_laws_eqNode (tab_cons k_laws_markScene (tab_cons k_laws_markNode (tab_cons k_laws_heldScene tab_nil))))))))))) hm (by rw [hn]; decide +kernel) ?_
 try simp -implicitDefEqProofs +decide (maxSteps := 999999) [-selQ_sel, hokQ_of]
 obtain ⟨v1, h_1, H⟩ := HS.bnd H
 try simp -implicitDefEqProofs +decide (maxSteps := 999999) [-selQ_sel, hokQ_of, h_1]
 refine Hid.brV (fun h_2 => ?_) (fun h_2 => ?_)
 ·replace H := HS.cnd_t h_2 H
  try simp -implicitDefEqProofs +decide (maxSteps := 999999) [-selQ_sel, hokQ_of, h_1, h_2]
  obtain ⟨v2, h_3, H⟩ := HS.bnd H
  try simp -implicitDefEqProofs +decide (maxSteps := 999999) [-selQ_sel, hokQ_of, h_1, h_2, h_3]
  refine Hid.brV (fun h_4 => ?_) (fun h_4 => ?_)
  ·replace H := HS.cnd_t h_4 H
   try simp -implicitDefEqProofs +decide (maxSteps := 999999) [-selQ_sel, hokQ_of, h_1, h_2, h_3, h_4]
   obtain ⟨v3, h_5, H⟩ := HS.bnd H
   try simp -implicitDefEqProofs +decide (maxSteps := 999999) [-selQ_sel, hokQ_of, h_1, h_2, h_3, h_4, h_5]
   obtain ⟨⟨w5, w6, w7, w8, w9, w10, w11, w12, w13, w14, w15, w16, w17, w18⟩, h_6, H⟩ := HS.bnd H
   dsimp only at H
   try simp -implicitDefEqProofs +decide (maxSteps := 999999) [-selQ_sel, hokQ_of, h_1, h_2, h_3, h_4, h_5, h_6]
   obtain ⟨⟨w20, w21⟩, h_7, H⟩ := HS.bnd H
   dsimp only at H
   have k_8 := spec_SetNode_k ((TScene.mk v3).nodes) ((TNode.mk w5 w6 w7 w8 (TPath.mk w14 w15) w9 w10 w16 w11 w12 w13 (TPath.mk w17 w18)).id) ((TNode.mk w5 w6 w7 w8 (TPath.mk w14 w15) w9 w10 w16 w11 w12 w13 (TPath.mk w17 w18)).parent) ((TNode.mk w5 w6 w7 w8 (TPath.mk w14 w15) w9 w10 w16 w11 w12 w13 (TPath.mk w17 w18)).group) (((TNode.mk w5 w6 w7 w8 (TPath.mk w14 w15) w9 w10 w16 w11 w12 w13 (TPath.mk w17 w18)).mat).a) (((TNode.mk w5 w6 w7 w8 (TPath.mk w14 w15) w9 w10 w16 w11 w12 w13 (TPath.mk w17 w18)).mat).b) (((TNode.mk w5 w6 w7 w8 (TPath.mk w14 w15) w9 w10 w16 w11 w12 w13 (TPath.mk w17 w18)).mat).c) (((TNode.mk w5 w6 w7 w8 (TPath.mk w14 w15) w9 w10 w16 w11 w12 w13 (TPath.mk w17 w18)).mat).d) (((TNode.mk w5 w6 w7 w8 (TPath.mk w14 w15) w9 w10 w16 w11 w12 w13 (TPath.mk w17 w18)).mat).e) (((TNode.mk w5 w6 w7 w8 (TPath.mk w14 w15) w9 w10 w16 w11 w12 w13 (TPath.mk w17 w18)).mat).f) (((TNode.mk w5 w6 w7 w8 (TPath.mk w14 w15) w9 w10 w16 w11 w12 w13 (TPath.mk w17 w18)).path).verbs) (((TNode.mk w5 w6 w7 w8 (TPath.mk w14 w15) w9 w10 w16 w11 w12 w13 (TPath.mk w17 w18)).path).points) ((TNode.mk w5 w6 w7 w8 (TPath.mk w14 w15) w9 w10 w16 w11 w12 w13 (TPath.mk w17 w18)).even) ((TNode.mk w5 w6 w7 w8 (TPath.mk w14 w15) w9 w10 w16 w11 w12 w13 (TPath.mk w17 w18)).width) ((TNode.mk w5 w6 w7 w8 (TPath.mk w14 w15) w9 w10 w16 w11 w12 w13 (TPath.mk w17 w18)).dashes) (((TNode.mk w5 w6 w7 w8 (TPath.mk w14 w15) w9 w10 w16 w11 w12 w13 (TPath.mk w17 w18)).paint).kind) ((((TNode.mk w5 w6 w7 w8 (TPath.mk w14 w15) w9 w10 w16 w11 w12 w13 (TPath.mk w17 w18)).paint).first).r) ((((TNode.mk w5 w6 w7 w8 (TPath.mk w14 w15) w9 w10 w16 w11 w12 w13 (TPath.mk w17 w18)).paint).first).g) ((((TNode.mk w5 w6 w7 w8 (TPath.mk w14 w15) w9 w10 w16 w11 w12 w13 (TPath.mk w17 w18)).paint).first).b) ((((TNode.mk w5 w6 w7 w8 (TPath.mk w14 w15) w9 w10 w16 w11 w12 w13 (TPath.mk w17 w18)).paint).first).a) ((((TNode.mk w5 w6 w7 w8 (TPath.mk w14 w15) w9 w10 w16 w11 w12 w13 (TPath.mk w17 w18)).paint).last).r) ((((TNode.mk w5 w6 w7 w8 (TPath.mk w14 w15) w9 w10 w16 w11 w12 w13 (TPath.mk w17 w18)).paint).last).g) ((((TNode.mk w5 w6 w7 w8 (TPath.mk w14 w15) w9 w10 w16 w11 w12 w13 (TPath.mk w17 w18)).paint).last).b) ((((TNode.mk w5 w6 w7 w8 (TPath.mk w14 w15) w9 w10 w16 w11 w12 w13 (TPath.mk w17 w18)).paint).last).a) ((((TNode.mk w5 w6 w7 w8 (TPath.mk w14 w15) w9 w10 w16 w11 w12 w13 (TPath.mk w17 w18)).paint).from_).x) ((((TNode.mk w5 w6 w7 w8 (TPath.mk w14 w15) w9 w10 w16 w11 w12 w13 (TPath.mk w17 w18)).paint).from_).y) ((((TNode.mk w5 w6 w7 w8 (TPath.mk w14 w15) w9 w10 w16 w11 w12 w13 (TPath.mk w17 w18)).paint).to).x) ((((TNode.mk w5 w6 w7 w8 (TPath.mk w14 w15) w9 w10 w16 w11 w12 w13 (TPath.mk w17 w18)).paint).to).y) ((TNode.mk w5 w6 w7 w8 (TPath.mk w14 w15) w9 w10 w16 w11 w12 w13 (TPath.mk w17 w18)).mode) ((TNode.mk w5 w6 w7 w8 (TPath.mk w14 w15) w9 w10 w16 w11 w12 w13 (TPath.mk w17 w18)).fade) (((TNode.mk w5 w6 w7 w8 (TPath.mk w14 w15) w9 w10 w16 w11 w12 w13 (TPath.mk w17 w18)).clip).verbs) (((TNode.mk w5 w6 w7 w8 (TPath.mk w14 w15) w9 w10 w16 w11 w12 w13 (TPath.mk w17 w18)).clip).points)
   simp -implicitDefEqProofs [-spec_SetNode_k] at k_8
   try simp -implicitDefEqProofs +decide (maxSteps := 999999) [-selQ_sel, hokQ_of, h_1, h_2, h_3, h_4, h_5, h_6, h_7, k_8]
   obtain ⟨⟨w23, w24⟩, h_9, H⟩ := HS.bnd H
   dsimp only at H
   have k_10 := impl_SetNode_k ((TScene.mk v3).nodes) ((TNode.mk w5 w6 w7 w8 (TPath.mk w14 w15) w9 w10 w16 w11 w12 w13 (TPath.mk w17 w18)).id) ((TNode.mk w5 w6 w7 w8 (TPath.mk w14 w15) w9 w10 w16 w11 w12 w13 (TPath.mk w17 w18)).parent) ((TNode.mk w5 w6 w7 w8 (TPath.mk w14 w15) w9 w10 w16 w11 w12 w13 (TPath.mk w17 w18)).group) (((TNode.mk w5 w6 w7 w8 (TPath.mk w14 w15) w9 w10 w16 w11 w12 w13 (TPath.mk w17 w18)).mat).a) (((TNode.mk w5 w6 w7 w8 (TPath.mk w14 w15) w9 w10 w16 w11 w12 w13 (TPath.mk w17 w18)).mat).b) (((TNode.mk w5 w6 w7 w8 (TPath.mk w14 w15) w9 w10 w16 w11 w12 w13 (TPath.mk w17 w18)).mat).c) (((TNode.mk w5 w6 w7 w8 (TPath.mk w14 w15) w9 w10 w16 w11 w12 w13 (TPath.mk w17 w18)).mat).d) (((TNode.mk w5 w6 w7 w8 (TPath.mk w14 w15) w9 w10 w16 w11 w12 w13 (TPath.mk w17 w18)).mat).e) (((TNode.mk w5 w6 w7 w8 (TPath.mk w14 w15) w9 w10 w16 w11 w12 w13 (TPath.mk w17 w18)).mat).f) (((TNode.mk w5 w6 w7 w8 (TPath.mk w14 w15) w9 w10 w16 w11 w12 w13 (TPath.mk w17 w18)).path).verbs) (((TNode.mk w5 w6 w7 w8 (TPath.mk w14 w15) w9 w10 w16 w11 w12 w13 (TPath.mk w17 w18)).path).points) ((TNode.mk w5 w6 w7 w8 (TPath.mk w14 w15) w9 w10 w16 w11 w12 w13 (TPath.mk w17 w18)).even) ((TNode.mk w5 w6 w7 w8 (TPath.mk w14 w15) w9 w10 w16 w11 w12 w13 (TPath.mk w17 w18)).width) ((TNode.mk w5 w6 w7 w8 (TPath.mk w14 w15) w9 w10 w16 w11 w12 w13 (TPath.mk w17 w18)).dashes) (((TNode.mk w5 w6 w7 w8 (TPath.mk w14 w15) w9 w10 w16 w11 w12 w13 (TPath.mk w17 w18)).paint).kind) ((((TNode.mk w5 w6 w7 w8 (TPath.mk w14 w15) w9 w10 w16 w11 w12 w13 (TPath.mk w17 w18)).paint).first).r) ((((TNode.mk w5 w6 w7 w8 (TPath.mk w14 w15) w9 w10 w16 w11 w12 w13 (TPath.mk w17 w18)).paint).first).g) ((((TNode.mk w5 w6 w7 w8 (TPath.mk w14 w15) w9 w10 w16 w11 w12 w13 (TPath.mk w17 w18)).paint).first).b) ((((TNode.mk w5 w6 w7 w8 (TPath.mk w14 w15) w9 w10 w16 w11 w12 w13 (TPath.mk w17 w18)).paint).first).a) ((((TNode.mk w5 w6 w7 w8 (TPath.mk w14 w15) w9 w10 w16 w11 w12 w13 (TPath.mk w17 w18)).paint).last).r) ((((TNode.mk w5 w6 w7 w8 (TPath.mk w14 w15) w9 w10 w16 w11 w12 w13 (TPath.mk w17 w18)).paint).last).g) ((((TNode.mk w5 w6 w7 w8 (TPath.mk w14 w15) w9 w10 w16 w11 w12 w13 (TPath.mk w17 w18)).paint).last).b) ((((TNode.mk w5 w6 w7 w8 (TPath.mk w14 w15) w9 w10 w16 w11 w12 w13 (TPath.mk w17 w18)).paint).last).a) ((((TNode.mk w5 w6 w7 w8 (TPath.mk w14 w15) w9 w10 w16 w11 w12 w13 (TPath.mk w17 w18)).paint).from_).x) ((((TNode.mk w5 w6 w7 w8 (TPath.mk w14 w15) w9 w10 w16 w11 w12 w13 (TPath.mk w17 w18)).paint).from_).y) ((((TNode.mk w5 w6 w7 w8 (TPath.mk w14 w15) w9 w10 w16 w11 w12 w13 (TPath.mk w17 w18)).paint).to).x) ((((TNode.mk w5 w6 w7 w8 (TPath.mk w14 w15) w9 w10 w16 w11 w12 w13 (TPath.mk w17 w18)).paint).to).y) ((TNode.mk w5 w6 w7 w8 (TPath.mk w14 w15) w9 w10 w16 w11 w12 w13 (TPath.mk w17 w18)).mode) ((TNode.mk w5 w6 w7 w8 (TPath.mk w14 w15) w9 w10 w16 w11 w12 w13 (TPath.mk w17 w18)).fade) (((TNode.mk w5 w6 w7 w8 (TPath.mk w14 w15) w9 w10 w16 w11 w12 w13 (TPath.mk w17 w18)).clip).verbs) (((TNode.mk w5 w6 w7 w8 (TPath.mk w14 w15) w9 w10 w16 w11 w12 w13 (TPath.mk w17 w18)).clip).points)
   simp -implicitDefEqProofs [-impl_SetNode_k] at k_10
   try simp -implicitDefEqProofs +decide (maxSteps := 999999) [-selQ_sel, hokQ_of, h_1, h_2, h_3, h_4, h_5, h_6, h_7, k_8, h_9, k_10]
   obtain ⟨v25, h_11, H⟩ := HS.bnd H
   have k_12 := laws_eqScene_k ((TScene.mk w24).nodes) ((TScene.mk w21).nodes)
   simp -implicitDefEqProofs [-laws_eqScene_k] at k_12
   try simp -implicitDefEqProofs +decide (maxSteps := 999999) [-selQ_sel, hokQ_of, h_1, h_2, h_3, h_4, h_5, h_6, h_7, k_8, h_9, k_10, h_11, k_12]
   refine Hid.selQ (fun h_13 => ?_) (fun h_13 => ?_)
   ·replace H := HS.cnd_t h_13 H
    try simp -implicitDefEqProofs +decide (maxSteps := 999999) [-selQ_sel, hokQ_of, h_1, h_2, h_3, h_4, h_5, h_6, h_7, k_8, h_9, k_10, h_11, k_12, h_13]
    refine Hid.brV (fun h_14 => ?_) (fun h_14 => ?_)
    ·replace H := HS.cnd_t h_14 H
     try simp -implicitDefEqProofs +decide (maxSteps := 999999) [-selQ_sel, hokQ_of, h_1, h_2, h_3, h_4, h_5, h_6, h_7, k_8, h_9, k_10, h_11, k_12, h_13, h_14]
     obtain ⟨v26, h_15, H⟩ := HS.bnd H
     have k_16 := laws_eqScene_k ((TScene.mk v3).nodes) ((TScene.mk v3).nodes)
     simp -implicitDefEqProofs [-laws_eqScene_k] at k_16
     try simp -implicitDefEqProofs +decide (maxSteps := 999999) [-selQ_sel, hokQ_of, h_1, h_2, h_3, h_4, h_5, h_6, h_7, k_8, h_9, k_10, h_11, k_12, h_13, h_14, h_15, k_16]
     refine Hid.brV (fun h_17 => ?_) (fun h_17 => ?_)
     ·replace H := HS.cnd_t h_17 H
      try simp -implicitDefEqProofs +decide (maxSteps := 999999) [-selQ_sel, hokQ_of, h_1, h_2, h_3, h_4, h_5, h_6, h_7, k_8, h_9, k_10, h_11, k_12, h_13, h_14, h_15, k_16, h_17]
      obtain ⟨v27, h_18, H⟩ := HS.bnd H
      have k_19 := laws_eqNode_k ((TNode.mk w5 w6 w7 w8 (TPath.mk w14 w15) w9 w10 w16 w11 w12 w13 (TPath.mk w17 w18)).id) ((TNode.mk w5 w6 w7 w8 (TPath.mk w14 w15) w9 w10 w16 w11 w12 w13 (TPath.mk w17 w18)).parent) ((TNode.mk w5 w6 w7 w8 (TPath.mk w14 w15) w9 w10 w16 w11 w12 w13 (TPath.mk w17 w18)).group) (((TNode.mk w5 w6 w7 w8 (TPath.mk w14 w15) w9 w10 w16 w11 w12 w13 (TPath.mk w17 w18)).mat).a) (((TNode.mk w5 w6 w7 w8 (TPath.mk w14 w15) w9 w10 w16 w11 w12 w13 (TPath.mk w17 w18)).mat).b) (((TNode.mk w5 w6 w7 w8 (TPath.mk w14 w15) w9 w10 w16 w11 w12 w13 (TPath.mk w17 w18)).mat).c) (((TNode.mk w5 w6 w7 w8 (TPath.mk w14 w15) w9 w10 w16 w11 w12 w13 (TPath.mk w17 w18)).mat).d) (((TNode.mk w5 w6 w7 w8 (TPath.mk w14 w15) w9 w10 w16 w11 w12 w13 (TPath.mk w17 w18)).mat).e) (((TNode.mk w5 w6 w7 w8 (TPath.mk w14 w15) w9 w10 w16 w11 w12 w13 (TPath.mk w17 w18)).mat).f) (((TNode.mk w5 w6 w7 w8 (TPath.mk w14 w15) w9 w10 w16 w11 w12 w13 (TPath.mk w17 w18)).path).verbs) (((TNode.mk w5 w6 w7 w8 (TPath.mk w14 w15) w9 w10 w16 w11 w12 w13 (TPath.mk w17 w18)).path).points) ((TNode.mk w5 w6 w7 w8 (TPath.mk w14 w15) w9 w10 w16 w11 w12 w13 (TPath.mk w17 w18)).even) ((TNode.mk w5 w6 w7 w8 (TPath.mk w14 w15) w9 w10 w16 w11 w12 w13 (TPath.mk w17 w18)).width) ((TNode.mk w5 w6 w7 w8 (TPath.mk w14 w15) w9 w10 w16 w11 w12 w13 (TPath.mk w17 w18)).dashes) (((TNode.mk w5 w6 w7 w8 (TPath.mk w14 w15) w9 w10 w16 w11 w12 w13 (TPath.mk w17 w18)).paint).kind) ((((TNode.mk w5 w6 w7 w8 (TPath.mk w14 w15) w9 w10 w16 w11 w12 w13 (TPath.mk w17 w18)).paint).first).r) ((((TNode.mk w5 w6 w7 w8 (TPath.mk w14 w15) w9 w10 w16 w11 w12 w13 (TPath.mk w17 w18)).paint).first).g) ((((TNode.mk w5 w6 w7 w8 (TPath.mk w14 w15) w9 w10 w16 w11 w12 w13 (TPath.mk w17 w18)).paint).first).b) ((((TNode.mk w5 w6 w7 w8 (TPath.mk w14 w15) w9 w10 w16 w11 w12 w13 (TPath.mk w17 w18)).paint).first).a) ((((TNode.mk w5 w6 w7 w8 (TPath.mk w14 w15) w9 w10 w16 w11 w12 w13 (TPath.mk w17 w18)).paint).last).r) ((((TNode.mk w5 w6 w7 w8 (TPath.mk w14 w15) w9 w10 w16 w11 w12 w13 (TPath.mk w17 w18)).paint).last).g) ((((TNode.mk w5 w6 w7 w8 (TPath.mk w14 w15) w9 w10 w16 w11 w12 w13 (TPath.mk w17 w18)).paint).last).b) ((((TNode.mk w5 w6 w7 w8 (TPath.mk w14 w15) w9 w10 w16 w11 w12 w13 (TPath.mk w17 w18)).paint).last).a) ((((TNode.mk w5 w6 w7 w8 (TPath.mk w14 w15) w9 w10 w16 w11 w12 w13 (TPath.mk w17 w18)).paint).from_).x) ((((TNode.mk w5 w6 w7 w8 (TPath.mk w14 w15) w9 w10 w16 w11 w12 w13 (TPath.mk w17 w18)).paint).from_).y) ((((TNode.mk w5 w6 w7 w8 (TPath.mk w14 w15) w9 w10 w16 w11 w12 w13 (TPath.mk w17 w18)).paint).to).x) ((((TNode.mk w5 w6 w7 w8 (TPath.mk w14 w15) w9 w10 w16 w11 w12 w13 (TPath.mk w17 w18)).paint).to).y) ((TNode.mk w5 w6 w7 w8 (TPath.mk w14 w15) w9 w10 w16 w11 w12 w13 (TPath.mk w17 w18)).mode) ((TNode.mk w5 w6 w7 w8 (TPath.mk w14 w15) w9 w10 w16 w11 w12 w13 (TPath.mk w17 w18)).fade) (((TNode.mk w5 w6 w7 w8 (TPath.mk w14 w15) w9 w10 w16 w11 w12 w13 (TPath.mk w17 w18)).clip).verbs) (((TNode.mk w5 w6 w7 w8 (TPath.mk w14 w15) w9 w10 w16 w11 w12 w13 (TPath.mk w17 w18)).clip).points) ((TNode.mk w5 w6 w7 w8 (TPath.mk w14 w15) w9 w10 w16 w11 w12 w13 (TPath.mk w17 w18)).id) ((TNode.mk w5 w6 w7 w8 (TPath.mk w14 w15) w9 w10 w16 w11 w12 w13 (TPath.mk w17 w18)).parent) ((TNode.mk w5 w6 w7 w8 (TPath.mk w14 w15) w9 w10 w16 w11 w12 w13 (TPath.mk w17 w18)).group) (((TNode.mk w5 w6 w7 w8 (TPath.mk w14 w15) w9 w10 w16 w11 w12 w13 (TPath.mk w17 w18)).mat).a) (((TNode.mk w5 w6 w7 w8 (TPath.mk w14 w15) w9 w10 w16 w11 w12 w13 (TPath.mk w17 w18)).mat).b) (((TNode.mk w5 w6 w7 w8 (TPath.mk w14 w15) w9 w10 w16 w11 w12 w13 (TPath.mk w17 w18)).mat).c) (((TNode.mk w5 w6 w7 w8 (TPath.mk w14 w15) w9 w10 w16 w11 w12 w13 (TPath.mk w17 w18)).mat).d) (((TNode.mk w5 w6 w7 w8 (TPath.mk w14 w15) w9 w10 w16 w11 w12 w13 (TPath.mk w17 w18)).mat).e) (((TNode.mk w5 w6 w7 w8 (TPath.mk w14 w15) w9 w10 w16 w11 w12 w13 (TPath.mk w17 w18)).mat).f) (((TNode.mk w5 w6 w7 w8 (TPath.mk w14 w15) w9 w10 w16 w11 w12 w13 (TPath.mk w17 w18)).path).verbs) (((TNode.mk w5 w6 w7 w8 (TPath.mk w14 w15) w9 w10 w16 w11 w12 w13 (TPath.mk w17 w18)).path).points) ((TNode.mk w5 w6 w7 w8 (TPath.mk w14 w15) w9 w10 w16 w11 w12 w13 (TPath.mk w17 w18)).even) ((TNode.mk w5 w6 w7 w8 (TPath.mk w14 w15) w9 w10 w16 w11 w12 w13 (TPath.mk w17 w18)).width) ((TNode.mk w5 w6 w7 w8 (TPath.mk w14 w15) w9 w10 w16 w11 w12 w13 (TPath.mk w17 w18)).dashes) (((TNode.mk w5 w6 w7 w8 (TPath.mk w14 w15) w9 w10 w16 w11 w12 w13 (TPath.mk w17 w18)).paint).kind) ((((TNode.mk w5 w6 w7 w8 (TPath.mk w14 w15) w9 w10 w16 w11 w12 w13 (TPath.mk w17 w18)).paint).first).r) ((((TNode.mk w5 w6 w7 w8 (TPath.mk w14 w15) w9 w10 w16 w11 w12 w13 (TPath.mk w17 w18)).paint).first).g) ((((TNode.mk w5 w6 w7 w8 (TPath.mk w14 w15) w9 w10 w16 w11 w12 w13 (TPath.mk w17 w18)).paint).first).b) ((((TNode.mk w5 w6 w7 w8 (TPath.mk w14 w15) w9 w10 w16 w11 w12 w13 (TPath.mk w17 w18)).paint).first).a) ((((TNode.mk w5 w6 w7 w8 (TPath.mk w14 w15) w9 w10 w16 w11 w12 w13 (TPath.mk w17 w18)).paint).last).r) ((((TNode.mk w5 w6 w7 w8 (TPath.mk w14 w15) w9 w10 w16 w11 w12 w13 (TPath.mk w17 w18)).paint).last).g) ((((TNode.mk w5 w6 w7 w8 (TPath.mk w14 w15) w9 w10 w16 w11 w12 w13 (TPath.mk w17 w18)).paint).last).b) ((((TNode.mk w5 w6 w7 w8 (TPath.mk w14 w15) w9 w10 w16 w11 w12 w13 (TPath.mk w17 w18)).paint).last).a) ((((TNode.mk w5 w6 w7 w8 (TPath.mk w14 w15) w9 w10 w16 w11 w12 w13 (TPath.mk w17 w18)).paint).from_).x) ((((TNode.mk w5 w6 w7 w8 (TPath.mk w14 w15) w9 w10 w16 w11 w12 w13 (TPath.mk w17 w18)).paint).from_).y) ((((TNode.mk w5 w6 w7 w8 (TPath.mk w14 w15) w9 w10 w16 w11 w12 w13 (TPath.mk w17 w18)).paint).to).x) ((((TNode.mk w5 w6 w7 w8 (TPath.mk w14 w15) w9 w10 w16 w11 w12 w13 (TPath.mk w17 w18)).paint).to).y) ((TNode.mk w5 w6 w7 w8 (TPath.mk w14 w15) w9 w10 w16 w11 w12 w13 (TPath.mk w17 w18)).mode) ((TNode.mk w5 w6 w7 w8 (TPath.mk w14 w15) w9 w10 w16 w11 w12 w13 (TPath.mk w17 w18)).fade) (((TNode.mk w5 w6 w7 w8 (TPath.mk w14 w15) w9 w10 w16 w11 w12 w13 (TPath.mk w17 w18)).clip).verbs) (((TNode.mk w5 w6 w7 w8 (TPath.mk w14 w15) w9 w10 w16 w11 w12 w13 (TPath.mk w17 w18)).clip).points)
      simp -implicitDefEqProofs [-laws_eqNode_k] at k_19
      try simp -implicitDefEqProofs +decide (maxSteps := 999999) [-selQ_sel, hokQ_of, h_1, h_2, h_3, h_4, h_5, h_6, h_7, k_8, h_9, k_10, h_11, k_12, h_13, h_14, h_15, k_16, h_17, h_18, k_19]
      refine Hid.brV (fun h_20 => ?_) (fun h_20 => ?_)
      ·replace H := HS.cnd_t h_20 H
       try simp -implicitDefEqProofs +decide (maxSteps := 999999) [-selQ_sel, hokQ_of, h_1, h_2, h_3, h_4, h_5, h_6, h_7, k_8, h_9, k_10, h_11, k_12, h_13, h_14, h_15, k_16, h_17, h_18, k_19, h_20]
       obtain ⟨⟨w29, w30⟩, h_21, H⟩ := HS.bnd H
       dsimp only at H
       have g_22 := laws_markScene_n h_21
       try simp -implicitDefEqProofs +decide (maxSteps := 999999) [-selQ_sel, hokQ_of, h_1, h_2, h_3, h_4, h_5, h_6, h_7, k_8, h_9, k_10, h_11, k_12, h_13, h_14, h_15, k_16, h_17, h_18, k_19, h_20, h_21, g_22]
       obtain ⟨⟨w32, w33, w34, w35, w36, w37⟩, h_23, H⟩ := HS.bnd H
       dsimp only at H
       have g_24 := laws_markNode_n h_23
       try simp -implicitDefEqProofs +decide (maxSteps := 999999) [-selQ_sel, hokQ_of, h_1, h_2, h_3, h_4, h_5, h_6, h_7, k_8, h_9, k_10, h_11, k_12, h_13, h_14, h_15, k_16, h_17, h_18, k_19, h_20, h_21, g_22, h_23, g_24]
       refine Hid.selQ (fun h_25 => ?_) (fun h_25 => ?_)
       ·replace H := HS.cnd_t h_25 H
        try simp -implicitDefEqProofs +decide (maxSteps := 999999) [-selQ_sel, hokQ_of, h_1, h_2, h_3, h_4, h_5, h_6, h_7, k_8, h_9, k_10, h_11, k_12, h_13, h_14, h_15, k_16, h_17, h_18, k_19, h_20, h_21, g_22, h_23, g_24, h_25]
        obtain ⟨⟨w39, w40⟩, h_26, H⟩ := HS.bnd H
        dsimp only at H
        have g_27 := laws_markScene_n h_26
        try simp -implicitDefEqProofs +decide (maxSteps := 999999) [-selQ_sel, hokQ_of, h_1, h_2, h_3, h_4, h_5, h_6, h_7, k_8, h_9, k_10, h_11, k_12, h_13, h_14, h_15, k_16, h_17, h_18, k_19, h_20, h_21, g_22, h_23, g_24, h_25, h_26, g_27]
        obtain ⟨v41, h_28, H⟩ := HS.bnd H
        have k_29 := laws_heldScene_k ((TScene.mk w40).nodes) 1
        simp -implicitDefEqProofs [-laws_heldScene_k] at k_29
        try simp -implicitDefEqProofs +decide (maxSteps := 999999) [-selQ_sel, hokQ_of, h_1, h_2, h_3, h_4, h_5, h_6, h_7, k_8, h_9, k_10, h_11, k_12, h_13, h_14, h_15, k_16, h_17, h_18, k_19, h_20, h_21, g_22, h_23, g_24, h_25, h_26, g_27, h_28, k_29]
        refine Hid.brV (fun h_30 => ?_) (fun h_30 => ?_)
        ·replace H := HS.cnd_t h_30 H
         try simp -implicitDefEqProofs +decide (maxSteps := 999999) [-selQ_sel, hokQ_of, h_1, h_2, h_3, h_4, h_5, h_6, h_7, k_8, h_9, k_10, h_11, k_12, h_13, h_14, h_15, k_16, h_17, h_18, k_19, h_20, h_21, g_22, h_23, g_24, h_25, h_26, g_27, h_28, k_29, h_30]
         refine Hid.brV (fun h_31 => ?_) (fun h_31 => ?_)
         ·replace H := HS.cnd_t h_31 H
          try simp -implicitDefEqProofs +decide (maxSteps := 999999) [-selQ_sel, hokQ_of, h_1, h_2, h_3, h_4, h_5, h_6, h_7, k_8, h_9, k_10, h_11, k_12, h_13, h_14, h_15, k_16, h_17, h_18, k_19, h_20, h_21, g_22, h_23, g_24, h_25, h_26, g_27, h_28, k_29, h_30, h_31]
          have hr := (HS.some H).symm; subst hr
          refine Hid.mk ⟨_, Wk.refl _, ?_⟩
          try simp -implicitDefEqProofs +decide (maxSteps := 999999) [-selQ_sel, hokQ_of, h_1, h_2, h_3, h_4, h_5, h_6, h_7, k_8, h_9, k_10, h_11, k_12, h_13, h_14, h_15, k_16, h_17, h_18, k_19, h_20, h_21, g_22, h_23, g_24, h_25, h_26, g_27, h_28, k_29, h_30, h_31]
         ·replace H := HS.cnd_f h_31 H
          try simp -implicitDefEqProofs +decide (maxSteps := 999999) [-selQ_sel, hokQ_of, h_1, h_2, h_3, h_4, h_5, h_6, h_7, k_8, h_9, k_10, h_11, k_12, h_13, h_14, h_15, k_16, h_17, h_18, k_19, h_20, h_21, g_22, h_23, g_24, h_25, h_26, g_27, h_28, k_29, h_30, h_31]
          have hr := (HS.some H).symm; subst hr
          refine Hid.mk ⟨_, Wk.refl _, ?_⟩
          try simp -implicitDefEqProofs +decide (maxSteps := 999999) [-selQ_sel, hokQ_of, h_1, h_2, h_3, h_4, h_5, h_6, h_7, k_8, h_9, k_10, h_11, k_12, h_13, h_14, h_15, k_16, h_17, h_18, k_19, h_20, h_21, g_22, h_23, g_24, h_25, h_26, g_27, h_28, k_29, h_30, h_31]
        ·replace H := HS.cnd_f h_30 H
         try simp -implicitDefEqProofs +decide (maxSteps := 999999) [-selQ_sel, hokQ_of, h_1, h_2, h_3, h_4, h_5, h_6, h_7, k_8, h_9, k_10, h_11, k_12, h_13, h_14, h_15, k_16, h_17, h_18, k_19, h_20, h_21, g_22, h_23, g_24, h_25, h_26, g_27, h_28, k_29, h_30]
         have hr := (HS.some H).symm; subst hr
         refine Hid.mk ⟨_, Wk.refl _, ?_⟩
         try simp -implicitDefEqProofs +decide (maxSteps := 999999) [-selQ_sel, hokQ_of, h_1, h_2, h_3, h_4, h_5, h_6, h_7, k_8, h_9, k_10, h_11, k_12, h_13, h_14, h_15, k_16, h_17, h_18, k_19, h_20, h_21, g_22, h_23, g_24, h_25, h_26, g_27, h_28, k_29, h_30]
       ·replace H := HS.cnd_f h_25 H
        try simp -implicitDefEqProofs +decide (maxSteps := 999999) [-selQ_sel, hokQ_of, h_1, h_2, h_3, h_4, h_5, h_6, h_7, k_8, h_9, k_10, h_11, k_12, h_13, h_14, h_15, k_16, h_17, h_18, k_19, h_20, h_21, g_22, h_23, g_24, h_25]
        have hr := (HS.some H).symm; subst hr
        refine Hid.mk ⟨_, Wk.refl _, ?_⟩
        try simp -implicitDefEqProofs +decide (maxSteps := 999999) [-selQ_sel, hokQ_of, h_1, h_2, h_3, h_4, h_5, h_6, h_7, k_8, h_9, k_10, h_11, k_12, h_13, h_14, h_15, k_16, h_17, h_18, k_19, h_20, h_21, g_22, h_23, g_24, h_25]
      ·replace H := HS.cnd_f h_20 H
       try simp -implicitDefEqProofs +decide (maxSteps := 999999) [-selQ_sel, hokQ_of, h_1, h_2, h_3, h_4, h_5, h_6, h_7, k_8, h_9, k_10, h_11, k_12, h_13, h_14, h_15, k_16, h_17, h_18, k_19, h_20]
       have hr := (HS.some H).symm; subst hr
       refine Hid.mk ⟨_, Wk.refl _, ?_⟩
       try simp -implicitDefEqProofs +decide (maxSteps := 999999) [-selQ_sel, hokQ_of, h_1, h_2, h_3, h_4, h_5, h_6, h_7, k_8, h_9, k_10, h_11, k_12, h_13, h_14, h_15, k_16, h_17, h_18, k_19, h_20]
     ·replace H := HS.cnd_f h_17 H
      try simp -implicitDefEqProofs +decide (maxSteps := 999999) [-selQ_sel, hokQ_of, h_1, h_2, h_3, h_4, h_5, h_6, h_7, k_8, h_9, k_10, h_11, k_12, h_13, h_14, h_15, k_16, h_17]
      have hr := (HS.some H).symm; subst hr
      refine Hid.mk ⟨_, Wk.refl _, ?_⟩
      try simp -implicitDefEqProofs +decide (maxSteps := 999999) [-selQ_sel, hokQ_of, h_1, h_2, h_3, h_4, h_5, h_6, h_7, k_8, h_9, k_10, h_11, k_12, h_13, h_14, h_15, k_16, h_17]
    ·replace H := HS.cnd_f h_14 H
     try simp -implicitDefEqProofs +decide (maxSteps := 999999) [-selQ_sel, hokQ_of, h_1, h_2, h_3, h_4, h_5, h_6, h_7, k_8, h_9, k_10, h_11, k_12, h_13, h_14]
     have hr := (HS.some H).symm; subst hr
     refine Hid.mk ⟨_, Wk.refl _, ?_⟩
     try simp -implicitDefEqProofs +decide (maxSteps := 999999) [-selQ_sel, hokQ_of, h_1, h_2, h_3, h_4, h_5, h_6, h_7, k_8, h_9, k_10, h_11, k_12, h_13, h_14]
   ·replace H := HS.cnd_f h_13 H
    try simp -implicitDefEqProofs +decide (maxSteps := 999999) [-selQ_sel, hokQ_of, h_1, h_2, h_3, h_4, h_5, h_6, h_7, k_8, h_9, k_10, h_11, k_12, h_13]
    have hr := (HS.some H).symm; subst hr
    refine Hid.mk ⟨_, Wk.refl _, ?_⟩
    try simp -implicitDefEqProofs +decide (maxSteps := 999999) [-selQ_sel, hokQ_of, h_1, h_2, h_3, h_4, h_5, h_6, h_7, k_8, h_9, k_10, h_11, k_12, h_13]
  ·replace H := HS.cnd_f h_4 H
   try simp -implicitDefEqProofs +decide (maxSteps := 999999) [-selQ_sel, hokQ_of, h_1, h_2, h_3, h_4]
   have hr := (HS.some H).symm; subst hr
   refine Hid.mk ⟨_, Wk.refl _, ?_⟩
   try simp -implicitDefEqProofs +decide (maxSteps := 999999) [-selQ_sel, hokQ_of, h_1, h_2, h_3, h_4]
 ·replace H := HS.cnd_f h_2 H
  try simp -implicitDefEqProofs +decide (maxSteps := 999999) [-selQ_sel, hokQ_of, h_1, h_2]
  have hr := (HS.some H).symm; subst hr
  refine Hid.mk ⟨_, Wk.refl _, ?_⟩
  try simp -implicitDefEqProofs +decide (maxSteps := 999999) [-selQ_sel, hokQ_of, h_1, h_2]
theorem spec_NodeOk_ok0 (hm : Try.prog.follows .mixedOrders = true) (k_spec_l01In : Sound Try.prog 87 spec_l01In_x) (k_spec_MatOk : Sound Try.prog 98 spec_MatOk_x) (k_spec_PathOk : Sound Try.prog 99 spec_PathOk_x) (k_spec_DashOk : Sound Try.prog 100 spec_DashOk_x) (k_spec_l15NoPath : Sound Try.prog 101 spec_l15NoPath_x) (k_spec_l15NoPaint : Sound Try.prog 102 spec_l15NoPaint_x) (k_spec_PaintOk : Sound Try.prog 103 spec_PaintOk_x) : Sound Try.prog 57 spec_NodeOk_x := by
 refine xOf_sound fun q r h => ?_
 revert h; revert r; revert q; intro a0 r h
 refine fn_ok E0 hm Try.func57 rfl (by decide +kernel) (by rfl) fun Γ hn hk => ?_
 dsimp only [spec_NodeOk_e, spec_NodeOk_v]
 replace hn : Γ.n = 91 := hn
 replace hk : Γ.k = 0 := hk
 have H : HS (spec_NodeOk a0) r := h
 clear h; unfold spec_NodeOk at H
 try simp -implicitDefEqProofs at H
 refine Tr.of_vc (cl := tabC [(87, spec_l01In_x), (98, spec_MatOk_x), (99, spec_PathOk_x), (100, spec_DashOk_x), (101, spec_l15NoPath_x), (102, spec_l15NoPaint_x), (103, spec_PaintOk_x)]) (E := E0) [] (tab_cons k_spec_l01In (tab_cons k_spec_MatOk (tab_cons k_spec_PathOk (tab_cons k_spec_DashOk (tab_cons k_spec_l15NoPath (tab_cons k_spec_l15NoPaint (tab_cons k_spec_PaintOk tab_nil))))))) hm (by rw [hn]; decide +kernel) ?_
 try simp -implicitDefEqProofs (maxSteps := 999999) [-selQ_sel]
 obtain ⟨v1, h_1, H⟩ := HS.bnd H
 try simp -implicitDefEqProofs (maxSteps := 999999) [-selQ_sel, h_1]
 refine Hid.selQ (fun h_2 => ?_) (fun h_2 => ?_)
 ·replace H := HS.cnd_t h_2 H
  try simp -implicitDefEqProofs (maxSteps := 999999) [-selQ_sel, h_1, h_2]
  obtain ⟨v2, h_3, H⟩ := HS.bnd H
  try simp -implicitDefEqProofs (maxSteps := 999999) [-selQ_sel, h_1, h_2, h_3]
  refine Hid.selQ (fun h_4 => ?_) (fun h_4 => ?_)
  ·replace H := HS.cnd_t h_4 H
   try simp -implicitDefEqProofs (maxSteps := 999999) [-selQ_sel, h_1, h_2, h_3, h_4]
   refine Hid.selQ (fun h_5 => ?_) (fun h_5 => ?_)
   ·replace H := HS.cnd_t h_5 H
    try simp -implicitDefEqProofs (maxSteps := 999999) [-selQ_sel, h_1, h_2, h_3, h_4, h_5]
    have hr := (HS.some H).symm; subst hr
    refine Hid.mk ⟨_, Wk.refl _, ?_⟩
    try simp -implicitDefEqProofs (maxSteps := 999999) [-selQ_sel, h_1, h_2, h_3, h_4, h_5]
   ·replace H := HS.cnd_f h_5 H
    try simp -implicitDefEqProofs (maxSteps := 999999) [-selQ_sel, h_1, h_2, h_3, h_4, h_5]
    obtain ⟨v3, h_6, H⟩ := HS.bnd H
    try simp -implicitDefEqProofs (maxSteps := 999999) [-selQ_sel, h_1, h_2, h_3, h_4, h_5, h_6]
    refine Hid.selQ (fun h_7 => ?_) (fun h_7 => ?_)
    ·replace H := HS.cnd_t h_7 H
     try simp -implicitDefEqProofs (maxSteps := 999999) [-selQ_sel, h_1, h_2, h_3, h_4, h_5, h_6, h_7]
     obtain ⟨v4, h_8, H⟩ := HS.bnd H
     try simp -implicitDefEqProofs (maxSteps := 999999) [-selQ_sel, h_1, h_2, h_3, h_4, h_5, h_6, h_7, h_8]
     refine Hid.selQ (fun h_9 => ?_) (fun h_9 => ?_)
     ·replace H := HS.cnd_t h_9 H
      try simp -implicitDefEqProofs (maxSteps := 999999) [-selQ_sel, h_1, h_2, h_3, h_4, h_5, h_6, h_7, h_8, h_9]
      obtain ⟨v5, h_10, H⟩ := HS.bnd H
      try simp -implicitDefEqProofs (maxSteps := 999999) [-selQ_sel, h_1, h_2, h_3, h_4, h_5, h_6, h_7, h_8, h_9, h_10]
      refine Hid.selQ (fun h_11 => ?_) (fun h_11 => ?_)
      ·replace H := HS.cnd_t h_11 H
       try simp -implicitDefEqProofs (maxSteps := 999999) [-selQ_sel, h_1, h_2, h_3, h_4, h_5, h_6, h_7, h_8, h_9, h_10, h_11]
       obtain ⟨v6, h_12, H⟩ := HS.bnd H
       try simp -implicitDefEqProofs (maxSteps := 999999) [-selQ_sel, h_1, h_2, h_3, h_4, h_5, h_6, h_7, h_8, h_9, h_10, h_11, h_12]
       refine Hid.selQ (fun h_13 => ?_) (fun h_13 => ?_)
       ·replace H := HS.cnd_t h_13 H
        try simp -implicitDefEqProofs (maxSteps := 999999) [-selQ_sel, h_1, h_2, h_3, h_4, h_5, h_6, h_7, h_8, h_9, h_10, h_11, h_12, h_13]
        obtain ⟨v7, h_14, H⟩ := HS.bnd H
        try simp -implicitDefEqProofs (maxSteps := 999999) [-selQ_sel, h_1, h_2, h_3, h_4, h_5, h_6, h_7, h_8, h_9, h_10, h_11, h_12, h_13, h_14]
        refine Hid.selQ (fun h_15 => ?_) (fun h_15 => ?_)
        ·replace H := HS.cnd_t h_15 H
         try simp -implicitDefEqProofs (maxSteps := 999999) [-selQ_sel, h_1, h_2, h_3, h_4, h_5, h_6, h_7, h_8, h_9, h_10, h_11, h_12, h_13, h_14, h_15]
         obtain ⟨v8, h_16, H⟩ := HS.bnd H
         try simp -implicitDefEqProofs (maxSteps := 999999) [-selQ_sel, h_1, h_2, h_3, h_4, h_5, h_6, h_7, h_8, h_9, h_10, h_11, h_12, h_13, h_14, h_15, h_16]
         refine Hid.selQ (fun h_17 => ?_) (fun h_17 => ?_)
         ·replace H := HS.cnd_t h_17 H
          try simp -implicitDefEqProofs (maxSteps := 999999) [-selQ_sel, h_1, h_2, h_3, h_4, h_5, h_6, h_7, h_8, h_9, h_10, h_11, h_12, h_13, h_14, h_15, h_16, h_17]
          obtain ⟨v9, h_18, H⟩ := HS.bnd H
          try simp -implicitDefEqProofs (maxSteps := 999999) [-selQ_sel, h_1, h_2, h_3, h_4, h_5, h_6, h_7, h_8, h_9, h_10, h_11, h_12, h_13, h_14, h_15, h_16, h_17, h_18]
          refine Hid.brV (fun h_19 => ?_) (fun h_19 => ?_)
          ·replace H := HS.cnd_t h_19 H
           try simp -implicitDefEqProofs (maxSteps := 999999) [-selQ_sel, h_1, h_2, h_3, h_4, h_5, h_6, h_7, h_8, h_9, h_10, h_11, h_12, h_13, h_14, h_15, h_16, h_17, h_18, h_19]
           refine Hid.brV (fun h_20 => ?_) (fun h_20 => ?_)
           ·replace H := HS.cnd_t h_20 H
            try simp -implicitDefEqProofs (maxSteps := 999999) [-selQ_sel, h_1, h_2, h_3, h_4, h_5, h_6, h_7, h_8, h_9, h_10, h_11, h_12, h_13, h_14, h_15, h_16, h_17, h_18, h_19, h_20]
            obtain ⟨v10, h_21, H⟩ := HS.bnd H
            try simp -implicitDefEqProofs (maxSteps := 999999) [-selQ_sel, h_1, h_2, h_3, h_4, h_5, h_6, h_7, h_8, h_9, h_10, h_11, h_12, h_13, h_14, h_15, h_16, h_17, h_18, h_19, h_20, h_21]
            refine Hid.selQ (fun h_22 => ?_) (fun h_22 => ?_)
            ·replace H := HS.cnd_t h_22 H
             try simp -implicitDefEqProofs (maxSteps := 999999) [-selQ_sel, h_1, h_2, h_3, h_4, h_5, h_6, h_7, h_8, h_9, h_10, h_11, h_12, h_13, h_14, h_15, h_16, h_17, h_18, h_19, h_20, h_21, h_22]
             obtain ⟨v11, h_23, H⟩ := HS.bnd H
             try simp -implicitDefEqProofs (maxSteps := 999999) [-selQ_sel, h_1, h_2, h_3, h_4, h_5, h_6, h_7, h_8, h_9, h_10, h_11, h_12, h_13, h_14, h_15, h_16, h_17, h_18, h_19, h_20, h_21, h_22, h_23]
             refine Hid.selQ (fun h_24 => ?_) (fun h_24 => ?_)
             ·replace H := HS.cnd_t h_24 H
              try simp -implicitDefEqProofs (maxSteps := 999999) [-selQ_sel, h_1, h_2, h_3, h_4, h_5, h_6, h_7, h_8, h_9, h_10, h_11, h_12, h_13, h_14, h_15, h_16, h_17, h_18, h_19, h_20, h_21, h_22, h_23, h_24]
              refine Hid.selQ (fun h_25 => ?_) (fun h_25 => ?_)
              ·replace H := HS.cnd_t h_25 H
               try simp -implicitDefEqProofs (maxSteps := 999999) [-selQ_sel, h_1, h_2, h_3, h_4, h_5, h_6, h_7, h_8, h_9, h_10, h_11, h_12, h_13, h_14, h_15, h_16, h_17, h_18, h_19, h_20, h_21, h_22, h_23, h_24, h_25]
               refine Hid.selQ (fun h_26 => ?_) (fun h_26 => ?_)
               ·replace H := HS.cnd_t h_26 H
                try simp -implicitDefEqProofs (maxSteps := 999999) [-selQ_sel, h_1, h_2, h_3, h_4, h_5, h_6, h_7, h_8, h_9, h_10, h_11, h_12, h_13, h_14, h_15, h_16, h_17, h_18, h_19, h_20, h_21, h_22, h_23, h_24, h_25, h_26]
                have hr := (HS.some H).symm; subst hr
                refine Hid.mk ⟨_, Wk.refl _, ?_⟩
                try simp -implicitDefEqProofs (maxSteps := 999999) [-selQ_sel, h_1, h_2, h_3, h_4, h_5, h_6, h_7, h_8, h_9, h_10, h_11, h_12, h_13, h_14, h_15, h_16, h_17, h_18, h_19, h_20, h_21, h_22, h_23, h_24, h_25, h_26]
               ·replace H := HS.cnd_f h_26 H
                try simp -implicitDefEqProofs (maxSteps := 999999) [-selQ_sel, h_1, h_2, h_3, h_4, h_5, h_6, h_7, h_8, h_9, h_10, h_11, h_12, h_13, h_14, h_15, h_16, h_17, h_18, h_19, h_20, h_21, h_22, h_23, h_24, h_25, h_26]
                have hr := (HS.some H).symm; subst hr
                refine Hid.mk ⟨_, Wk.refl _, ?_⟩
                try simp -implicitDefEqProofs (maxSteps := 999999) [-selQ_sel, h_1, h_2, h_3, h_4, h_5, h_6, h_7, h_8, h_9, h_10, h_11, h_12, h_13, h_14, h_15, h_16, h_17, h_18, h_19, h_20, h_21, h_22, h_23, h_24, h_25, h_26]
              ·replace H := HS.cnd_f h_25 H
               try simp -implicitDefEqProofs (maxSteps := 999999) [-selQ_sel, h_1, h_2, h_3, h_4, h_5, h_6, h_7, h_8, h_9, h_10, h_11, h_12, h_13, h_14, h_15, h_16, h_17, h_18, h_19, h_20, h_21, h_22, h_23, h_24, h_25]
               have hr := (HS.some H).symm; subst hr
               refine Hid.mk ⟨_, Wk.refl _, ?_⟩
               try simp -implicitDefEqProofs (maxSteps := 999999) [-selQ_sel, h_1, h_2, h_3, h_4, h_5, h_6, h_7, h_8, h_9, h_10, h_11, h_12, h_13, h_14, h_15, h_16, h_17, h_18, h_19, h_20, h_21, h_22, h_23, h_24, h_25]
             ·replace H := HS.cnd_f h_24 H
              try simp -implicitDefEqProofs (maxSteps := 999999) [-selQ_sel, h_1, h_2, h_3, h_4, h_5, h_6, h_7, h_8, h_9, h_10, h_11, h_12, h_13, h_14, h_15, h_16, h_17, h_18, h_19, h_20, h_21, h_22, h_23, h_24]
              have hr := (HS.some H).symm; subst hr
              refine Hid.mk ⟨_, Wk.refl _, ?_⟩
              try simp -implicitDefEqProofs (maxSteps := 999999) [-selQ_sel, h_1, h_2, h_3, h_4, h_5, h_6, h_7, h_8, h_9, h_10, h_11, h_12, h_13, h_14, h_15, h_16, h_17, h_18, h_19, h_20, h_21, h_22, h_23, h_24]
            ·replace H := HS.cnd_f h_22 H
             try simp -implicitDefEqProofs (maxSteps := 999999) [-selQ_sel, h_1, h_2, h_3, h_4, h_5, h_6, h_7, h_8, h_9, h_10, h_11, h_12, h_13, h_14, h_15, h_16, h_17, h_18, h_19, h_20, h_21, h_22]
             have hr := (HS.some H).symm; subst hr
             refine Hid.mk ⟨_, Wk.refl _, ?_⟩
             try simp -implicitDefEqProofs (maxSteps := 999999) [-selQ_sel, h_1, h_2, h_3, h_4, h_5, h_6, h_7, h_8, h_9, h_10, h_11, h_12, h_13, h_14, h_15, h_16, h_17, h_18, h_19, h_20, h_21, h_22]
           ·replace H := HS.cnd_f h_20 H
            try simp -implicitDefEqProofs (maxSteps := 999999) [-selQ_sel, h_1, h_2, h_3, h_4, h_5, h_6, h_7, h_8, h_9, h_10, h_11, h_12, h_13, h_14, h_15, h_16, h_17, h_18, h_19, h_20]
            obtain ⟨v12, h_27, H⟩ := HS.bnd H
            try simp -implicitDefEqProofs (maxSteps := 999999) [-selQ_sel, h_1, h_2, h_3, h_4, h_5, h_6, h_7, h_8, h_9, h_10, h_11, h_12, h_13, h_14, h_15, h_16, h_17, h_18, h_19, h_20, h_27]
            have hr := (HS.some H).symm; subst hr
            refine Hid.mk ⟨_, Wk.refl _, ?_⟩
            try simp -implicitDefEqProofs (maxSteps := 999999) [-selQ_sel, h_1, h_2, h_3, h_4, h_5, h_6, h_7, h_8, h_9, h_10, h_11, h_12, h_13, h_14, h_15, h_16, h_17, h_18, h_19, h_20, h_27]
          ·replace H := HS.cnd_f h_19 H
           try simp -implicitDefEqProofs (maxSteps := 999999) [-selQ_sel, h_1, h_2, h_3, h_4, h_5, h_6, h_7, h_8, h_9, h_10, h_11, h_12, h_13, h_14, h_15, h_16, h_17, h_18, h_19]
           have hr := (HS.some H).symm; subst hr
           refine Hid.mk ⟨_, Wk.refl _, ?_⟩
           try simp -implicitDefEqProofs (maxSteps := 999999) [-selQ_sel, h_1, h_2, h_3, h_4, h_5, h_6, h_7, h_8, h_9, h_10, h_11, h_12, h_13, h_14, h_15, h_16, h_17, h_18, h_19]
         ·replace H := HS.cnd_f h_17 H
          try simp -implicitDefEqProofs (maxSteps := 999999) [-selQ_sel, h_1, h_2, h_3, h_4, h_5, h_6, h_7, h_8, h_9, h_10, h_11, h_12, h_13, h_14, h_15, h_16, h_17]
          have hr := (HS.some H).symm; subst hr
          refine Hid.mk ⟨_, Wk.refl _, ?_⟩
          try simp -implicitDefEqProofs (maxSteps := 999999) [-selQ_sel, h_1, h_2, h_3, h_4, h_5, h_6, h_7, h_8, h_9, h_10, h_11, h_12, h_13, h_14, h_15, h_16, h_17]
        ·replace H := HS.cnd_f h_15 H
         try simp -implicitDefEqProofs (maxSteps := 999999) [-selQ_sel, h_1, h_2, h_3, h_4, h_5, h_6, h_7, h_8, h_9, h_10, h_11, h_12, h_13, h_14, h_15]
         have hr := (HS.some H).symm; subst hr
         refine Hid.mk ⟨_, Wk.refl _, ?_⟩
         try simp -implicitDefEqProofs (maxSteps := 999999) [-selQ_sel, h_1, h_2, h_3, h_4, h_5, h_6, h_7, h_8, h_9, h_10, h_11, h_12, h_13, h_14, h_15]
       ·replace H := HS.cnd_f h_13 H
        try simp -implicitDefEqProofs (maxSteps := 999999) [-selQ_sel, h_1, h_2, h_3, h_4, h_5, h_6, h_7, h_8, h_9, h_10, h_11, h_12, h_13]
        have hr := (HS.some H).symm; subst hr
        refine Hid.mk ⟨_, Wk.refl _, ?_⟩
        try simp -implicitDefEqProofs (maxSteps := 999999) [-selQ_sel, h_1, h_2, h_3, h_4, h_5, h_6, h_7, h_8, h_9, h_10, h_11, h_12, h_13]
      ·replace H := HS.cnd_f h_11 H
       try simp -implicitDefEqProofs (maxSteps := 999999) [-selQ_sel, h_1, h_2, h_3, h_4, h_5, h_6, h_7, h_8, h_9, h_10, h_11]
       have hr := (HS.some H).symm; subst hr
       refine Hid.mk ⟨_, Wk.refl _, ?_⟩
       try simp -implicitDefEqProofs (maxSteps := 999999) [-selQ_sel, h_1, h_2, h_3, h_4, h_5, h_6, h_7, h_8, h_9, h_10, h_11]
     ·replace H := HS.cnd_f h_9 H
      try simp -implicitDefEqProofs (maxSteps := 999999) [-selQ_sel, h_1, h_2, h_3, h_4, h_5, h_6, h_7, h_8, h_9]
      have hr := (HS.some H).symm; subst hr
      refine Hid.mk ⟨_, Wk.refl _, ?_⟩
      try simp -implicitDefEqProofs (maxSteps := 999999) [-selQ_sel, h_1, h_2, h_3, h_4, h_5, h_6, h_7, h_8, h_9]
    ·replace H := HS.cnd_f h_7 H
     try simp -implicitDefEqProofs (maxSteps := 999999) [-selQ_sel, h_1, h_2, h_3, h_4, h_5, h_6, h_7]
     have hr := (HS.some H).symm; subst hr
     refine Hid.mk ⟨_, Wk.refl _, ?_⟩
     try simp -implicitDefEqProofs (maxSteps := 999999) [-selQ_sel, h_1, h_2, h_3, h_4, h_5, h_6, h_7]
  ·replace H := HS.cnd_f h_4 H
   try simp -implicitDefEqProofs (maxSteps := 999999) [-selQ_sel, h_1, h_2, h_3, h_4]
   have hr := (HS.some H).symm; subst hr
   refine Hid.mk ⟨_, Wk.refl _, ?_⟩
   try simp -implicitDefEqProofs (maxSteps := 999999) [-selQ_sel, h_1, h_2, h_3, h_4]
 ·replace H := HS.cnd_f h_2 H
  try simp -implicitDefEqProofs (maxSteps := 999999) [-selQ_sel, h_1, h_2]
  have hr := (HS.some H).symm; subst hr
  refine Hid.mk ⟨_, Wk.refl _, ?_⟩
  try simp -implicitDefEqProofs (maxSteps := 999999) [-selQ_sel, h_1, h_2]
theorem impl_NodeOk_ok0 (hm : Try.prog.follows .mixedOrders = true) (k_impl_inRange : Sound Try.prog 41 impl_inRange_x) (k_impl_MatOk : Sound Try.prog 89 impl_MatOk_x) (k_impl_PathOk : Sound Try.prog 90 impl_PathOk_x) (k_impl_DashOk : Sound Try.prog 91 impl_DashOk_x) (k_impl_isMode : Sound Try.prog 92 impl_isMode_x) (k_impl_isByte : Sound Try.prog 93 impl_isByte_x) (k_impl_Path_isNone : Sound Try.prog 94 impl_Path_isNone_x) (k_impl_PaintOk : Sound Try.prog 95 impl_PaintOk_x) : Sound Try.prog 50 impl_NodeOk_x := by
 refine xOf_sound fun q r h => ?_
 revert h; revert r; revert q; intro a0 r h
 refine fn_ok E0 hm Try.func50 rfl (by decide +kernel) (by rfl) fun Γ hn hk => ?_
 dsimp only [impl_NodeOk_e, impl_NodeOk_v]
 replace hn : Γ.n = 90 := hn
 replace hk : Γ.k = 0 := hk
 have H : HS (impl_NodeOk a0) r := h
 clear h; unfold impl_NodeOk at H
 try simp -implicitDefEqProofs at H
 refine Tr.of_vc (cl := tabC [(41, impl_inRange_x), (89, impl_MatOk_x), (90, impl_PathOk_x), (91, impl_DashOk_x), (92, impl_isMode_x), (93, impl_isByte_x), (94, impl_Path_isNone_x), (95, impl_PaintOk_x)]) (E := E0) [] (tab_cons k_impl_inRange (tab_cons k_impl_MatOk (tab_cons k_impl_PathOk (tab_cons k_impl_DashOk (tab_cons k_impl_isMode (tab_cons k_impl_isByte (tab_cons k_impl_Path_isNone (tab_cons k_impl_PaintOk tab_nil)))))))) hm (by rw [hn]; decide +kernel) ?_
 try simp -implicitDefEqProofs (maxSteps := 999999) [-selQ_sel]
 obtain ⟨v1, h_1, H⟩ := HS.bnd H
 try simp -implicitDefEqProofs (maxSteps := 999999) [-selQ_sel, h_1]
 refine Hid.selQ (fun h_2 => ?_) (fun h_2 => ?_)
 ·replace H := HS.cnd_t h_2 H
  try simp -implicitDefEqProofs (maxSteps := 999999) [-selQ_sel, h_1, h_2]
  obtain ⟨v2, h_3, H⟩ := HS.bnd H
  try simp -implicitDefEqProofs (maxSteps := 999999) [-selQ_sel, h_1, h_2, h_3]
  refine Hid.selQ (fun h_4 => ?_) (fun h_4 => ?_)
  ·replace H := HS.cnd_t h_4 H
   try simp -implicitDefEqProofs (maxSteps := 999999) [-selQ_sel, h_1, h_2, h_3, h_4]
   refine Hid.selQ (fun h_5 => ?_) (fun h_5 => ?_)
   ·replace H := HS.cnd_t h_5 H
    try simp -implicitDefEqProofs (maxSteps := 999999) [-selQ_sel, h_1, h_2, h_3, h_4, h_5]
    have hr := (HS.some H).symm; subst hr
    refine Hid.mk ⟨_, Wk.refl _, ?_⟩
    try simp -implicitDefEqProofs (maxSteps := 999999) [-selQ_sel, h_1, h_2, h_3, h_4, h_5]
   ·replace H := HS.cnd_f h_5 H
    try simp -implicitDefEqProofs (maxSteps := 999999) [-selQ_sel, h_1, h_2, h_3, h_4, h_5]
    obtain ⟨v3, h_6, H⟩ := HS.bnd H
    try simp -implicitDefEqProofs (maxSteps := 999999) [-selQ_sel, h_1, h_2, h_3, h_4, h_5, h_6]
    refine Hid.selQ (fun h_7 => ?_) (fun h_7 => ?_)
    ·replace H := HS.cnd_t h_7 H
     try simp -implicitDefEqProofs (maxSteps := 999999) [-selQ_sel, h_1, h_2, h_3, h_4, h_5, h_6, h_7]
     obtain ⟨v4, h_8, H⟩ := HS.bnd H
     try simp -implicitDefEqProofs (maxSteps := 999999) [-selQ_sel, h_1, h_2, h_3, h_4, h_5, h_6, h_7, h_8]
     refine Hid.selQ (fun h_9 => ?_) (fun h_9 => ?_)
     ·replace H := HS.cnd_t h_9 H
      try simp -implicitDefEqProofs (maxSteps := 999999) [-selQ_sel, h_1, h_2, h_3, h_4, h_5, h_6, h_7, h_8, h_9]
      obtain ⟨v5, h_10, H⟩ := HS.bnd H
      try simp -implicitDefEqProofs (maxSteps := 999999) [-selQ_sel, h_1, h_2, h_3, h_4, h_5, h_6, h_7, h_8, h_9, h_10]
      refine Hid.brV (fun h_11 => ?_) (fun h_11 => ?_)
      ·replace H := HS.cnd_t h_11 H
       try simp -implicitDefEqProofs (maxSteps := 999999) [-selQ_sel, h_1, h_2, h_3, h_4, h_5, h_6, h_7, h_8, h_9, h_10, h_11]
       obtain ⟨v6, h_12, H⟩ := HS.bnd H
       try simp -implicitDefEqProofs (maxSteps := 999999) [-selQ_sel, h_1, h_2, h_3, h_4, h_5, h_6, h_7, h_8, h_9, h_10, h_11, h_12]
       refine Hid.selQ (fun h_13 => ?_) (fun h_13 => ?_)
       ·replace H := HS.cnd_t h_13 H
        try simp -implicitDefEqProofs (maxSteps := 999999) [-selQ_sel, h_1, h_2, h_3, h_4, h_5, h_6, h_7, h_8, h_9, h_10, h_11, h_12, h_13]
        obtain ⟨v7, h_14, H⟩ := HS.bnd H
        try simp -implicitDefEqProofs (maxSteps := 999999) [-selQ_sel, h_1, h_2, h_3, h_4, h_5, h_6, h_7, h_8, h_9, h_10, h_11, h_12, h_13, h_14]
        refine Hid.selQ (fun h_15 => ?_) (fun h_15 => ?_)
        ·replace H := HS.cnd_t h_15 H
         try simp -implicitDefEqProofs (maxSteps := 999999) [-selQ_sel, h_1, h_2, h_3, h_4, h_5, h_6, h_7, h_8, h_9, h_10, h_11, h_12, h_13, h_14, h_15]
         obtain ⟨v8, h_16, H⟩ := HS.bnd H
         try simp -implicitDefEqProofs (maxSteps := 999999) [-selQ_sel, h_1, h_2, h_3, h_4, h_5, h_6, h_7, h_8, h_9, h_10, h_11, h_12, h_13, h_14, h_15, h_16]
         refine Hid.selQ (fun h_17 => ?_) (fun h_17 => ?_)
         ·replace H := HS.cnd_t h_17 H
          try simp -implicitDefEqProofs (maxSteps := 999999) [-selQ_sel, h_1, h_2, h_3, h_4, h_5, h_6, h_7, h_8, h_9, h_10, h_11, h_12, h_13, h_14, h_15, h_16, h_17]
          obtain ⟨v9, h_18, H⟩ := HS.bnd H
          try simp -implicitDefEqProofs (maxSteps := 999999) [-selQ_sel, h_1, h_2, h_3, h_4, h_5, h_6, h_7, h_8, h_9, h_10, h_11, h_12, h_13, h_14, h_15, h_16, h_17, h_18]
          refine Hid.brV (fun h_19 => ?_) (fun h_19 => ?_)
          ·replace H := HS.cnd_t h_19 H
           try simp -implicitDefEqProofs (maxSteps := 999999) [-selQ_sel, h_1, h_2, h_3, h_4, h_5, h_6, h_7, h_8, h_9, h_10, h_11, h_12, h_13, h_14, h_15, h_16, h_17, h_18, h_19]
           refine Hid.brV (fun h_20 => ?_) (fun h_20 => ?_)
           ·replace H := HS.cnd_t h_20 H
            try simp -implicitDefEqProofs (maxSteps := 999999) [-selQ_sel, h_1, h_2, h_3, h_4, h_5, h_6, h_7, h_8, h_9, h_10, h_11, h_12, h_13, h_14, h_15, h_16, h_17, h_18, h_19, h_20]
            refine Hid.selQ (fun h_21 => ?_) (fun h_21 => ?_)
            ·replace H := HS.cnd_t h_21 H
             try simp -implicitDefEqProofs (maxSteps := 999999) [-selQ_sel, h_1, h_2, h_3, h_4, h_5, h_6, h_7, h_8, h_9, h_10, h_11, h_12, h_13, h_14, h_15, h_16, h_17, h_18, h_19, h_20, h_21]
             obtain ⟨v10, h_22, H⟩ := HS.bnd H
             try simp -implicitDefEqProofs (maxSteps := 999999) [-selQ_sel, h_1, h_2, h_3, h_4, h_5, h_6, h_7, h_8, h_9, h_10, h_11, h_12, h_13, h_14, h_15, h_16, h_17, h_18, h_19, h_20, h_21, h_22]
             refine Hid.selQ (fun h_23 => ?_) (fun h_23 => ?_)
             ·replace H := HS.cnd_t h_23 H
              try simp -implicitDefEqProofs (maxSteps := 999999) [-selQ_sel, h_1, h_2, h_3, h_4, h_5, h_6, h_7, h_8, h_9, h_10, h_11, h_12, h_13, h_14, h_15, h_16, h_17, h_18, h_19, h_20, h_21, h_22, h_23]
              refine Hid.selQ (fun h_24 => ?_) (fun h_24 => ?_)
              ·replace H := HS.cnd_t h_24 H
               try simp -implicitDefEqProofs (maxSteps := 999999) [-selQ_sel, h_1, h_2, h_3, h_4, h_5, h_6, h_7, h_8, h_9, h_10, h_11, h_12, h_13, h_14, h_15, h_16, h_17, h_18, h_19, h_20, h_21, h_22, h_23, h_24]
               refine Hid.selQ (fun h_25 => ?_) (fun h_25 => ?_)
               ·replace H := HS.cnd_t h_25 H
                try simp -implicitDefEqProofs (maxSteps := 999999) [-selQ_sel, h_1, h_2, h_3, h_4, h_5, h_6, h_7, h_8, h_9, h_10, h_11, h_12, h_13, h_14, h_15, h_16, h_17, h_18, h_19, h_20, h_21, h_22, h_23, h_24, h_25]
                have hr := (HS.some H).symm; subst hr
                refine Hid.mk ⟨_, Wk.refl _, ?_⟩
                try simp -implicitDefEqProofs (maxSteps := 999999) [-selQ_sel, h_1, h_2, h_3, h_4, h_5, h_6, h_7, h_8, h_9, h_10, h_11, h_12, h_13, h_14, h_15, h_16, h_17, h_18, h_19, h_20, h_21, h_22, h_23, h_24, h_25]
               ·replace H := HS.cnd_f h_25 H
                try simp -implicitDefEqProofs (maxSteps := 999999) [-selQ_sel, h_1, h_2, h_3, h_4, h_5, h_6, h_7, h_8, h_9, h_10, h_11, h_12, h_13, h_14, h_15, h_16, h_17, h_18, h_19, h_20, h_21, h_22, h_23, h_24, h_25]
                have hr := (HS.some H).symm; subst hr
                refine Hid.mk ⟨_, Wk.refl _, ?_⟩
                try simp -implicitDefEqProofs (maxSteps := 999999) [-selQ_sel, h_1, h_2, h_3, h_4, h_5, h_6, h_7, h_8, h_9, h_10, h_11, h_12, h_13, h_14, h_15, h_16, h_17, h_18, h_19, h_20, h_21, h_22, h_23, h_24, h_25]
              ·replace H := HS.cnd_f h_24 H
               try simp -implicitDefEqProofs (maxSteps := 999999) [-selQ_sel, h_1, h_2, h_3, h_4, h_5, h_6, h_7, h_8, h_9, h_10, h_11, h_12, h_13, h_14, h_15, h_16, h_17, h_18, h_19, h_20, h_21, h_22, h_23, h_24]
               have hr := (HS.some H).symm; subst hr
               refine Hid.mk ⟨_, Wk.refl _, ?_⟩
               try simp -implicitDefEqProofs (maxSteps := 999999) [-selQ_sel, h_1, h_2, h_3, h_4, h_5, h_6, h_7, h_8, h_9, h_10, h_11, h_12, h_13, h_14, h_15, h_16, h_17, h_18, h_19, h_20, h_21, h_22, h_23, h_24]
             ·replace H := HS.cnd_f h_23 H
              try simp -implicitDefEqProofs (maxSteps := 999999) [-selQ_sel, h_1, h_2, h_3, h_4, h_5, h_6, h_7, h_8, h_9, h_10, h_11, h_12, h_13, h_14, h_15, h_16, h_17, h_18, h_19, h_20, h_21, h_22, h_23]
              have hr := (HS.some H).symm; subst hr
              refine Hid.mk ⟨_, Wk.refl _, ?_⟩
              try simp -implicitDefEqProofs (maxSteps := 999999) [-selQ_sel, h_1, h_2, h_3, h_4, h_5, h_6, h_7, h_8, h_9, h_10, h_11, h_12, h_13, h_14, h_15, h_16, h_17, h_18, h_19, h_20, h_21, h_22, h_23]
            ·replace H := HS.cnd_f h_21 H
             try simp -implicitDefEqProofs (maxSteps := 999999) [-selQ_sel, h_1, h_2, h_3, h_4, h_5, h_6, h_7, h_8, h_9, h_10, h_11, h_12, h_13, h_14, h_15, h_16, h_17, h_18, h_19, h_20, h_21]
             have hr := (HS.some H).symm; subst hr
             refine Hid.mk ⟨_, Wk.refl _, ?_⟩
             try simp -implicitDefEqProofs (maxSteps := 999999) [-selQ_sel, h_1, h_2, h_3, h_4, h_5, h_6, h_7, h_8, h_9, h_10, h_11, h_12, h_13, h_14, h_15, h_16, h_17, h_18, h_19, h_20, h_21]
           ·replace H := HS.cnd_f h_20 H
            try simp -implicitDefEqProofs (maxSteps := 999999) [-selQ_sel, h_1, h_2, h_3, h_4, h_5, h_6, h_7, h_8, h_9, h_10, h_11, h_12, h_13, h_14, h_15, h_16, h_17, h_18, h_19, h_20]
            obtain ⟨v11, h_26, H⟩ := HS.bnd H
            try simp -implicitDefEqProofs (maxSteps := 999999) [-selQ_sel, h_1, h_2, h_3, h_4, h_5, h_6, h_7, h_8, h_9, h_10, h_11, h_12, h_13, h_14, h_15, h_16, h_17, h_18, h_19, h_20, h_26]
            have hr := (HS.some H).symm; subst hr
            refine Hid.mk ⟨_, Wk.refl _, ?_⟩
            try simp -implicitDefEqProofs (maxSteps := 999999) [-selQ_sel, h_1, h_2, h_3, h_4, h_5, h_6, h_7, h_8, h_9, h_10, h_11, h_12, h_13, h_14, h_15, h_16, h_17, h_18, h_19, h_20, h_26]
          ·replace H := HS.cnd_f h_19 H
           try simp -implicitDefEqProofs (maxSteps := 999999) [-selQ_sel, h_1, h_2, h_3, h_4, h_5, h_6, h_7, h_8, h_9, h_10, h_11, h_12, h_13, h_14, h_15, h_16, h_17, h_18, h_19]
           have hr := (HS.some H).symm; subst hr
           refine Hid.mk ⟨_, Wk.refl _, ?_⟩
           try simp -implicitDefEqProofs (maxSteps := 999999) [-selQ_sel, h_1, h_2, h_3, h_4, h_5, h_6, h_7, h_8, h_9, h_10, h_11, h_12, h_13, h_14, h_15, h_16, h_17, h_18, h_19]
         ·replace H := HS.cnd_f h_17 H
          try simp -implicitDefEqProofs (maxSteps := 999999) [-selQ_sel, h_1, h_2, h_3, h_4, h_5, h_6, h_7, h_8, h_9, h_10, h_11, h_12, h_13, h_14, h_15, h_16, h_17]
          have hr := (HS.some H).symm; subst hr
          refine Hid.mk ⟨_, Wk.refl _, ?_⟩
          try simp -implicitDefEqProofs (maxSteps := 999999) [-selQ_sel, h_1, h_2, h_3, h_4, h_5, h_6, h_7, h_8, h_9, h_10, h_11, h_12, h_13, h_14, h_15, h_16, h_17]
        ·replace H := HS.cnd_f h_15 H
         try simp -implicitDefEqProofs (maxSteps := 999999) [-selQ_sel, h_1, h_2, h_3, h_4, h_5, h_6, h_7, h_8, h_9, h_10, h_11, h_12, h_13, h_14, h_15]
         have hr := (HS.some H).symm; subst hr
         refine Hid.mk ⟨_, Wk.refl _, ?_⟩
         try simp -implicitDefEqProofs (maxSteps := 999999) [-selQ_sel, h_1, h_2, h_3, h_4, h_5, h_6, h_7, h_8, h_9, h_10, h_11, h_12, h_13, h_14, h_15]
       ·replace H := HS.cnd_f h_13 H
        try simp -implicitDefEqProofs (maxSteps := 999999) [-selQ_sel, h_1, h_2, h_3, h_4, h_5, h_6, h_7, h_8, h_9, h_10, h_11, h_12, h_13]
        have hr := (HS.some H).symm; subst hr
        refine Hid.mk ⟨_, Wk.refl _, ?_⟩
        try simp -implicitDefEqProofs (maxSteps := 999999) [-selQ_sel, h_1, h_2, h_3, h_4, h_5, h_6, h_7, h_8, h_9, h_10, h_11, h_12, h_13]
      ·replace H := HS.cnd_f h_11 H
       try simp -implicitDefEqProofs (maxSteps := 999999) [-selQ_sel, h_1, h_2, h_3, h_4, h_5, h_6, h_7, h_8, h_9, h_10, h_11]
       have hr := (HS.some H).symm; subst hr
       refine Hid.mk ⟨_, Wk.refl _, ?_⟩
       try simp -implicitDefEqProofs (maxSteps := 999999) [-selQ_sel, h_1, h_2, h_3, h_4, h_5, h_6, h_7, h_8, h_9, h_10, h_11]
     ·replace H := HS.cnd_f h_9 H
      try simp -implicitDefEqProofs (maxSteps := 999999) [-selQ_sel, h_1, h_2, h_3, h_4, h_5, h_6, h_7, h_8, h_9]
      have hr := (HS.some H).symm; subst hr
      refine Hid.mk ⟨_, Wk.refl _, ?_⟩
      try simp -implicitDefEqProofs (maxSteps := 999999) [-selQ_sel, h_1, h_2, h_3, h_4, h_5, h_6, h_7, h_8, h_9]
    ·replace H := HS.cnd_f h_7 H
     try simp -implicitDefEqProofs (maxSteps := 999999) [-selQ_sel, h_1, h_2, h_3, h_4, h_5, h_6, h_7]
     have hr := (HS.some H).symm; subst hr
     refine Hid.mk ⟨_, Wk.refl _, ?_⟩
     try simp -implicitDefEqProofs (maxSteps := 999999) [-selQ_sel, h_1, h_2, h_3, h_4, h_5, h_6, h_7]
  ·replace H := HS.cnd_f h_4 H
   try simp -implicitDefEqProofs (maxSteps := 999999) [-selQ_sel, h_1, h_2, h_3, h_4]
   have hr := (HS.some H).symm; subst hr
   refine Hid.mk ⟨_, Wk.refl _, ?_⟩
   try simp -implicitDefEqProofs (maxSteps := 999999) [-selQ_sel, h_1, h_2, h_3, h_4]
 ·replace H := HS.cnd_f h_2 H
  try simp -implicitDefEqProofs (maxSteps := 999999) [-selQ_sel, h_1, h_2]
  have hr := (HS.some H).symm; subst hr
  refine Hid.mk ⟨_, Wk.refl _, ?_⟩
  try simp -implicitDefEqProofs (maxSteps := 999999) [-selQ_sel, h_1, h_2]
theorem spec_SceneOk_ok0 (hm : Try.prog.follows .mixedOrders = true) (k_spec_NodeOk : Sound Try.prog 57 spec_NodeOk_x) (k_spec_NodeAt : Sound Try.prog 45 spec_NodeAt_x) (k_spec_DepthOf : Sound Try.prog 58 spec_DepthOf_x) (k_spec_l01In : Sound Try.prog 87 spec_l01In_x) : Sound Try.prog 44 spec_SceneOk_x := by
 refine xOf_sound fun q r h => ?_
 revert h; revert r; revert q; intro a0 r h
 refine fn_ok E0 hm Try.func44 rfl (by decide +kernel) (by rfl) fun Γ hn hk => ?_
 dsimp only [spec_SceneOk_e, spec_SceneOk_v]
 replace hn : Γ.n = 61 := hn
 replace hk : Γ.k = 0 := hk
 have H : HS (spec_SceneOk a0) r := h
 clear h; unfold spec_SceneOk at H
 try simp -implicitDefEqProofs at H
 refine Tr.of_vc (cl := tabC [(57, spec_NodeOk_x), (45, spec_NodeAt_x), (58, spec_DepthOf_x), (87, spec_l01In_x)]) (E := E0) [] (tab_cons k_spec_NodeOk (tab_cons k_spec_NodeAt (tab_cons k_spec_DepthOf (tab_cons k_spec_l01In tab_nil)))) hm (by rw [hn]; decide +kernel) ?_
 try simp -implicitDefEqProofs (maxSteps := 999999) [-selQ_sel]
 refine Hid.brV (fun h_1 => ?_) (fun h_1 => ?_)
 ·replace H := HS.cnd_t h_1 H
  try simp -implicitDefEqProofs (maxSteps := 999999) [-selQ_sel, h_1]
  obtain ⟨q, h_2, H⟩ := HS.bnd H
  refine Hid.mk (Tr.weak (s' := (spec_SceneOk_l0_S a0) 0) (Wk.ofk [0] hk (by rfl) (by simp -implicitDefEqProofs [spec_SceneOk_l0_S, h_1]) (by simp -implicitDefEqProofs [spec_SceneOk_l0_S, h_1])) ?_)
  refine wp_loop_of (S := (spec_SceneOk_l0_S a0)) (f := (spec_SceneOk_l0 a0)) (xt := (spec_SceneOk_l0_X a0)) ?_ ?_ h_2 ?_
  ·intro q; rcases q with ⟨⟩ | ⟨⟩ <;> simp [spec_SceneOk_l0_X]
  ·clear H h_2 q
   rintro x8 o R hf hR
   have H : HS (spec_SceneOk_l0 a0 x8) o := hf
   clear hf; unfold spec_SceneOk_l0 at H
   try simp -implicitDefEqProofs at H
   refine Tr.of_vc (cl := tabC [(57, spec_NodeOk_x), (45, spec_NodeAt_x), (58, spec_DepthOf_x), (87, spec_l01In_x)]) (E := E0) [] (tab_cons k_spec_NodeOk (tab_cons k_spec_NodeAt (tab_cons k_spec_DepthOf (tab_cons k_spec_l01In tab_nil)))) hm (by rw [hn]; decide +kernel) ?_
   try simp -implicitDefEqProofs (maxSteps := 999999) [-selQ_sel, spec_SceneOk_l0_S]
   refine Hid.brV (fun h_3 => ?_) (fun h_3 => ?_)
   ·replace H := HS.cnd_t h_3 H
    try simp -implicitDefEqProofs (maxSteps := 999999) [-selQ_sel, h_3]
    have hr := (HS.some H).symm; subst hr
    exact Hid.mk ⟨(spec_SceneOk_l0_X a0 (.inl ())).2, Wk.ofk [] hk (by rfl) (by simp -implicitDefEqProofs [spec_SceneOk_l0_X, h_3]) (by simp -implicitDefEqProofs [spec_SceneOk_l0_X, h_3]), hR⟩
   ·replace H := HS.cnd_f h_3 H
    try simp -implicitDefEqProofs (maxSteps := 999999) [-selQ_sel, h_3]
    obtain ⟨v9, h_4, H⟩ := HS.bnd H
    try simp -implicitDefEqProofs (maxSteps := 999999) [-selQ_sel, h_3, h_4]
    obtain ⟨v10, h_5, H⟩ := HS.bnd H
    try simp -implicitDefEqProofs (maxSteps := 999999) [-selQ_sel, h_3, h_4, h_5]
    refine Hid.selQ (fun h_6 => ?_) (fun h_6 => ?_)
    ·replace H := HS.cnd_t h_6 H
     try simp -implicitDefEqProofs (maxSteps := 999999) [-selQ_sel, h_3, h_4, h_5, h_6]
     obtain ⟨v11, h_7, H⟩ := HS.bnd H
     try simp -implicitDefEqProofs (maxSteps := 999999) [-selQ_sel, h_3, h_4, h_5, h_6, h_7]
     refine Hid.selQ (fun h_8 => ?_) (fun h_8 => ?_)
     ·replace H := HS.cnd_t h_8 H
      try simp -implicitDefEqProofs (maxSteps := 999999) [-selQ_sel, h_3, h_4, h_5, h_6, h_7, h_8]
      obtain ⟨v12, h_9, H⟩ := HS.bnd H
      try simp -implicitDefEqProofs (maxSteps := 999999) [-selQ_sel, h_3, h_4, h_5, h_6, h_7, h_8, h_9]
      obtain ⟨v13, h_10, H⟩ := HS.bnd H
      try simp -implicitDefEqProofs (maxSteps := 999999) [-selQ_sel, h_3, h_4, h_5, h_6, h_7, h_8, h_9, h_10]
      refine Hid.brV (fun h_11 => ?_) (fun h_11 => ?_)
      ·replace H := HS.cnd_t h_11 H
       try simp -implicitDefEqProofs (maxSteps := 999999) [-selQ_sel, h_3, h_4, h_5, h_6, h_7, h_8, h_9, h_10, h_11]
       obtain ⟨v14, h_12, H⟩ := HS.bnd H
       try simp -implicitDefEqProofs (maxSteps := 999999) [-selQ_sel, h_3, h_4, h_5, h_6, h_7, h_8, h_9, h_10, h_11, h_12]
       refine Hid.selQ (fun h_13 => ?_) (fun h_13 => ?_)
       ·replace H := HS.cnd_t h_13 H
        try simp -implicitDefEqProofs (maxSteps := 999999) [-selQ_sel, h_3, h_4, h_5, h_6, h_7, h_8, h_9, h_10, h_11, h_12, h_13]
        have hr := (HS.some H).symm; subst hr
        exact Hid.mk ⟨spec_SceneOk_l0_S a0 (IntKind.i64.wrap (x8 + 1)), Wk.ofk [0] hk (by rfl) (by simp -implicitDefEqProofs [spec_SceneOk_l0_S, h_3, h_4, h_5, h_6, h_7, h_8, h_9, h_10, h_11, h_12, h_13]) (by simp -implicitDefEqProofs [spec_SceneOk_l0_S, h_3, h_4, h_5, h_6, h_7, h_8, h_9, h_10, h_11, h_12, h_13]), hR⟩
       ·replace H := HS.cnd_f h_13 H
        try simp -implicitDefEqProofs (maxSteps := 999999) [-selQ_sel, h_3, h_4, h_5, h_6, h_7, h_8, h_9, h_10, h_11, h_12, h_13]
        refine Hid.selQ (fun h_14 => ?_) (fun h_14 => ?_)
        ·replace H := HS.cnd_t h_14 H
         try simp -implicitDefEqProofs (maxSteps := 999999) [-selQ_sel, h_3, h_4, h_5, h_6, h_7, h_8, h_9, h_10, h_11, h_12, h_13, h_14]
         obtain ⟨v15, h_15, H⟩ := HS.bnd H
         try simp -implicitDefEqProofs (maxSteps := 999999) [-selQ_sel, h_3, h_4, h_5, h_6, h_7, h_8, h_9, h_10, h_11, h_12, h_13, h_14, h_15]
         refine Hid.brV (fun h_16 => ?_) (fun h_16 => ?_)
         ·replace H := HS.cnd_t h_16 H
          try simp -implicitDefEqProofs (maxSteps := 999999) [-selQ_sel, h_3, h_4, h_5, h_6, h_7, h_8, h_9, h_10, h_11, h_12, h_13, h_14, h_15, h_16]
          have hr := (HS.some H).symm; subst hr
          exact Hid.mk ⟨spec_SceneOk_l0_S a0 (IntKind.i64.wrap (x8 + 1)), Wk.ofk [0] hk (by rfl) (by simp -implicitDefEqProofs [spec_SceneOk_l0_S, h_3, h_4, h_5, h_6, h_7, h_8, h_9, h_10, h_11, h_12, h_13, h_14, h_15, h_16]) (by simp -implicitDefEqProofs [spec_SceneOk_l0_S, h_3, h_4, h_5, h_6, h_7, h_8, h_9, h_10, h_11, h_12, h_13, h_14, h_15, h_16]), hR⟩
         ·replace H := HS.cnd_f h_16 H
          try simp -implicitDefEqProofs (maxSteps := 999999) [-selQ_sel, h_3, h_4, h_5, h_6, h_7, h_8, h_9, h_10, h_11, h_12, h_13, h_14, h_15, h_16]
          have hr := (HS.some H).symm; subst hr
          exact Hid.mk ⟨(spec_SceneOk_l0_X a0 (.inr ())).2, Wk.ofk [] hk (by rfl) (by simp -implicitDefEqProofs [spec_SceneOk_l0_X, h_3, h_4, h_5, h_6, h_7, h_8, h_9, h_10, h_11, h_12, h_13, h_14, h_15, h_16]) (by simp -implicitDefEqProofs [spec_SceneOk_l0_X, h_3, h_4, h_5, h_6, h_7, h_8, h_9, h_10, h_11, h_12, h_13, h_14, h_15, h_16]), hR⟩
        ·replace H := HS.cnd_f h_14 H
         try simp -implicitDefEqProofs (maxSteps := 999999) [-selQ_sel, h_3, h_4, h_5, h_6, h_7, h_8, h_9, h_10, h_11, h_12, h_13, h_14]
         have hr := (HS.some H).symm; subst hr
         exact Hid.mk ⟨(spec_SceneOk_l0_X a0 (.inr ())).2, Wk.ofk [] hk (by rfl) (by simp -implicitDefEqProofs [spec_SceneOk_l0_X, h_3, h_4, h_5, h_6, h_7, h_8, h_9, h_10, h_11, h_12, h_13, h_14]) (by simp -implicitDefEqProofs [spec_SceneOk_l0_X, h_3, h_4, h_5, h_6, h_7, h_8, h_9, h_10, h_11, h_12, h_13, h_14]), hR⟩
      ·replace H := HS.cnd_f h_11 H
       try simp -implicitDefEqProofs (maxSteps := 999999) [-selQ_sel, h_3, h_4, h_5, h_6, h_7, h_8, h_9, h_10, h_11]
       have hr := (HS.some H).symm; subst hr
       exact Hid.mk ⟨(spec_SceneOk_l0_X a0 (.inr ())).2, Wk.ofk [] hk (by rfl) (by simp -implicitDefEqProofs [spec_SceneOk_l0_X, h_3, h_4, h_5, h_6, h_7, h_8, h_9, h_10, h_11]) (by simp -implicitDefEqProofs [spec_SceneOk_l0_X, h_3, h_4, h_5, h_6, h_7, h_8, h_9, h_10, h_11]), hR⟩
     ·replace H := HS.cnd_f h_8 H
      try simp -implicitDefEqProofs (maxSteps := 999999) [-selQ_sel, h_3, h_4, h_5, h_6, h_7, h_8]
      have hr := (HS.some H).symm; subst hr
      exact Hid.mk ⟨(spec_SceneOk_l0_X a0 (.inr ())).2, Wk.ofk [] hk (by rfl) (by simp -implicitDefEqProofs [spec_SceneOk_l0_X, h_3, h_4, h_5, h_6, h_7, h_8]) (by simp -implicitDefEqProofs [spec_SceneOk_l0_X, h_3, h_4, h_5, h_6, h_7, h_8]), hR⟩
    ·replace H := HS.cnd_f h_6 H
     try simp -implicitDefEqProofs (maxSteps := 999999) [-selQ_sel, h_3, h_4, h_5, h_6]
     have hr := (HS.some H).symm; subst hr
     exact Hid.mk ⟨(spec_SceneOk_l0_X a0 (.inr ())).2, Wk.ofk [] hk (by rfl) (by simp -implicitDefEqProofs [spec_SceneOk_l0_X, h_3, h_4, h_5, h_6]) (by simp -implicitDefEqProofs [spec_SceneOk_l0_X, h_3, h_4, h_5, h_6]), hR⟩
  ·rcases q with ⟨⟩ | ⟨⟩
   ·dsimp only at H
    try simp -implicitDefEqProofs (maxSteps := 999999) [-selQ_sel, h_1, spec_SceneOk_l0_X]
    have hr := (HS.some H).symm; subst hr
    refine Hid.mk ⟨_, Wk.refl _, ?_⟩
    try simp -implicitDefEqProofs (maxSteps := 999999) [-selQ_sel, h_1]
   ·dsimp only at H
    try simp -implicitDefEqProofs (maxSteps := 999999) [-selQ_sel, h_1, spec_SceneOk_l0_X]
    have hr := (HS.some H).symm; subst hr
    refine Hid.mk ⟨_, Wk.refl _, ?_⟩
    try simp -implicitDefEqProofs (maxSteps := 999999) [-selQ_sel, h_1]
 ·replace H := HS.cnd_f h_1 H
  try simp -implicitDefEqProofs (maxSteps := 999999) [-selQ_sel, h_1]
  have hr := (HS.some H).symm; subst hr
  refine Hid.mk ⟨_, Wk.refl _, ?_⟩
  try simp -implicitDefEqProofs (maxSteps := 999999) [-selQ_sel, h_1]
theorem spec_PaintOk_ok0 (hm : Try.prog.follows .mixedOrders = true) (k_spec_ColorOk : Sound Try.prog 126 spec_ColorOk_x) (k_spec_PointOk : Sound Try.prog 125 spec_PointOk_x) : Sound Try.prog 103 spec_PaintOk_x := by
 refine xOf_sound fun q r h => ?_
 revert h; revert r; revert q; intro a0 r h
 refine fn_ok E0 hm Try.func103 rfl (by decide +kernel) (by rfl) fun Γ hn hk => ?_
 dsimp only [spec_PaintOk_e, spec_PaintOk_v]
 replace hn : Γ.n = 55 := hn
 replace hk : Γ.k = 0 := hk
 have H : HS (spec_PaintOk a0) r := h
 clear h; unfold spec_PaintOk at H
 try simp -implicitDefEqProofs at H
 refine Tr.of_vc (cl := tabC [(126, spec_ColorOk_x), (125, spec_PointOk_x)]) (E := E0) [] (tab_cons k_spec_ColorOk (tab_cons k_spec_PointOk tab_nil)) hm (by rw [hn]; decide +kernel) ?_
 try simp -implicitDefEqProofs (maxSteps := 999999) [-selQ_sel]
 obtain ⟨v1, h_1, H⟩ := HS.bnd H
 try simp -implicitDefEqProofs (maxSteps := 999999) [-selQ_sel, h_1]
 refine Hid.brV (fun h_2 => ?_) (fun h_2 => ?_)
 ·replace H := HS.cnd_t h_2 H
  try simp -implicitDefEqProofs (maxSteps := 999999) [-selQ_sel, h_1, h_2]
  refine Hid.brV (fun h_3 => ?_) (fun h_3 => ?_)
  ·replace H := HS.cnd_t h_3 H
   try simp -implicitDefEqProofs (maxSteps := 999999) [-selQ_sel, h_1, h_2, h_3]
   refine Hid.selQ (fun h_4 => ?_) (fun h_4 => ?_)
   ·replace H := HS.cnd_t h_4 H
    try simp -implicitDefEqProofs (maxSteps := 999999) [-selQ_sel, h_1, h_2, h_3, h_4]
    refine Hid.selQ (fun h_5 => ?_) (fun h_5 => ?_)
    ·replace H := HS.cnd_t h_5 H
     try simp -implicitDefEqProofs (maxSteps := 999999) [-selQ_sel, h_1, h_2, h_3, h_4, h_5]
     have hr := (HS.some H).symm; subst hr
     refine Hid.mk ⟨_, Wk.refl _, ?_⟩
     try simp -implicitDefEqProofs (maxSteps := 999999) [-selQ_sel, h_1, h_2, h_3, h_4, h_5]
    ·replace H := HS.cnd_f h_5 H
     try simp -implicitDefEqProofs (maxSteps := 999999) [-selQ_sel, h_1, h_2, h_3, h_4, h_5]
     have hr := (HS.some H).symm; subst hr
     refine Hid.mk ⟨_, Wk.refl _, ?_⟩
     try simp -implicitDefEqProofs (maxSteps := 999999) [-selQ_sel, h_1, h_2, h_3, h_4, h_5]
   ·replace H := HS.cnd_f h_4 H
    try simp -implicitDefEqProofs (maxSteps := 999999) [-selQ_sel, h_1, h_2, h_3, h_4]
    have hr := (HS.some H).symm; subst hr
    refine Hid.mk ⟨_, Wk.refl _, ?_⟩
    try simp -implicitDefEqProofs (maxSteps := 999999) [-selQ_sel, h_1, h_2, h_3, h_4]
  ·replace H := HS.cnd_f h_3 H
   try simp -implicitDefEqProofs (maxSteps := 999999) [-selQ_sel, h_1, h_2, h_3]
   refine Hid.selQ (fun h_6 => ?_) (fun h_6 => ?_)
   ·replace H := HS.cnd_t h_6 H
    try simp -implicitDefEqProofs (maxSteps := 999999) [-selQ_sel, h_1, h_2, h_3, h_6]
    obtain ⟨v2, h_7, H⟩ := HS.bnd H
    try simp -implicitDefEqProofs (maxSteps := 999999) [-selQ_sel, h_1, h_2, h_3, h_6, h_7]
    refine Hid.selQ (fun h_8 => ?_) (fun h_8 => ?_)
    ·replace H := HS.cnd_t h_8 H
     try simp -implicitDefEqProofs (maxSteps := 999999) [-selQ_sel, h_1, h_2, h_3, h_6, h_7, h_8]
     obtain ⟨v3, h_9, H⟩ := HS.bnd H
     try simp -implicitDefEqProofs (maxSteps := 999999) [-selQ_sel, h_1, h_2, h_3, h_6, h_7, h_8, h_9]
     refine Hid.selQ (fun h_10 => ?_) (fun h_10 => ?_)
     ·replace H := HS.cnd_t h_10 H
      try simp -implicitDefEqProofs (maxSteps := 999999) [-selQ_sel, h_1, h_2, h_3, h_6, h_7, h_8, h_9, h_10]
      obtain ⟨v4, h_11, H⟩ := HS.bnd H
      try simp -implicitDefEqProofs (maxSteps := 999999) [-selQ_sel, h_1, h_2, h_3, h_6, h_7, h_8, h_9, h_10, h_11]
      refine Hid.selQ (fun h_12 => ?_) (fun h_12 => ?_)
      ·replace H := HS.cnd_t h_12 H
       try simp -implicitDefEqProofs (maxSteps := 999999) [-selQ_sel, h_1, h_2, h_3, h_6, h_7, h_8, h_9, h_10, h_11, h_12]
       have hr := (HS.some H).symm; subst hr
       refine Hid.mk ⟨_, Wk.refl _, ?_⟩
       try simp -implicitDefEqProofs (maxSteps := 999999) [-selQ_sel, h_1, h_2, h_3, h_6, h_7, h_8, h_9, h_10, h_11, h_12]
      ·replace H := HS.cnd_f h_12 H
       try simp -implicitDefEqProofs (maxSteps := 999999) [-selQ_sel, h_1, h_2, h_3, h_6, h_7, h_8, h_9, h_10, h_11, h_12]
       have hr := (HS.some H).symm; subst hr
       refine Hid.mk ⟨_, Wk.refl _, ?_⟩
       try simp -implicitDefEqProofs (maxSteps := 999999) [-selQ_sel, h_1, h_2, h_3, h_6, h_7, h_8, h_9, h_10, h_11, h_12]
     ·replace H := HS.cnd_f h_10 H
      try simp -implicitDefEqProofs (maxSteps := 999999) [-selQ_sel, h_1, h_2, h_3, h_6, h_7, h_8, h_9, h_10]
      have hr := (HS.some H).symm; subst hr
      refine Hid.mk ⟨_, Wk.refl _, ?_⟩
      try simp -implicitDefEqProofs (maxSteps := 999999) [-selQ_sel, h_1, h_2, h_3, h_6, h_7, h_8, h_9, h_10]
    ·replace H := HS.cnd_f h_8 H
     try simp -implicitDefEqProofs (maxSteps := 999999) [-selQ_sel, h_1, h_2, h_3, h_6, h_7, h_8]
     have hr := (HS.some H).symm; subst hr
     refine Hid.mk ⟨_, Wk.refl _, ?_⟩
     try simp -implicitDefEqProofs (maxSteps := 999999) [-selQ_sel, h_1, h_2, h_3, h_6, h_7, h_8]
   ·replace H := HS.cnd_f h_6 H
    try simp -implicitDefEqProofs (maxSteps := 999999) [-selQ_sel, h_1, h_2, h_3, h_6]
    have hr := (HS.some H).symm; subst hr
    refine Hid.mk ⟨_, Wk.refl _, ?_⟩
    try simp -implicitDefEqProofs (maxSteps := 999999) [-selQ_sel, h_1, h_2, h_3, h_6]
 ·replace H := HS.cnd_f h_2 H
  try simp -implicitDefEqProofs (maxSteps := 999999) [-selQ_sel, h_1, h_2]
  have hr := (HS.some H).symm; subst hr
  refine Hid.mk ⟨_, Wk.refl _, ?_⟩
  try simp -implicitDefEqProofs (maxSteps := 999999) [-selQ_sel, h_1, h_2]
theorem spec_l15Copy_ok0 (hm : Try.prog.follows .mixedOrders = true) (k_spec_l15CopyNode : Sound Try.prog 47 spec_l15CopyNode_x) : Sound Try.prog 43 spec_l15Copy_x := by
 refine xOf_sound fun q r h => ?_
 revert h; revert r; revert q; intro a0 r h
 refine fn_ok E0 hm Try.func43 rfl (by decide +kernel) (by rfl) fun Γ hn hk => ?_
 dsimp only [spec_l15Copy_e, spec_l15Copy_v]
 replace hn : Γ.n = 25 := hn
 replace hk : Γ.k = 0 := hk
 have H : HS (spec_l15Copy a0) r := h
 clear h; unfold spec_l15Copy at H
 try simp -implicitDefEqProofs at H
 refine Tr.of_vc (cl := tabC [(47, spec_l15CopyNode_x)]) (E := E0) [] (tab_cons k_spec_l15CopyNode tab_nil) hm (by rw [hn]; decide +kernel) ?_
 try simp -implicitDefEqProofs +decide (maxSteps := 999999) [-selQ_sel, hokQ_of]
 obtain ⟨q, h_1, H⟩ := HS.bnd H
 refine Hid.mk (Tr.weak (s' := (spec_l15Copy_l0_S a0) (0, [])) (Wk.ofk [0, 1, 2, 3] hk (by rfl) (by simp -implicitDefEqProofs [spec_l15Copy_l0_S]) (by simp -implicitDefEqProofs [spec_l15Copy_l0_S])) ?_)
 refine wp_loop_of (S := (spec_l15Copy_l0_S a0)) (f := (spec_l15Copy_l0 a0)) (xt := (spec_l15Copy_l0_X a0)) ?_ ?_ h_1 ?_
 ·intro q; simp [spec_l15Copy_l0_X]
 ·clear H h_1 q
  rintro ⟨x17, x18⟩ o R hf hR
  have H : HS (spec_l15Copy_l0 a0 (x17, x18)) o := hf
  clear hf; unfold spec_l15Copy_l0 at H
  try simp -implicitDefEqProofs at H
  refine Tr.of_vc (cl := tabC [(47, spec_l15CopyNode_x)]) (E := E0) [] (tab_cons k_spec_l15CopyNode tab_nil) hm (by rw [hn]; decide +kernel) ?_
  try simp -implicitDefEqProofs +decide (maxSteps := 999999) [-selQ_sel, hokQ_of, spec_l15Copy_l0_S]
  refine Hid.brV (fun h_2 => ?_) (fun h_2 => ?_)
  ·replace H := HS.cnd_t h_2 H
   try simp -implicitDefEqProofs +decide (maxSteps := 999999) [-selQ_sel, hokQ_of, h_2]
   have hr := (HS.some H).symm; subst hr
   exact Hid.mk ⟨(spec_l15Copy_l0_X a0 x18).2, Wk.ofk [1, 2, 3] hk (by rfl) (by simp -implicitDefEqProofs [spec_l15Copy_l0_X, h_2]) (by simp -implicitDefEqProofs [spec_l15Copy_l0_X, h_2]), hR⟩
  ·replace H := HS.cnd_f h_2 H
   try simp -implicitDefEqProofs +decide (maxSteps := 999999) [-selQ_sel, hokQ_of, h_2]
   obtain ⟨v19, h_3, H⟩ := HS.bnd H
   try simp -implicitDefEqProofs +decide (maxSteps := 999999) [-selQ_sel, hokQ_of, h_2, h_3]
   obtain ⟨⟨w21, w22, w23, w24, w25, w26, w27, w28, w29, w30, w31, w32, w33, w34⟩, h_4, H⟩ := HS.bnd H
   dsimp only at H
   try simp -implicitDefEqProofs +decide (maxSteps := 999999) [-selQ_sel, hokQ_of, h_2, h_3, h_4]
   obtain ⟨h_5, H⟩ := HS.chkP H
   try simp -implicitDefEqProofs +decide (maxSteps := 999999) [-selQ_sel, hokQ_of, h_2, h_3, h_4, h_5]
   have hr := (HS.some H).symm; subst hr
   exact Hid.mk ⟨spec_l15Copy_l0_S a0 ((IntKind.i64.wrap (x17 + 1)), (x18 ++ [(TNode.mk w21 w22 w23 w24 (TPath.mk w30 w31) w25 w26 w32 w27 w28 w29 (TPath.mk w33 w34))])), Wk.trans (Wk.abs (id := 3) (j := 4) (js := [5, 6, 7, 8]) (by rfl) (by rfl) (by decide) (by simp -implicitDefEqProofs [spec_l15Copy_l0_S, h_2, h_3, h_4, h_5]) (by rfl) (by simp -implicitDefEqProofs [spec_l15Copy_l0_S, h_2, h_3, h_4, h_5]) (by simp -implicitDefEqProofs [spec_l15Copy_l0_S, h_2, h_3, h_4, h_5])) (Wk.trans (Wk.abs (id := 3) (j := 5) (js := [6, 7, 8]) (by rfl) (by rfl) (by decide) (by simp -implicitDefEqProofs [spec_l15Copy_l0_S, h_2, h_3, h_4, h_5]) (by rfl) (by simp -implicitDefEqProofs [spec_l15Copy_l0_S, h_2, h_3, h_4, h_5]) (by simp -implicitDefEqProofs [spec_l15Copy_l0_S, h_2, h_3, h_4, h_5])) (Wk.trans (Wk.abs (id := 3) (j := 6) (js := [7, 8]) (by rfl) (by rfl) (by decide) (by simp -implicitDefEqProofs [spec_l15Copy_l0_S, h_2, h_3, h_4, h_5]) (by rfl) (by simp -implicitDefEqProofs [spec_l15Copy_l0_S, h_2, h_3, h_4, h_5]) (by simp -implicitDefEqProofs [spec_l15Copy_l0_S, h_2, h_3, h_4, h_5])) (Wk.trans (Wk.abs (id := 3) (j := 7) (js := [8]) (by rfl) (by rfl) (by decide) (by simp -implicitDefEqProofs [spec_l15Copy_l0_S, h_2, h_3, h_4, h_5]) (by rfl) (by simp -implicitDefEqProofs [spec_l15Copy_l0_S, h_2, h_3, h_4, h_5]) (by simp -implicitDefEqProofs [spec_l15Copy_l0_S, h_2, h_3, h_4, h_5])) (Wk.trans (Wk.abs (id := 3) (j := 8) (js := []) (by rfl) (by rfl) (by decide) (by simp -implicitDefEqProofs [spec_l15Copy_l0_S, h_2, h_3, h_4, h_5]) (by rfl) (by simp -implicitDefEqProofs [spec_l15Copy_l0_S, h_2, h_3, h_4, h_5]) (by simp -implicitDefEqProofs [spec_l15Copy_l0_S, h_2, h_3, h_4, h_5])) (Wk.ofk [0, 1, 2, 3] hk (by rfl) (by simp -implicitDefEqProofs [spec_l15Copy_l0_S, h_2, h_3, h_4, h_5]) (by simp -implicitDefEqProofs [spec_l15Copy_l0_S, h_2, h_3, h_4, h_5])))))), hR⟩
 ·revert H h_1; revert q; intro y35 h_1 H
  try dsimp only at H
  try simp -implicitDefEqProofs +decide (maxSteps := 999999) [-selQ_sel, hokQ_of, spec_l15Copy_l0_X]
  have hr := (HS.some H).symm; subst hr
  refine Hid.mk ⟨⟨[(2, AV.optr 0 0 1)], [(0, Ob.box [AV.osl 1 0 (List.length y35) (List.length y35)]), (1, Ob.nar 31 (List.map eNode y35) [0, 0, 0, 0, 0, 0, 0, 0, 0, 1, 2, 0, 0, 1, 0, 0, 0, 0, 0, 0, 0, 0, 0, 0, 0, 0, 0, 0, 0, 1, 2])], 2⟩, Wk.ofk [0, 2] hk (by rfl) (by simp -implicitDefEqProofs []) (by simp -implicitDefEqProofs []), ?_⟩
  try simp -implicitDefEqProofs +decide (maxSteps := 999999) [-selQ_sel, hokQ_of]
theorem laws_eqNodeS_ok0 (hm : Try.prog.follows .mixedOrders = true) (k_laws_eqNode : Sound Try.prog 23 laws_eqNode_x) : Sound Try.prog 65 laws_eqNodeS_x := by
 refine xOf_sound fun q r h => ?_
 obtain ⟨a0, a1⟩ := q
 refine fn_ok E0 hm Try.func65 rfl (by decide +kernel) (by rfl) fun Γ hn hk => ?_
 dsimp only [laws_eqNodeS_e, laws_eqNodeS_v]
 replace hn : Γ.n = 27 := hn
 replace hk : Γ.k = 0 := hk
 have H : HS (laws_eqNodeS a0 a1) r := h
 clear h; unfold laws_eqNodeS at H
 try simp -implicitDefEqProofs at H
 refine Tr.of_vc (cl := tabC [(23, laws_eqNode_x)]) (E := E0) [] (tab_cons k_laws_eqNode tab_nil) hm (by rw [hn]; decide +kernel) ?_
 try simp -implicitDefEqProofs +decide (maxSteps := 999999) [-selQ_sel, hokQ_of]
 refine Hid.brV (fun h_1 => ?_) (fun h_1 => ?_)
 ·replace H := HS.cnd_t h_1 H
  try simp -implicitDefEqProofs +decide (maxSteps := 999999) [-selQ_sel, hokQ_of, h_1]
  obtain ⟨q, h_2, H⟩ := HS.bnd H
  refine Hid.mk (Tr.weak (s' := (laws_eqNodeS_l0_S a0 a1) 0) (Wk.ofk [] hk (by rfl) (by simp -implicitDefEqProofs [laws_eqNodeS_l0_S, h_1]) (by simp -implicitDefEqProofs [laws_eqNodeS_l0_S, h_1])) ?_)
  refine wp_loop_of (S := (laws_eqNodeS_l0_S a0 a1)) (f := (laws_eqNodeS_l0 a0 a1)) (xt := (laws_eqNodeS_l0_X a0 a1)) ?_ ?_ h_2 ?_
  ·intro q; rcases q with ⟨⟩ | ⟨⟩ <;> simp [laws_eqNodeS_l0_X]
  ·clear H h_2 q
   rintro x4 o R hf hR
   have H : HS (laws_eqNodeS_l0 a0 a1 x4) o := hf
   clear hf; unfold laws_eqNodeS_l0 at H
   try simp -implicitDefEqProofs at H
   refine Tr.of_vc (cl := tabC [(23, laws_eqNode_x)]) (E := E0) [] (tab_cons k_laws_eqNode tab_nil) hm (by rw [hn]; decide +kernel) ?_
   try simp -implicitDefEqProofs +decide (maxSteps := 999999) [-selQ_sel, hokQ_of, laws_eqNodeS_l0_S]
   refine Hid.brV (fun h_3 => ?_) (fun h_3 => ?_)
   ·replace H := HS.cnd_t h_3 H
    try simp -implicitDefEqProofs +decide (maxSteps := 999999) [-selQ_sel, hokQ_of, h_3]
    have hr := (HS.some H).symm; subst hr
    exact Hid.mk ⟨(laws_eqNodeS_l0_X a0 a1 (.inl ())).2, Wk.ofk [] hk (by rfl) (by simp -implicitDefEqProofs [laws_eqNodeS_l0_X, h_3]) (by simp -implicitDefEqProofs [laws_eqNodeS_l0_X, h_3]), hR⟩
   ·replace H := HS.cnd_f h_3 H
    try simp -implicitDefEqProofs +decide (maxSteps := 999999) [-selQ_sel, hokQ_of, h_3]
    obtain ⟨v5, h_4, H⟩ := HS.bnd H
    try simp -implicitDefEqProofs +decide (maxSteps := 999999) [-selQ_sel, hokQ_of, h_3, h_4]
    obtain ⟨v6, h_5, H⟩ := HS.bnd H
    try simp -implicitDefEqProofs +decide (maxSteps := 999999) [-selQ_sel, hokQ_of, h_3, h_4, h_5]
    obtain ⟨v7, h_6, H⟩ := HS.bnd H
    try simp -implicitDefEqProofs +decide (maxSteps := 999999) [-selQ_sel, hokQ_of, h_3, h_4, h_5, h_6]
    refine Hid.brV (fun h_7 => ?_) (fun h_7 => ?_)
    ·replace H := HS.cnd_t h_7 H
     try simp -implicitDefEqProofs +decide (maxSteps := 999999) [-selQ_sel, hokQ_of, h_3, h_4, h_5, h_6, h_7]
     have hr := (HS.some H).symm; subst hr
     exact Hid.mk ⟨laws_eqNodeS_l0_S a0 a1 (IntKind.i64.wrap (x4 + 1)), Wk.ofk [] hk (by rfl) (by simp -implicitDefEqProofs [laws_eqNodeS_l0_S, h_3, h_4, h_5, h_6, h_7]) (by simp -implicitDefEqProofs [laws_eqNodeS_l0_S, h_3, h_4, h_5, h_6, h_7]), hR⟩
    ·replace H := HS.cnd_f h_7 H
     try simp -implicitDefEqProofs +decide (maxSteps := 999999) [-selQ_sel, hokQ_of, h_3, h_4, h_5, h_6, h_7]
     have hr := (HS.some H).symm; subst hr
     exact Hid.mk ⟨(laws_eqNodeS_l0_X a0 a1 (.inr ())).2, Wk.ofk [] hk (by rfl) (by simp -implicitDefEqProofs [laws_eqNodeS_l0_X, h_3, h_4, h_5, h_6, h_7]) (by simp -implicitDefEqProofs [laws_eqNodeS_l0_X, h_3, h_4, h_5, h_6, h_7]), hR⟩
  ·rcases q with ⟨⟩ | ⟨⟩
   ·dsimp only at H
    try simp -implicitDefEqProofs +decide (maxSteps := 999999) [-selQ_sel, hokQ_of, h_1, laws_eqNodeS_l0_X]
    have hr := (HS.some H).symm; subst hr
    refine Hid.mk ⟨_, Wk.refl _, ?_⟩
    try simp -implicitDefEqProofs +decide (maxSteps := 999999) [-selQ_sel, hokQ_of, h_1]
   ·dsimp only at H
    try simp -implicitDefEqProofs +decide (maxSteps := 999999) [-selQ_sel, hokQ_of, h_1, laws_eqNodeS_l0_X]
    have hr := (HS.some H).symm; subst hr
    refine Hid.mk ⟨_, Wk.refl _, ?_⟩
    try simp -implicitDefEqProofs +decide (maxSteps := 999999) [-selQ_sel, hokQ_of, h_1]
 ·replace H := HS.cnd_f h_1 H
  try simp -implicitDefEqProofs +decide (maxSteps := 999999) [-selQ_sel, hokQ_of, h_1]
  have hr := (HS.some H).symm; subst hr
  refine Hid.mk ⟨_, Wk.refl _, ?_⟩
  try simp -implicitDefEqProofs +decide (maxSteps := 999999) [-selQ_sel, hokQ_of, h_1]
theorem spec_DepthOf_ok0 (hm : Try.prog.follows .mixedOrders = true) (k_spec_NodeAt : Sound Try.prog 45 spec_NodeAt_x) : Sound Try.prog 58 spec_DepthOf_x := by
 refine xOf_sound fun q r h => ?_
 obtain ⟨a0, a1⟩ := q
 refine fn_ok E0 hm Try.func58 rfl (by decide +kernel) (by rfl) fun Γ hn hk => ?_
 dsimp only [spec_DepthOf_e, spec_DepthOf_v]
 replace hn : Γ.n = 28 := hn
 replace hk : Γ.k = 0 := hk
 have H : HS (spec_DepthOf a0 a1) r := h
 clear h; unfold spec_DepthOf at H
 try simp -implicitDefEqProofs at H
 refine Tr.of_vc (cl := tabC [(45, spec_NodeAt_x)]) (E := E0) [] (tab_cons k_spec_NodeAt tab_nil) hm (by rw [hn]; decide +kernel) ?_
 try simp -implicitDefEqProofs (maxSteps := 999999) [-selQ_sel]
 obtain ⟨q, h_1, H⟩ := HS.bnd H
 refine Hid.mk (Tr.weak (s' := (spec_DepthOf_l0_S a0) (a1, 0, 0)) (Wk.ofk [0] hk (by rfl) (by simp -implicitDefEqProofs [spec_DepthOf_l0_S]) (by simp -implicitDefEqProofs [spec_DepthOf_l0_S])) ?_)
 refine wp_loop_of (S := (spec_DepthOf_l0_S a0)) (f := (spec_DepthOf_l0 a0)) (xt := (spec_DepthOf_l0_X a0)) ?_ ?_ h_1 ?_
 ·intro q; rcases q with y8 | ⟨⟩ <;> simp [spec_DepthOf_l0_X]
 ·clear H h_1 q
  rintro ⟨x3, x4, x5⟩ o R hf hR
  have H : HS (spec_DepthOf_l0 a0 (x3, x4, x5)) o := hf
  clear hf; unfold spec_DepthOf_l0 at H
  try simp -implicitDefEqProofs at H
  refine Tr.of_vc (cl := tabC [(45, spec_NodeAt_x)]) (E := E0) [] (tab_cons k_spec_NodeAt tab_nil) hm (by rw [hn]; decide +kernel) ?_
  try simp -implicitDefEqProofs (maxSteps := 999999) [-selQ_sel, spec_DepthOf_l0_S]
  refine Hid.brV (fun h_2 => ?_) (fun h_2 => ?_)
  ·replace H := HS.cnd_t h_2 H
   try simp -implicitDefEqProofs (maxSteps := 999999) [-selQ_sel, h_2]
   refine Hid.brV (fun h_3 => ?_) (fun h_3 => ?_)
   ·replace H := HS.cnd_t h_3 H
    try simp -implicitDefEqProofs (maxSteps := 999999) [-selQ_sel, h_2, h_3]
    have hr := (HS.some H).symm; subst hr
    exact Hid.mk ⟨(spec_DepthOf_l0_X a0 (.inl x4)).2, Wk.ofk [] hk (by rfl) (by simp -implicitDefEqProofs [spec_DepthOf_l0_X, h_2, h_3]) (by simp -implicitDefEqProofs [spec_DepthOf_l0_X, h_2, h_3]), hR⟩
   ·replace H := HS.cnd_f h_3 H
    try simp -implicitDefEqProofs (maxSteps := 999999) [-selQ_sel, h_2, h_3]
    obtain ⟨v6, h_4, H⟩ := HS.bnd H
    try simp -implicitDefEqProofs (maxSteps := 999999) [-selQ_sel, h_2, h_3, h_4]
    refine Hid.brV (fun h_5 => ?_) (fun h_5 => ?_)
    ·replace H := HS.cnd_t h_5 H
     try simp -implicitDefEqProofs (maxSteps := 999999) [-selQ_sel, h_2, h_3, h_4, h_5]
     obtain ⟨v7, h_6, H⟩ := HS.bnd H
     try simp -implicitDefEqProofs (maxSteps := 999999) [-selQ_sel, h_2, h_3, h_4, h_5, h_6]
     have hr := (HS.some H).symm; subst hr
     exact Hid.mk ⟨spec_DepthOf_l0_S a0 (v7.parent, (IntKind.i64.wrap (x4 + 1)), (IntKind.i64.wrap (x5 + 1))), Wk.ofk [0] hk (by rfl) (by simp -implicitDefEqProofs [spec_DepthOf_l0_S, h_2, h_3, h_4, h_5, h_6]) (by simp -implicitDefEqProofs [spec_DepthOf_l0_S, h_2, h_3, h_4, h_5, h_6]), hR⟩
    ·replace H := HS.cnd_f h_5 H
     try simp -implicitDefEqProofs (maxSteps := 999999) [-selQ_sel, h_2, h_3, h_4, h_5]
     have hr := (HS.some H).symm; subst hr
     exact Hid.mk ⟨(spec_DepthOf_l0_X a0 (.inl 0)).2, Wk.ofk [] hk (by rfl) (by simp -implicitDefEqProofs [spec_DepthOf_l0_X, h_2, h_3, h_4, h_5]) (by simp -implicitDefEqProofs [spec_DepthOf_l0_X, h_2, h_3, h_4, h_5]), hR⟩
  ·replace H := HS.cnd_f h_2 H
   try simp -implicitDefEqProofs (maxSteps := 999999) [-selQ_sel, h_2]
   have hr := (HS.some H).symm; subst hr
   exact Hid.mk ⟨(spec_DepthOf_l0_X a0 (.inr ())).2, Wk.ofk [] hk (by rfl) (by simp -implicitDefEqProofs [spec_DepthOf_l0_X, h_2]) (by simp -implicitDefEqProofs [spec_DepthOf_l0_X, h_2]), hR⟩
 ·rcases q with y8 | ⟨⟩
  ·dsimp only at H
   try simp -implicitDefEqProofs (maxSteps := 999999) [-selQ_sel, spec_DepthOf_l0_X]
   have hr := (HS.some H).symm; subst hr
   refine Hid.mk ⟨_, Wk.refl _, ?_⟩
   try simp -implicitDefEqProofs (maxSteps := 999999) [-selQ_sel]
  ·dsimp only at H
   try simp -implicitDefEqProofs (maxSteps := 999999) [-selQ_sel, spec_DepthOf_l0_X]
   have hr := (HS.some H).symm; subst hr
   refine Hid.mk ⟨_, Wk.refl _, ?_⟩
   try simp -implicitDefEqProofs (maxSteps := 999999) [-selQ_sel]
theorem slices_IndexFunc_Node_NodeAt_1_ok0 (hm : Try.prog.follows .mixedOrders = true) (k_impl_NodeAt_1 : Sound Try.prog 49 impl_NodeAt_1_x) : Sound Try.prog 48 slices_IndexFunc_Node_NodeAt_1_x := by
 refine xOf_sound fun q r h => ?_
 obtain ⟨a0, a1⟩ := q
 refine fn_ok E0 hm Try.func48 rfl (by decide +kernel) (by rfl) fun Γ hn hk => ?_
 dsimp only [slices_IndexFunc_Node_NodeAt_1_e, slices_IndexFunc_Node_NodeAt_1_v]
 replace hn : Γ.n = 19 := hn
 replace hk : Γ.k = 0 := hk
 have H : HS (slices_IndexFunc_Node_NodeAt_1 a0 a1) r := h
 clear h; unfold slices_IndexFunc_Node_NodeAt_1 at H
 try simp -implicitDefEqProofs at H
 refine Tr.of_vc (cl := tabC [(49, impl_NodeAt_1_x)]) (E := E0) [] (tab_cons k_impl_NodeAt_1 tab_nil) hm (by rw [hn]; decide +kernel) ?_
 try simp -implicitDefEqProofs (maxSteps := 999999) [-selQ_sel]
 obtain ⟨q, h_1, H⟩ := HS.bnd H
 refine Hid.mk (Tr.weak (s' := (slices_IndexFunc_Node_NodeAt_1_l0_S a0 a1) 0) (Wk.ofk [] hk (by rfl) (by simp -implicitDefEqProofs [slices_IndexFunc_Node_NodeAt_1_l0_S]) (by simp -implicitDefEqProofs [slices_IndexFunc_Node_NodeAt_1_l0_S])) ?_)
 refine wp_loop_of (S := (slices_IndexFunc_Node_NodeAt_1_l0_S a0 a1)) (f := (slices_IndexFunc_Node_NodeAt_1_l0 a0 a1)) (xt := (slices_IndexFunc_Node_NodeAt_1_l0_X a0 a1)) ?_ ?_ h_1 ?_
 ·intro q; rcases q with ⟨⟩ | y6 <;> simp [slices_IndexFunc_Node_NodeAt_1_l0_X]
 ·clear H h_1 q
  rintro x3 o R hf hR
  have H : HS (slices_IndexFunc_Node_NodeAt_1_l0 a0 a1 x3) o := hf
  clear hf; unfold slices_IndexFunc_Node_NodeAt_1_l0 at H
  try simp -implicitDefEqProofs at H
  refine Tr.of_vc (cl := tabC [(49, impl_NodeAt_1_x)]) (E := E0) [] (tab_cons k_impl_NodeAt_1 tab_nil) hm (by rw [hn]; decide +kernel) ?_
  try simp -implicitDefEqProofs (maxSteps := 999999) [-selQ_sel, slices_IndexFunc_Node_NodeAt_1_l0_S]
  refine Hid.brV (fun h_2 => ?_) (fun h_2 => ?_)
  ·replace H := HS.cnd_t h_2 H
   try simp -implicitDefEqProofs (maxSteps := 999999) [-selQ_sel, h_2]
   have hr := (HS.some H).symm; subst hr
   exact Hid.mk ⟨(slices_IndexFunc_Node_NodeAt_1_l0_X a0 a1 (.inl ())).2, Wk.ofk [] hk (by rfl) (by simp -implicitDefEqProofs [slices_IndexFunc_Node_NodeAt_1_l0_X, h_2]) (by simp -implicitDefEqProofs [slices_IndexFunc_Node_NodeAt_1_l0_X, h_2]), hR⟩
  ·replace H := HS.cnd_f h_2 H
   try simp -implicitDefEqProofs (maxSteps := 999999) [-selQ_sel, h_2]
   obtain ⟨v4, h_3, H⟩ := HS.bnd H
   try simp -implicitDefEqProofs (maxSteps := 999999) [-selQ_sel, h_2, h_3]
   obtain ⟨v5, h_4, H⟩ := HS.bnd H
   try simp -implicitDefEqProofs (maxSteps := 999999) [-selQ_sel, h_2, h_3, h_4]
   refine Hid.brV (fun h_5 => ?_) (fun h_5 => ?_)
   ·replace H := HS.cnd_t h_5 H
    try simp -implicitDefEqProofs (maxSteps := 999999) [-selQ_sel, h_2, h_3, h_4, h_5]
    have hr := (HS.some H).symm; subst hr
    exact Hid.mk ⟨(slices_IndexFunc_Node_NodeAt_1_l0_X a0 a1 (.inr x3)).2, Wk.ofk [] hk (by rfl) (by simp -implicitDefEqProofs [slices_IndexFunc_Node_NodeAt_1_l0_X, h_2, h_3, h_4, h_5]) (by simp -implicitDefEqProofs [slices_IndexFunc_Node_NodeAt_1_l0_X, h_2, h_3, h_4, h_5]), hR⟩
   ·replace H := HS.cnd_f h_5 H
    try simp -implicitDefEqProofs (maxSteps := 999999) [-selQ_sel, h_2, h_3, h_4, h_5]
    have hr := (HS.some H).symm; subst hr
    exact Hid.mk ⟨slices_IndexFunc_Node_NodeAt_1_l0_S a0 a1 (IntKind.i64.wrap (x3 + 1)), Wk.ofk [] hk (by rfl) (by simp -implicitDefEqProofs [slices_IndexFunc_Node_NodeAt_1_l0_S, h_2, h_3, h_4, h_5]) (by simp -implicitDefEqProofs [slices_IndexFunc_Node_NodeAt_1_l0_S, h_2, h_3, h_4, h_5]), hR⟩
 ·rcases q with ⟨⟩ | y6
  ·dsimp only at H
   try simp -implicitDefEqProofs (maxSteps := 999999) [-selQ_sel, slices_IndexFunc_Node_NodeAt_1_l0_X]
   have hr := (HS.some H).symm; subst hr
   refine Hid.mk ⟨_, Wk.refl _, ?_⟩
   try simp -implicitDefEqProofs (maxSteps := 999999) [-selQ_sel]
  ·dsimp only at H
   try simp -implicitDefEqProofs (maxSteps := 999999) [-selQ_sel, slices_IndexFunc_Node_NodeAt_1_l0_X]
   have hr := (HS.some H).symm; subst hr
   refine Hid.mk ⟨_, Wk.refl _, ?_⟩
   try simp -implicitDefEqProofs (maxSteps := 999999) [-selQ_sel]
theorem spec_DashOk_ok0 (hm : Try.prog.follows .mixedOrders = true) (k_spec_l01In : Sound Try.prog 87 spec_l01In_x) : Sound Try.prog 100 spec_DashOk_x := by
 refine xOf_sound fun q r h => ?_
 revert h; revert r; revert q; intro a0 r h
 refine fn_ok E0 hm Try.func100 rfl (by decide +kernel) (by rfl) fun Γ hn hk => ?_
 dsimp only [spec_DashOk_e, spec_DashOk_v]
 replace hn : Γ.n = 25 := hn
 replace hk : Γ.k = 0 := hk
 have H : HS (spec_DashOk a0) r := h
 clear h; unfold spec_DashOk at H
 try simp -implicitDefEqProofs at H
 refine Tr.of_vc (cl := tabC [(87, spec_l01In_x)]) (E := E0) [] (tab_cons k_spec_l01In tab_nil) hm (by rw [hn]; decide +kernel) ?_
 try simp -implicitDefEqProofs (maxSteps := 999999) [-selQ_sel]
 obtain ⟨q, h_1, H⟩ := HS.bnd H
 refine Hid.mk (Tr.weak (s' := (spec_DashOk_l0_S a0) 0) (Wk.ofk [] hk (by rfl) (by simp -implicitDefEqProofs [spec_DashOk_l0_S]) (by simp -implicitDefEqProofs [spec_DashOk_l0_S])) ?_)
 refine wp_loop_of (S := (spec_DashOk_l0_S a0)) (f := (spec_DashOk_l0 a0)) (xt := (spec_DashOk_l0_X a0)) ?_ ?_ h_1 ?_
 ·intro q; rcases q with ⟨⟩ | ⟨⟩ <;> simp [spec_DashOk_l0_X]
 ·clear H h_1 q
  rintro x3 o R hf hR
  have H : HS (spec_DashOk_l0 a0 x3) o := hf
  clear hf; unfold spec_DashOk_l0 at H
  try simp -implicitDefEqProofs at H
  refine Tr.of_vc (cl := tabC [(87, spec_l01In_x)]) (E := E0) [] (tab_cons k_spec_l01In tab_nil) hm (by rw [hn]; decide +kernel) ?_
  try simp -implicitDefEqProofs (maxSteps := 999999) [-selQ_sel, spec_DashOk_l0_S]
  refine Hid.brV (fun h_2 => ?_) (fun h_2 => ?_)
  ·replace H := HS.cnd_t h_2 H
   try simp -implicitDefEqProofs (maxSteps := 999999) [-selQ_sel, h_2]
   have hr := (HS.some H).symm; subst hr
   exact Hid.mk ⟨(spec_DashOk_l0_X a0 (.inl ())).2, Wk.ofk [] hk (by rfl) (by simp -implicitDefEqProofs [spec_DashOk_l0_X, h_2]) (by simp -implicitDefEqProofs [spec_DashOk_l0_X, h_2]), hR⟩
  ·replace H := HS.cnd_f h_2 H
   try simp -implicitDefEqProofs (maxSteps := 999999) [-selQ_sel, h_2]
   obtain ⟨v4, h_3, H⟩ := HS.bnd H
   try simp -implicitDefEqProofs (maxSteps := 999999) [-selQ_sel, h_2, h_3]
   obtain ⟨v5, h_4, H⟩ := HS.bnd H
   try simp -implicitDefEqProofs (maxSteps := 999999) [-selQ_sel, h_2, h_3, h_4]
   refine Hid.brV (fun h_5 => ?_) (fun h_5 => ?_)
   ·replace H := HS.cnd_t h_5 H
    try simp -implicitDefEqProofs (maxSteps := 999999) [-selQ_sel, h_2, h_3, h_4, h_5]
    have hr := (HS.some H).symm; subst hr
    exact Hid.mk ⟨spec_DashOk_l0_S a0 (IntKind.i64.wrap (x3 + 1)), Wk.ofk [] hk (by rfl) (by simp -implicitDefEqProofs [spec_DashOk_l0_S, h_2, h_3, h_4, h_5]) (by simp -implicitDefEqProofs [spec_DashOk_l0_S, h_2, h_3, h_4, h_5]), hR⟩
   ·replace H := HS.cnd_f h_5 H
    try simp -implicitDefEqProofs (maxSteps := 999999) [-selQ_sel, h_2, h_3, h_4, h_5]
    have hr := (HS.some H).symm; subst hr
    exact Hid.mk ⟨(spec_DashOk_l0_X a0 (.inr ())).2, Wk.ofk [] hk (by rfl) (by simp -implicitDefEqProofs [spec_DashOk_l0_X, h_2, h_3, h_4, h_5]) (by simp -implicitDefEqProofs [spec_DashOk_l0_X, h_2, h_3, h_4, h_5]), hR⟩
 ·rcases q with ⟨⟩ | ⟨⟩
  ·dsimp only at H
   try simp -implicitDefEqProofs (maxSteps := 999999) [-selQ_sel, spec_DashOk_l0_X]
   refine Hid.selQ (fun h_6 => ?_) (fun h_6 => ?_)
   ·replace H := HS.cnd_t h_6 H
    try simp -implicitDefEqProofs (maxSteps := 999999) [-selQ_sel, h_6]
    have hr := (HS.some H).symm; subst hr
    refine Hid.mk ⟨_, Wk.refl _, ?_⟩
    try simp -implicitDefEqProofs (maxSteps := 999999) [-selQ_sel, h_6]
   ·replace H := HS.cnd_f h_6 H
    try simp -implicitDefEqProofs (maxSteps := 999999) [-selQ_sel, h_6]
    have hr := (HS.some H).symm; subst hr
    refine Hid.mk ⟨_, Wk.refl _, ?_⟩
    try simp -implicitDefEqProofs (maxSteps := 999999) [-selQ_sel, h_6]
  ·dsimp only at H
   try simp -implicitDefEqProofs (maxSteps := 999999) [-selQ_sel, spec_DashOk_l0_X]
   have hr := (HS.some H).symm; subst hr
   refine Hid.mk ⟨_, Wk.refl _, ?_⟩
   try simp -implicitDefEqProofs (maxSteps := 999999) [-selQ_sel]
theorem laws_toIntS_ok0 (hm : Try.prog.follows .mixedOrders = true) : Sound Try.prog 62 laws_toIntS_x := by
 refine xOf_sound fun q r h => ?_
 revert h; revert r; revert q; intro a0 r h
 refine fn_ok E0 hm Try.func62 rfl (by decide +kernel) (by rfl) fun Γ hn hk => ?_
 dsimp only [laws_toIntS_e, laws_toIntS_v]
 replace hn : Γ.n = 22 := hn
 replace hk : Γ.k = 0 := hk
 have H : HS (laws_toIntS a0) r := h
 clear h; unfold laws_toIntS at H
 try simp -implicitDefEqProofs at H
 refine Tr.of_vc (cl := tabC []) (E := E0) [] tab_nil hm (by rw [hn]; decide +kernel) ?_
 try simp -implicitDefEqProofs (maxSteps := 999999) [-selQ_sel]
 obtain ⟨h_1, H⟩ := HS.chkP H
 try simp -implicitDefEqProofs (maxSteps := 999999) [-selQ_sel, h_1]
 obtain ⟨l1, h_2, H⟩ := HS.nam H
 have m_3 := congrArg (List.map (AV.int .i64)) h_2
 have q_4 := congrArg List.length h_2
 simp -implicitDefEqProofs at m_3 q_4
 try simp only [q_4] at m_3
 try simp only [q_4] at h_1
 try simp -implicitDefEqProofs (maxSteps := 999999) [-selQ_sel, h_1, m_3, q_4]
 obtain ⟨q, h_5, H⟩ := HS.bnd H
 refine Hid.mk (Tr.weak (s' := (laws_toIntS_l0_S a0) (0, l1)) (Wk.ofk [0] hk (by rfl) (by simp -implicitDefEqProofs [laws_toIntS_l0_S, h_1, m_3, q_4]) (by simp -implicitDefEqProofs [laws_toIntS_l0_S, h_1, m_3, q_4])) ?_)
 refine wp_loop_of (S := (laws_toIntS_l0_S a0)) (f := (laws_toIntS_l0 a0)) (xt := (laws_toIntS_l0_X a0)) ?_ ?_ h_5 ?_
 ·intro q; simp [laws_toIntS_l0_X]
 ·clear H h_5 q
  rintro ⟨x5, x6⟩ o R hf hR
  have H : HS (laws_toIntS_l0 a0 (x5, x6)) o := hf
  clear hf; unfold laws_toIntS_l0 at H
  try simp -implicitDefEqProofs at H
  refine Tr.of_vc (cl := tabC []) (E := E0) [] tab_nil hm (by rw [hn]; decide +kernel) ?_
  try simp -implicitDefEqProofs (maxSteps := 999999) [-selQ_sel, laws_toIntS_l0_S]
  refine Hid.brV (fun h_6 => ?_) (fun h_6 => ?_)
  ·replace H := HS.cnd_t h_6 H
   try simp -implicitDefEqProofs (maxSteps := 999999) [-selQ_sel, h_6]
   have hr := (HS.some H).symm; subst hr
   exact Hid.mk ⟨(laws_toIntS_l0_X a0 x6).2, Wk.ofk [0] hk (by rfl) (by simp -implicitDefEqProofs [laws_toIntS_l0_X, h_6]) (by simp -implicitDefEqProofs [laws_toIntS_l0_X, h_6]), hR⟩
  ·replace H := HS.cnd_f h_6 H
   try simp -implicitDefEqProofs (maxSteps := 999999) [-selQ_sel, h_6]
   obtain ⟨v7, h_7, H⟩ := HS.bnd H
   try simp -implicitDefEqProofs (maxSteps := 999999) [-selQ_sel, h_6, h_7]
   obtain ⟨v8, h_8, H⟩ := HS.bnd H
   have g_9 := idx_get h_8
   try simp -implicitDefEqProofs (maxSteps := 999999) [-selQ_sel, h_6, h_7, h_8, g_9]
   obtain ⟨l9, h_10, H⟩ := HS.nam H
   have m_11 := congrArg (List.map (AV.int .i64)) h_10
   have q_12 := congrArg List.length h_10
   simp -implicitDefEqProofs at m_11 q_12
   try simp only [q_12] at m_11
   try simp only [q_12] at g_9
   try simp -implicitDefEqProofs (maxSteps := 999999) [-selQ_sel, h_6, h_7, h_8, g_9, m_11, q_12]
   have hr := (HS.some H).symm; subst hr
   exact Hid.mk ⟨laws_toIntS_l0_S a0 ((IntKind.i64.wrap (x5 + 1)), l9), Wk.ofk [0] hk (by rfl) (by simp -implicitDefEqProofs [laws_toIntS_l0_S, h_6, h_7, h_8, g_9, m_11, q_12]) (by simp -implicitDefEqProofs [laws_toIntS_l0_S, h_6, h_7, h_8, g_9, m_11, q_12]), hR⟩
 ·revert H h_5; revert q; intro y10 h_5 H
  try dsimp only at H
  try simp -implicitDefEqProofs (maxSteps := 999999) [-selQ_sel, h_1, m_3, q_4, laws_toIntS_l0_X]
  have hr := (HS.some H).symm; subst hr
  refine Hid.mk ⟨⟨[(2, AV.osl 0 0 (List.length y10) (List.length y10))], [(0, Ob.arr 1 (List.map (AV.int .i64) y10) false)], 1⟩, Wk.ofk [0] hk (by rfl) (by simp -implicitDefEqProofs [h_1, m_3, q_4]) (by simp -implicitDefEqProofs [h_1, m_3, q_4]), ?_⟩
  try simp -implicitDefEqProofs (maxSteps := 999999) [-selQ_sel, h_1, m_3, q_4]
theorem spec_KidsOf_ok0 (hm : Try.prog.follows .mixedOrders = true) : Sound Try.prog 74 spec_KidsOf_x := by
 refine xOf_sound fun q r h => ?_
 obtain ⟨a0, a1⟩ := q
 refine fn_ok E0 hm Try.func74 rfl (by decide +kernel) (by rfl) fun Γ hn hk => ?_
 dsimp only [spec_KidsOf_e, spec_KidsOf_v]
 replace hn : Γ.n = 33 := hn
 replace hk : Γ.k = 0 := hk
 have H : HS (spec_KidsOf a0 a1) r := h
 clear h; unfold spec_KidsOf at H
 try simp -implicitDefEqProofs at H
 refine Tr.of_vc (cl := tabC []) (E := E0) [] tab_nil hm (by rw [hn]; decide +kernel) ?_
 try simp -implicitDefEqProofs (maxSteps := 999999) [-selQ_sel]
 obtain ⟨q, h_1, H⟩ := HS.bnd H
 refine Hid.mk (Tr.weak (s' := (spec_KidsOf_l0_S a0 a1) (0, [])) (Wk.ofk [0, 1] hk (by rfl) (by simp -implicitDefEqProofs [spec_KidsOf_l0_S]) (by simp -implicitDefEqProofs [spec_KidsOf_l0_S])) ?_)
 refine wp_loop_of (S := (spec_KidsOf_l0_S a0 a1)) (f := (spec_KidsOf_l0 a0 a1)) (xt := (spec_KidsOf_l0_X a0 a1)) ?_ ?_ h_1 ?_
 ·intro q; simp [spec_KidsOf_l0_X]
 ·clear H h_1 q
  rintro ⟨x2, x3⟩ o R hf hR
  have H : HS (spec_KidsOf_l0 a0 a1 (x2, x3)) o := hf
  clear hf; unfold spec_KidsOf_l0 at H
  try simp -implicitDefEqProofs at H
  refine Tr.of_vc (cl := tabC []) (E := E0) [] tab_nil hm (by rw [hn]; decide +kernel) ?_
  try simp -implicitDefEqProofs (maxSteps := 999999) [-selQ_sel, spec_KidsOf_l0_S]
  refine Hid.brV (fun h_2 => ?_) (fun h_2 => ?_)
  ·replace H := HS.cnd_t h_2 H
   try simp -implicitDefEqProofs (maxSteps := 999999) [-selQ_sel, h_2]
   have hr := (HS.some H).symm; subst hr
   exact Hid.mk ⟨(spec_KidsOf_l0_X a0 a1 x3).2, Wk.ofk [1] hk (by rfl) (by simp -implicitDefEqProofs [spec_KidsOf_l0_X, h_2]) (by simp -implicitDefEqProofs [spec_KidsOf_l0_X, h_2]), hR⟩
  ·replace H := HS.cnd_f h_2 H
   try simp -implicitDefEqProofs (maxSteps := 999999) [-selQ_sel, h_2]
   obtain ⟨v4, h_3, H⟩ := HS.bnd H
   try simp -implicitDefEqProofs (maxSteps := 999999) [-selQ_sel, h_2, h_3]
   refine Hid.brV (fun h_4 => ?_) (fun h_4 => ?_)
   ·replace H := HS.cnd_t h_4 H
    try simp -implicitDefEqProofs (maxSteps := 999999) [-selQ_sel, h_2, h_3, h_4]
    obtain ⟨h_5, H⟩ := HS.chkP H
    try simp -implicitDefEqProofs (maxSteps := 999999) [-selQ_sel, h_2, h_3, h_4, h_5]
    obtain ⟨l5, h_6, H⟩ := HS.nam H
    have m_7 := congrArg (List.map (AV.int .i64)) h_6
    have q_8 := congrArg List.length h_6
    simp -implicitDefEqProofs at m_7 q_8
    try simp only [q_8] at m_7
    try simp only [q_8] at h_5
    try simp -implicitDefEqProofs (maxSteps := 999999) [-selQ_sel, h_2, h_3, h_4, h_5, m_7, q_8]
    have hr := (HS.some H).symm; subst hr
    exact Hid.mk ⟨spec_KidsOf_l0_S a0 a1 ((IntKind.i64.wrap (x2 + 1)), l5), Wk.ofk [0, 1] hk (by rfl) (by simp -implicitDefEqProofs [spec_KidsOf_l0_S, h_2, h_3, h_4, h_5, m_7, q_8]) (by simp -implicitDefEqProofs [spec_KidsOf_l0_S, h_2, h_3, h_4, h_5, m_7, q_8]), hR⟩
   ·replace H := HS.cnd_f h_4 H
    try simp -implicitDefEqProofs (maxSteps := 999999) [-selQ_sel, h_2, h_3, h_4]
    have hr := (HS.some H).symm; subst hr
    exact Hid.mk ⟨spec_KidsOf_l0_S a0 a1 ((IntKind.i64.wrap (x2 + 1)), x3), Wk.ofk [0, 1] hk (by rfl) (by simp -implicitDefEqProofs [spec_KidsOf_l0_S, h_2, h_3, h_4]) (by simp -implicitDefEqProofs [spec_KidsOf_l0_S, h_2, h_3, h_4]), hR⟩
 ·revert H h_1; revert q; intro y6 h_1 H
  try dsimp only at H
  try simp -implicitDefEqProofs (maxSteps := 999999) [-selQ_sel, spec_KidsOf_l0_X]
  have hr := (HS.some H).symm; subst hr
  refine Hid.mk ⟨_, Wk.refl _, ?_⟩
  try simp -implicitDefEqProofs (maxSteps := 999999) [-selQ_sel]
theorem laws_heldIntS_ok0 (hm : Try.prog.follows .mixedOrders = true) : Sound Try.prog 113 laws_heldIntS_x := by
 refine xOf_sound fun q r h => ?_
 obtain ⟨a0, a1⟩ := q
 refine fn_ok E0 hm Try.func113 rfl (by decide +kernel) (by rfl) fun Γ hn hk => ?_
 dsimp only [laws_heldIntS_e, laws_heldIntS_v]
 replace hn : Γ.n = 21 := hn
 replace hk : Γ.k = 0 := hk
 have H : HS (laws_heldIntS a0 a1) r := h
 clear h; unfold laws_heldIntS at H
 try simp -implicitDefEqProofs at H
 refine Tr.of_vc (cl := tabC []) (E := E0) [] tab_nil hm (by rw [hn]; decide +kernel) ?_
 try simp -implicitDefEqProofs (maxSteps := 999999) [-selQ_sel]
 obtain ⟨q, h_1, H⟩ := HS.bnd H
 refine Hid.mk (Tr.weak (s' := (laws_heldIntS_l0_S a0) (a1, 0)) (Wk.ofk [] hk (by rfl) (by simp -implicitDefEqProofs [laws_heldIntS_l0_S]) (by simp -implicitDefEqProofs [laws_heldIntS_l0_S])) ?_)
 refine wp_loop_of (S := (laws_heldIntS_l0_S a0)) (f := (laws_heldIntS_l0 a0)) (xt := (laws_heldIntS_l0_X a0)) ?_ ?_ h_1 ?_
 ·intro q; rcases q with y5 | ⟨⟩ <;> simp [laws_heldIntS_l0_X]
 ·clear H h_1 q
  rintro ⟨x2, x3⟩ o R hf hR
  have H : HS (laws_heldIntS_l0 a0 (x2, x3)) o := hf
  clear hf; unfold laws_heldIntS_l0 at H
  try simp -implicitDefEqProofs at H
  refine Tr.of_vc (cl := tabC []) (E := E0) [] tab_nil hm (by rw [hn]; decide +kernel) ?_
  try simp -implicitDefEqProofs (maxSteps := 999999) [-selQ_sel, laws_heldIntS_l0_S]
  refine Hid.brV (fun h_2 => ?_) (fun h_2 => ?_)
  ·replace H := HS.cnd_t h_2 H
   try simp -implicitDefEqProofs (maxSteps := 999999) [-selQ_sel, h_2]
   have hr := (HS.some H).symm; subst hr
   exact Hid.mk ⟨(laws_heldIntS_l0_X a0 (.inl x2)).2, Wk.ofk [] hk (by rfl) (by simp -implicitDefEqProofs [laws_heldIntS_l0_X, h_2]) (by simp -implicitDefEqProofs [laws_heldIntS_l0_X, h_2]), hR⟩
  ·replace H := HS.cnd_f h_2 H
   try simp -implicitDefEqProofs (maxSteps := 999999) [-selQ_sel, h_2]
   obtain ⟨v4, h_3, H⟩ := HS.bnd H
   try simp -implicitDefEqProofs (maxSteps := 999999) [-selQ_sel, h_2, h_3]
   refine Hid.brV (fun h_4 => ?_) (fun h_4 => ?_)
   ·replace H := HS.cnd_t h_4 H
    try simp -implicitDefEqProofs (maxSteps := 999999) [-selQ_sel, h_2, h_3, h_4]
    have hr := (HS.some H).symm; subst hr
    exact Hid.mk ⟨laws_heldIntS_l0_S a0 ((IntKind.i64.wrap (x2 + 1)), (IntKind.i64.wrap (x3 + 1))), Wk.ofk [] hk (by rfl) (by simp -implicitDefEqProofs [laws_heldIntS_l0_S, h_2, h_3, h_4]) (by simp -implicitDefEqProofs [laws_heldIntS_l0_S, h_2, h_3, h_4]), hR⟩
   ·replace H := HS.cnd_f h_4 H
    try simp -implicitDefEqProofs (maxSteps := 999999) [-selQ_sel, h_2, h_3, h_4]
    have hr := (HS.some H).symm; subst hr
    exact Hid.mk ⟨(laws_heldIntS_l0_X a0 (.inr ())).2, Wk.ofk [] hk (by rfl) (by simp -implicitDefEqProofs [laws_heldIntS_l0_X, h_2, h_3, h_4]) (by simp -implicitDefEqProofs [laws_heldIntS_l0_X, h_2, h_3, h_4]), hR⟩
 ·rcases q with y5 | ⟨⟩
  ·dsimp only at H
   try simp -implicitDefEqProofs (maxSteps := 999999) [-selQ_sel, laws_heldIntS_l0_X]
   have hr := (HS.some H).symm; subst hr
   refine Hid.mk ⟨_, Wk.refl _, ?_⟩
   try simp -implicitDefEqProofs (maxSteps := 999999) [-selQ_sel]
  ·dsimp only at H
   try simp -implicitDefEqProofs (maxSteps := 999999) [-selQ_sel, laws_heldIntS_l0_X]
   have hr := (HS.some H).symm; subst hr
   refine Hid.mk ⟨_, Wk.refl _, ?_⟩
   try simp -implicitDefEqProofs (maxSteps := 999999) [-selQ_sel]
theorem spec_NodeAt_ok0 (hm : Try.prog.follows .mixedOrders = true) : Sound Try.prog 45 spec_NodeAt_x := by
 refine xOf_sound fun q r h => ?_
 obtain ⟨a0, a1⟩ := q
 refine fn_ok E0 hm Try.func45 rfl (by decide +kernel) (by rfl) fun Γ hn hk => ?_
 dsimp only [spec_NodeAt_e, spec_NodeAt_v]
 replace hn : Γ.n = 22 := hn
 replace hk : Γ.k = 0 := hk
 have H : HS (spec_NodeAt a0 a1) r := h
 clear h; unfold spec_NodeAt at H
 try simp -implicitDefEqProofs at H
 refine Tr.of_vc (cl := tabC []) (E := E0) [] tab_nil hm (by rw [hn]; decide +kernel) ?_
 try simp -implicitDefEqProofs (maxSteps := 999999) [-selQ_sel]
 obtain ⟨q, h_1, H⟩ := HS.bnd H
 refine Hid.mk (Tr.weak (s' := (spec_NodeAt_l0_S a0 a1) 0) (Wk.ofk [0] hk (by rfl) (by simp -implicitDefEqProofs [spec_NodeAt_l0_S]) (by simp -implicitDefEqProofs [spec_NodeAt_l0_S])) ?_)
 refine wp_loop_of (S := (spec_NodeAt_l0_S a0 a1)) (f := (spec_NodeAt_l0 a0 a1)) (xt := (spec_NodeAt_l0_X a0 a1)) ?_ ?_ h_1 ?_
 ·intro q; rcases q with ⟨⟩ | y4 <;> simp [spec_NodeAt_l0_X]
 ·clear H h_1 q
  rintro x2 o R hf hR
  have H : HS (spec_NodeAt_l0 a0 a1 x2) o := hf
  clear hf; unfold spec_NodeAt_l0 at H
  try simp -implicitDefEqProofs at H
  refine Tr.of_vc (cl := tabC []) (E := E0) [] tab_nil hm (by rw [hn]; decide +kernel) ?_
  try simp -implicitDefEqProofs (maxSteps := 999999) [-selQ_sel, spec_NodeAt_l0_S]
  refine Hid.brV (fun h_2 => ?_) (fun h_2 => ?_)
  ·replace H := HS.cnd_t h_2 H
   try simp -implicitDefEqProofs (maxSteps := 999999) [-selQ_sel, h_2]
   have hr := (HS.some H).symm; subst hr
   exact Hid.mk ⟨(spec_NodeAt_l0_X a0 a1 (.inl ())).2, Wk.ofk [] hk (by rfl) (by simp -implicitDefEqProofs [spec_NodeAt_l0_X, h_2]) (by simp -implicitDefEqProofs [spec_NodeAt_l0_X, h_2]), hR⟩
  ·replace H := HS.cnd_f h_2 H
   try simp -implicitDefEqProofs (maxSteps := 999999) [-selQ_sel, h_2]
   obtain ⟨v3, h_3, H⟩ := HS.bnd H
   try simp -implicitDefEqProofs (maxSteps := 999999) [-selQ_sel, h_2, h_3]
   refine Hid.brV (fun h_4 => ?_) (fun h_4 => ?_)
   ·replace H := HS.cnd_t h_4 H
    try simp -implicitDefEqProofs (maxSteps := 999999) [-selQ_sel, h_2, h_3, h_4]
    have hr := (HS.some H).symm; subst hr
    exact Hid.mk ⟨(spec_NodeAt_l0_X a0 a1 (.inr x2)).2, Wk.ofk [] hk (by rfl) (by simp -implicitDefEqProofs [spec_NodeAt_l0_X, h_2, h_3, h_4]) (by simp -implicitDefEqProofs [spec_NodeAt_l0_X, h_2, h_3, h_4]), hR⟩
   ·replace H := HS.cnd_f h_4 H
    try simp -implicitDefEqProofs (maxSteps := 999999) [-selQ_sel, h_2, h_3, h_4]
    have hr := (HS.some H).symm; subst hr
    exact Hid.mk ⟨spec_NodeAt_l0_S a0 a1 (IntKind.i64.wrap (x2 + 1)), Wk.ofk [0] hk (by rfl) (by simp -implicitDefEqProofs [spec_NodeAt_l0_S, h_2, h_3, h_4]) (by simp -implicitDefEqProofs [spec_NodeAt_l0_S, h_2, h_3, h_4]), hR⟩
 ·rcases q with ⟨⟩ | y4
  ·dsimp only at H
   try simp -implicitDefEqProofs (maxSteps := 999999) [-selQ_sel, spec_NodeAt_l0_X]
   have hr := (HS.some H).symm; subst hr
   refine Hid.mk ⟨_, Wk.refl _, ?_⟩
   try simp -implicitDefEqProofs (maxSteps := 999999) [-selQ_sel]
  ·dsimp only at H
   try simp -implicitDefEqProofs (maxSteps := 999999) [-selQ_sel, spec_NodeAt_l0_X]
   have hr := (HS.some H).symm; subst hr
   refine Hid.mk ⟨_, Wk.refl _, ?_⟩
   try simp -implicitDefEqProofs (maxSteps := 999999) [-selQ_sel]
theorem impl_ColorOk_ok0 (hm : Try.prog.follows .mixedOrders = true) (k_impl_isByte : Sound Try.prog 93 impl_isByte_x) : Sound Try.prog 122 impl_ColorOk_x := by
 refine xOf_sound fun q r h => ?_
 revert h; revert r; revert q; intro a0 r h
 refine fn_ok E0 hm Try.func122 rfl (by decide +kernel) (by rfl) fun Γ hn hk => ?_
 dsimp only [impl_ColorOk_e, impl_ColorOk_v]
 replace hn : Γ.n = 21 := hn
 replace hk : Γ.k = 0 := hk
 have H : HS (impl_ColorOk a0) r := h
 clear h; unfold impl_ColorOk at H
 try simp -implicitDefEqProofs at H
 refine Tr.of_vc (cl := tabC [(93, impl_isByte_x)]) (E := E0) [] (tab_cons k_impl_isByte tab_nil) hm (by rw [hn]; decide +kernel) ?_
 try simp -implicitDefEqProofs (maxSteps := 999999) [-selQ_sel]
 obtain ⟨v1, h_1, H⟩ := HS.bnd H
 try simp -implicitDefEqProofs (maxSteps := 999999) [-selQ_sel, h_1]
 refine Hid.selQ (fun h_2 => ?_) (fun h_2 => ?_)
 ·replace H := HS.cnd_t h_2 H
  try simp -implicitDefEqProofs (maxSteps := 999999) [-selQ_sel, h_1, h_2]
  obtain ⟨v2, h_3, H⟩ := HS.bnd H
  try simp -implicitDefEqProofs (maxSteps := 999999) [-selQ_sel, h_1, h_2, h_3]
  refine Hid.selQ (fun h_4 => ?_) (fun h_4 => ?_)
  ·replace H := HS.cnd_t h_4 H
   try simp -implicitDefEqProofs (maxSteps := 999999) [-selQ_sel, h_1, h_2, h_3, h_4]
   obtain ⟨v3, h_5, H⟩ := HS.bnd H
   try simp -implicitDefEqProofs (maxSteps := 999999) [-selQ_sel, h_1, h_2, h_3, h_4, h_5]
   refine Hid.selQ (fun h_6 => ?_) (fun h_6 => ?_)
   ·replace H := HS.cnd_t h_6 H
    try simp -implicitDefEqProofs (maxSteps := 999999) [-selQ_sel, h_1, h_2, h_3, h_4, h_5, h_6]
    obtain ⟨v4, h_7, H⟩ := HS.bnd H
    try simp -implicitDefEqProofs (maxSteps := 999999) [-selQ_sel, h_1, h_2, h_3, h_4, h_5, h_6, h_7]
    have hr := (HS.some H).symm; subst hr
    refine Hid.mk ⟨_, Wk.refl _, ?_⟩
    try simp -implicitDefEqProofs (maxSteps := 999999) [-selQ_sel, h_1, h_2, h_3, h_4, h_5, h_6, h_7]
   ·replace H := HS.cnd_f h_6 H
    try simp -implicitDefEqProofs (maxSteps := 999999) [-selQ_sel, h_1, h_2, h_3, h_4, h_5, h_6]
    have hr := (HS.some H).symm; subst hr
    refine Hid.mk ⟨_, Wk.refl _, ?_⟩
    try simp -implicitDefEqProofs (maxSteps := 999999) [-selQ_sel, h_1, h_2, h_3, h_4, h_5, h_6]
  ·replace H := HS.cnd_f h_4 H
   try simp -implicitDefEqProofs (maxSteps := 999999) [-selQ_sel, h_1, h_2, h_3, h_4]
   have hr := (HS.some H).symm; subst hr
   refine Hid.mk ⟨_, Wk.refl _, ?_⟩
   try simp -implicitDefEqProofs (maxSteps := 999999) [-selQ_sel, h_1, h_2, h_3, h_4]
 ·replace H := HS.cnd_f h_2 H
  try simp -implicitDefEqProofs (maxSteps := 999999) [-selQ_sel, h_1, h_2]
  have hr := (HS.some H).symm; subst hr
  refine Hid.mk ⟨_, Wk.refl _, ?_⟩
  try simp -implicitDefEqProofs (maxSteps := 999999) [-selQ_sel, h_1, h_2]
theorem laws_szNode_ok0 (hm : Try.prog.follows .mixedOrders = true) (k_laws_szPath : Sound Try.prog 55 laws_szPath_x) (k_laws_szIntS : Sound Try.prog 56 laws_szIntS_x) : Sound Try.prog 17 laws_szNode_x := by
 refine xOf_sound fun q r h => ?_
 obtain ⟨a0, a1⟩ := q
 refine fn_ok E0 hm Try.func17 rfl (by decide +kernel) (by rfl) fun Γ hn hk => ?_
 dsimp only [laws_szNode_e, laws_szNode_v]
 replace hn : Γ.n = 24 := hn
 replace hk : Γ.k = 0 := hk
 have H : HS (laws_szNode a0 a1) r := h
 clear h; unfold laws_szNode at H
 try simp -implicitDefEqProofs at H
 refine Tr.of_vc (cl := tabC [(55, laws_szPath_x), (56, laws_szIntS_x)]) (E := E0) [] (tab_cons k_laws_szPath (tab_cons k_laws_szIntS tab_nil)) hm (by rw [hn]; decide +kernel) ?_
 try simp -implicitDefEqProofs (maxSteps := 999999) [-selQ_sel]
 obtain ⟨v1, h_1, H⟩ := HS.bnd H
 try simp -implicitDefEqProofs (maxSteps := 999999) [-selQ_sel, h_1]
 refine Hid.brV (fun h_2 => ?_) (fun h_2 => ?_)
 ·replace H := HS.cnd_t h_2 H
  try simp -implicitDefEqProofs (maxSteps := 999999) [-selQ_sel, h_1, h_2]
  obtain ⟨v2, h_3, H⟩ := HS.bnd H
  try simp -implicitDefEqProofs (maxSteps := 999999) [-selQ_sel, h_1, h_2, h_3]
  refine Hid.brV (fun h_4 => ?_) (fun h_4 => ?_)
  ·replace H := HS.cnd_t h_4 H
   try simp -implicitDefEqProofs (maxSteps := 999999) [-selQ_sel, h_1, h_2, h_3, h_4]
   obtain ⟨v3, h_5, H⟩ := HS.bnd H
   try simp -implicitDefEqProofs (maxSteps := 999999) [-selQ_sel, h_1, h_2, h_3, h_4, h_5]
   refine Hid.brV (fun h_6 => ?_) (fun h_6 => ?_)
   ·replace H := HS.cnd_t h_6 H
    try simp -implicitDefEqProofs (maxSteps := 999999) [-selQ_sel, h_1, h_2, h_3, h_4, h_5, h_6]
    have hr := (HS.some H).symm; subst hr
    refine Hid.mk ⟨_, Wk.refl _, ?_⟩
    try simp -implicitDefEqProofs (maxSteps := 999999) [-selQ_sel, h_1, h_2, h_3, h_4, h_5, h_6]
   ·replace H := HS.cnd_f h_6 H
    try simp -implicitDefEqProofs (maxSteps := 999999) [-selQ_sel, h_1, h_2, h_3, h_4, h_5, h_6]
    have hr := (HS.some H).symm; subst hr
    refine Hid.mk ⟨_, Wk.refl _, ?_⟩
    try simp -implicitDefEqProofs (maxSteps := 999999) [-selQ_sel, h_1, h_2, h_3, h_4, h_5, h_6]
  ·replace H := HS.cnd_f h_4 H
   try simp -implicitDefEqProofs (maxSteps := 999999) [-selQ_sel, h_1, h_2, h_3, h_4]
   have hr := (HS.some H).symm; subst hr
   refine Hid.mk ⟨_, Wk.refl _, ?_⟩
   try simp -implicitDefEqProofs (maxSteps := 999999) [-selQ_sel, h_1, h_2, h_3, h_4]
 ·replace H := HS.cnd_f h_2 H
  try simp -implicitDefEqProofs (maxSteps := 999999) [-selQ_sel, h_1, h_2]
  have hr := (HS.some H).symm; subst hr
  refine Hid.mk ⟨_, Wk.refl _, ?_⟩
  try simp -implicitDefEqProofs (maxSteps := 999999) [-selQ_sel, h_1, h_2]
theorem laws_eqPath_ok0 (hm : Try.prog.follows .mixedOrders = true) (k_laws_eqIntS : Sound Try.prog 68 laws_eqIntS_x) (k_laws_eqPointS : Sound Try.prog 109 laws_eqPointS_x) : Sound Try.prog 67 laws_eqPath_x := by
 refine xOf_sound fun q r h => ?_
 obtain ⟨a0, a1⟩ := q
 refine fn_ok E0 hm Try.func67 rfl (by decide +kernel) (by rfl) fun Γ hn hk => ?_
 dsimp only [laws_eqPath_e, laws_eqPath_v]
 replace hn : Γ.n = 17 := hn
 replace hk : Γ.k = 0 := hk
 have H : HS (laws_eqPath a0 a1) r := h
 clear h; unfold laws_eqPath at H
 try simp -implicitDefEqProofs at H
 refine Tr.of_vc (cl := tabC [(68, laws_eqIntS_x), (109, laws_eqPointS_x)]) (E := E0) [] (tab_cons k_laws_eqIntS (tab_cons k_laws_eqPointS tab_nil)) hm (by rw [hn]; decide +kernel) ?_
 try simp -implicitDefEqProofs (maxSteps := 999999) [-selQ_sel]
 obtain ⟨v1, h_1, H⟩ := HS.bnd H
 try simp -implicitDefEqProofs (maxSteps := 999999) [-selQ_sel, h_1]
 refine Hid.brV (fun h_2 => ?_) (fun h_2 => ?_)
 ·replace H := HS.cnd_t h_2 H
  try simp -implicitDefEqProofs (maxSteps := 999999) [-selQ_sel, h_1, h_2]
  obtain ⟨v2, h_3, H⟩ := HS.bnd H
  try simp -implicitDefEqProofs (maxSteps := 999999) [-selQ_sel, h_1, h_2, h_3]
  refine Hid.brV (fun h_4 => ?_) (fun h_4 => ?_)
  ·replace H := HS.cnd_t h_4 H
   try simp -implicitDefEqProofs (maxSteps := 999999) [-selQ_sel, h_1, h_2, h_3, h_4]
   have hr := (HS.some H).symm; subst hr
   refine Hid.mk ⟨_, Wk.refl _, ?_⟩
   try simp -implicitDefEqProofs (maxSteps := 999999) [-selQ_sel, h_1, h_2, h_3, h_4]
  ·replace H := HS.cnd_f h_4 H
   try simp -implicitDefEqProofs (maxSteps := 999999) [-selQ_sel, h_1, h_2, h_3, h_4]
   have hr := (HS.some H).symm; subst hr
   refine Hid.mk ⟨_, Wk.refl _, ?_⟩
   try simp -implicitDefEqProofs (maxSteps := 999999) [-selQ_sel, h_1, h_2, h_3, h_4]
 ·replace H := HS.cnd_f h_2 H
  try simp -implicitDefEqProofs (maxSteps := 999999) [-selQ_sel, h_1, h_2]
  have hr := (HS.some H).symm; subst hr
  refine Hid.mk ⟨_, Wk.refl _, ?_⟩
  try simp -implicitDefEqProofs (maxSteps := 999999) [-selQ_sel, h_1, h_2]
theorem laws_szPath_ok0 (hm : Try.prog.follows .mixedOrders = true) (k_laws_szIntS : Sound Try.prog 56 laws_szIntS_x) (k_laws_szPointS : Sound Try.prog 97 laws_szPointS_x) : Sound Try.prog 55 laws_szPath_x := by
 refine xOf_sound fun q r h => ?_
 obtain ⟨a0, a1⟩ := q
 refine fn_ok E0 hm Try.func55 rfl (by decide +kernel) (by rfl) fun Γ hn hk => ?_
 dsimp only [laws_szPath_e, laws_szPath_v]
 replace hn : Γ.n = 18 := hn
 replace hk : Γ.k = 0 := hk
 have H : HS (laws_szPath a0 a1) r := h
 clear h; unfold laws_szPath at H
 try simp -implicitDefEqProofs at H
 refine Tr.of_vc (cl := tabC [(56, laws_szIntS_x), (97, laws_szPointS_x)]) (E := E0) [] (tab_cons k_laws_szIntS (tab_cons k_laws_szPointS tab_nil)) hm (by rw [hn]; decide +kernel) ?_
 try simp -implicitDefEqProofs (maxSteps := 999999) [-selQ_sel]
 obtain ⟨v1, h_1, H⟩ := HS.bnd H
 try simp -implicitDefEqProofs (maxSteps := 999999) [-selQ_sel, h_1]
 refine Hid.brV (fun h_2 => ?_) (fun h_2 => ?_)
 ·replace H := HS.cnd_t h_2 H
  try simp -implicitDefEqProofs (maxSteps := 999999) [-selQ_sel, h_1, h_2]
  obtain ⟨v2, h_3, H⟩ := HS.bnd H
  try simp -implicitDefEqProofs (maxSteps := 999999) [-selQ_sel, h_1, h_2, h_3]
  refine Hid.brV (fun h_4 => ?_) (fun h_4 => ?_)
  ·replace H := HS.cnd_t h_4 H
   try simp -implicitDefEqProofs (maxSteps := 999999) [-selQ_sel, h_1, h_2, h_3, h_4]
   have hr := (HS.some H).symm; subst hr
   refine Hid.mk ⟨_, Wk.refl _, ?_⟩
   try simp -implicitDefEqProofs (maxSteps := 999999) [-selQ_sel, h_1, h_2, h_3, h_4]
  ·replace H := HS.cnd_f h_4 H
   try simp -implicitDefEqProofs (maxSteps := 999999) [-selQ_sel, h_1, h_2, h_3, h_4]
   have hr := (HS.some H).symm; subst hr
   refine Hid.mk ⟨_, Wk.refl _, ?_⟩
   try simp -implicitDefEqProofs (maxSteps := 999999) [-selQ_sel, h_1, h_2, h_3, h_4]
 ·replace H := HS.cnd_f h_2 H
  try simp -implicitDefEqProofs (maxSteps := 999999) [-selQ_sel, h_1, h_2]
  have hr := (HS.some H).symm; subst hr
  refine Hid.mk ⟨_, Wk.refl _, ?_⟩
  try simp -implicitDefEqProofs (maxSteps := 999999) [-selQ_sel, h_1, h_2]
theorem spec_NeedOf_ok0 (hm : Try.prog.follows .mixedOrders = true) (k_spec_l01In : Sound Try.prog 87 spec_l01In_x) : Sound Try.prog 124 spec_NeedOf_x := by
 refine xOf_sound fun q r h => ?_
 revert h; revert r; revert q; intro a0 r h
 refine fn_ok E0 hm Try.func124 rfl (by decide +kernel) (by rfl) fun Γ hn hk => ?_
 dsimp only [spec_NeedOf_e, spec_NeedOf_v]
 replace hn : Γ.n = 13 := hn
 replace hk : Γ.k = 0 := hk
 have H : HS (spec_NeedOf a0) r := h
 clear h; unfold spec_NeedOf at H
 try simp -implicitDefEqProofs at H
 refine Tr.of_vc (cl := tabC [(87, spec_l01In_x)]) (E := E0) [] (tab_cons k_spec_l01In tab_nil) hm (by rw [hn]; decide +kernel) ?_
 try simp -implicitDefEqProofs (maxSteps := 999999) [-selQ_sel]
 obtain ⟨v1, h_1, H⟩ := HS.bnd H
 try simp -implicitDefEqProofs (maxSteps := 999999) [-selQ_sel, h_1]
 refine Hid.brV (fun h_2 => ?_) (fun h_2 => ?_)
 ·replace H := HS.cnd_t h_2 H
  try simp -implicitDefEqProofs (maxSteps := 999999) [-selQ_sel, h_1, h_2]
  obtain ⟨v2, h_3, H⟩ := HS.bnd H
  have g_4 := idx_get h_3
  have g_5 := idx_map (e := (AV.int .i64)) h_3
  have g_6 := idx_get g_5
  simp -implicitDefEqProofs at g_5 g_6
  try simp -implicitDefEqProofs (maxSteps := 999999) [-selQ_sel, h_1, h_2, h_3, g_4, g_5, g_6]
  have hr := (HS.some H).symm; subst hr
  refine Hid.mk ⟨_, Wk.refl _, ?_⟩
  try simp -implicitDefEqProofs (maxSteps := 999999) [-selQ_sel, h_1, h_2, h_3, g_4, g_5, g_6]
 ·replace H := HS.cnd_f h_2 H
  try simp -implicitDefEqProofs (maxSteps := 999999) [-selQ_sel, h_1, h_2]
  have hr := (HS.some H).symm; subst hr
  refine Hid.mk ⟨_, Wk.refl _, ?_⟩
  try simp -implicitDefEqProofs (maxSteps := 999999) [-selQ_sel, h_1, h_2]
theorem laws_markNode_ok0 (hm : Try.prog.follows .mixedOrders = true) (k_laws_markPath : Sound Try.prog 71 laws_markPath_x) (k_laws_markIntS : Sound Try.prog 72 laws_markIntS_x) : Sound Try.prog 25 laws_markNode_x := by
 refine xOf_sound fun q r h => ?_
 obtain ⟨a0, a1, a2, a3, a4, a5, a6, a7, a8, a9, a10, a11, a12, a13, a14⟩ := q
 refine fn_ok E0 hm Try.func25 rfl (by decide +kernel) (by rfl) fun Γ hn hk => ?_
 dsimp only [laws_markNode_e, laws_markNode_v]
 replace hn : Γ.n = 18 := hn
 replace hk : Γ.k = 5 := hk
 have H : HS (laws_markNode a0 a1 a2 a3 a4 a5 a6 a7 a8 a9 a10 a11 a12 a13 a14) r := h
 clear h; unfold laws_markNode at H
 try simp -implicitDefEqProofs at H
 refine Tr.of_vc (cl := tabC [(71, laws_markPath_x), (72, laws_markIntS_x)]) (E := E0) [] (tab_cons k_laws_markPath (tab_cons k_laws_markIntS tab_nil)) hm (by rw [hn]; decide +kernel) ?_
 try simp -implicitDefEqProofs (maxSteps := 999999) [-selQ_sel]
 obtain ⟨⟨w2, w3, w4⟩, h_1, H⟩ := HS.bnd H
 dsimp only at H
 have g_2 := laws_markPath_n h_1
 try simp -implicitDefEqProofs (maxSteps := 999999) [-selQ_sel, h_1, g_2]
 obtain ⟨⟨w6, w7⟩, h_3, H⟩ := HS.bnd H
 dsimp only at H
 have g_4 := laws_markIntS_n h_3
 try simp -implicitDefEqProofs (maxSteps := 999999) [-selQ_sel, h_1, g_2, h_3, g_4]
 obtain ⟨⟨w9, w10, w11⟩, h_5, H⟩ := HS.bnd H
 dsimp only at H
 have g_6 := laws_markPath_n h_5
 try simp -implicitDefEqProofs (maxSteps := 999999) [-selQ_sel, h_1, g_2, h_3, g_4, h_5, g_6]
 have hr := (HS.some H).symm; subst hr
 refine Hid.mk ⟨_, Wk.refl _, ?_⟩
 try simp -implicitDefEqProofs (maxSteps := 999999) [-selQ_sel, h_1, g_2, h_3, g_4, h_5, g_6]
theorem spec_PointOk_ok0 (hm : Try.prog.follows .mixedOrders = true) (k_spec_l01In : Sound Try.prog 87 spec_l01In_x) : Sound Try.prog 125 spec_PointOk_x := by
 refine xOf_sound fun q r h => ?_
 revert h; revert r; revert q; intro a0 r h
 refine fn_ok E0 hm Try.func125 rfl (by decide +kernel) (by rfl) fun Γ hn hk => ?_
 dsimp only [spec_PointOk_e, spec_PointOk_v]
 replace hn : Γ.n = 11 := hn
 replace hk : Γ.k = 0 := hk
 have H : HS (spec_PointOk a0) r := h
 clear h; unfold spec_PointOk at H
 try simp -implicitDefEqProofs at H
 refine Tr.of_vc (cl := tabC [(87, spec_l01In_x)]) (E := E0) [] (tab_cons k_spec_l01In tab_nil) hm (by rw [hn]; decide +kernel) ?_
 try simp -implicitDefEqProofs (maxSteps := 999999) [-selQ_sel]
 obtain ⟨v1, h_1, H⟩ := HS.bnd H
 try simp -implicitDefEqProofs (maxSteps := 999999) [-selQ_sel, h_1]
 refine Hid.selQ (fun h_2 => ?_) (fun h_2 => ?_)
 ·replace H := HS.cnd_t h_2 H
  try simp -implicitDefEqProofs (maxSteps := 999999) [-selQ_sel, h_1, h_2]
  obtain ⟨v2, h_3, H⟩ := HS.bnd H
  try simp -implicitDefEqProofs (maxSteps := 999999) [-selQ_sel, h_1, h_2, h_3]
  have hr := (HS.some H).symm; subst hr
  refine Hid.mk ⟨_, Wk.refl _, ?_⟩
  try simp -implicitDefEqProofs (maxSteps := 999999) [-selQ_sel, h_1, h_2, h_3]
 ·replace H := HS.cnd_f h_2 H
  try simp -implicitDefEqProofs (maxSteps := 999999) [-selQ_sel, h_1, h_2]
  have hr := (HS.some H).symm; subst hr
  refine Hid.mk ⟨_, Wk.refl _, ?_⟩
  try simp -implicitDefEqProofs (maxSteps := 999999) [-selQ_sel, h_1, h_2]
theorem laws_szScene_ok0 (hm : Try.prog.follows .mixedOrders = true) (k_laws_szNodeS : Sound Try.prog 54 laws_szNodeS_x) : Sound Try.prog 16 laws_szScene_x := by
 refine xOf_sound fun q r h => ?_
 obtain ⟨a0, a1⟩ := q
 refine fn_ok E0 hm Try.func16 rfl (by decide +kernel) (by rfl) fun Γ hn hk => ?_
 dsimp only [laws_szScene_e, laws_szScene_v]
 replace hn : Γ.n = 12 := hn
 replace hk : Γ.k = 0 := hk
 have H : HS (laws_szScene a0 a1) r := h
 clear h; unfold laws_szScene at H
 try simp -implicitDefEqProofs at H
 refine Tr.of_vc (cl := tabC [(54, laws_szNodeS_x)]) (E := E0) [] (tab_cons k_laws_szNodeS tab_nil) hm (by rw [hn]; decide +kernel) ?_
 try simp -implicitDefEqProofs (maxSteps := 999999) [-selQ_sel]
 obtain ⟨v1, h_1, H⟩ := HS.bnd H
 try simp -implicitDefEqProofs (maxSteps := 999999) [-selQ_sel, h_1]
 refine Hid.brV (fun h_2 => ?_) (fun h_2 => ?_)
 ·replace H := HS.cnd_t h_2 H
  try simp -implicitDefEqProofs (maxSteps := 999999) [-selQ_sel, h_1, h_2]
  have hr := (HS.some H).symm; subst hr
  refine Hid.mk ⟨_, Wk.refl _, ?_⟩
  try simp -implicitDefEqProofs (maxSteps := 999999) [-selQ_sel, h_1, h_2]
 ·replace H := HS.cnd_f h_2 H
  try simp -implicitDefEqProofs (maxSteps := 999999) [-selQ_sel, h_1, h_2]
  have hr := (HS.some H).symm; subst hr
  refine Hid.mk ⟨_, Wk.refl _, ?_⟩
  try simp -implicitDefEqProofs (maxSteps := 999999) [-selQ_sel, h_1, h_2]
theorem laws_markPath_ok0 (hm : Try.prog.follows .mixedOrders = true) (k_laws_markIntS : Sound Try.prog 72 laws_markIntS_x) (k_laws_markPointS : Sound Try.prog 112 laws_markPointS_x) : Sound Try.prog 71 laws_markPath_x := by
 refine xOf_sound fun q r h => ?_
 obtain ⟨a0, a1, a2⟩ := q
 refine fn_ok E0 hm Try.func71 rfl (by decide +kernel) (by rfl) fun Γ hn hk => ?_
 dsimp only [laws_markPath_e, laws_markPath_v]
 replace hn : Γ.n = 14 := hn
 replace hk : Γ.k = 2 := hk
 have H : HS (laws_markPath a0 a1 a2) r := h
 clear h; unfold laws_markPath at H
 try simp -implicitDefEqProofs at H
 refine Tr.of_vc (cl := tabC [(72, laws_markIntS_x), (112, laws_markPointS_x)]) (E := E0) [] (tab_cons k_laws_markIntS (tab_cons k_laws_markPointS tab_nil)) hm (by rw [hn]; decide +kernel) ?_
 try simp -implicitDefEqProofs (maxSteps := 999999) [-selQ_sel]
 obtain ⟨⟨w2, w3⟩, h_1, H⟩ := HS.bnd H
 dsimp only at H
 have g_2 := laws_markIntS_n h_1
 try simp -implicitDefEqProofs (maxSteps := 999999) [-selQ_sel, h_1, g_2]
 obtain ⟨⟨w5, w6⟩, h_3, H⟩ := HS.bnd H
 dsimp only at H
 have g_4 := laws_markPointS_n h_3
 try simp -implicitDefEqProofs (maxSteps := 999999) [-selQ_sel, h_1, g_2, h_3, g_4]
 have hr := (HS.some H).symm; subst hr
 refine Hid.mk ⟨_, Wk.refl _, ?_⟩
 try simp -implicitDefEqProofs (maxSteps := 999999) [-selQ_sel, h_1, g_2, h_3, g_4]
theorem laws_szPointS_ok0 (hm : Try.prog.follows .mixedOrders = true) : Sound Try.prog 97 laws_szPointS_x := by
 refine xOf_sound fun q r h => ?_
 obtain ⟨a0, a1⟩ := q
 refine fn_ok E0 hm Try.func97 rfl (by decide +kernel) (by rfl) fun Γ hn hk => ?_
 dsimp only [laws_szPointS_e, laws_szPointS_v]
 replace hn : Γ.n = 12 := hn
 replace hk : Γ.k = 0 := hk
 have H : HS (laws_szPointS a0 a1) r := h
 clear h; unfold laws_szPointS at H
 try simp -implicitDefEqProofs at H
 refine Tr.of_vc (cl := tabC []) (E := E0) [] tab_nil hm (by rw [hn]; decide +kernel) ?_
 try simp -implicitDefEqProofs (maxSteps := 999999) [-selQ_sel]
 refine Hid.brV (fun h_1 => ?_) (fun h_1 => ?_)
 ·replace H := HS.cnd_t h_1 H
  try simp -implicitDefEqProofs (maxSteps := 999999) [-selQ_sel, h_1]
  have hr := (HS.some H).symm; subst hr
  refine Hid.mk ⟨_, Wk.refl _, ?_⟩
  try simp -implicitDefEqProofs (maxSteps := 999999) [-selQ_sel, h_1]
 ·replace H := HS.cnd_f h_1 H
  try simp -implicitDefEqProofs (maxSteps := 999999) [-selQ_sel, h_1]
  have hr := (HS.some H).symm; subst hr
  refine Hid.mk ⟨_, Wk.refl _, ?_⟩
  try simp -implicitDefEqProofs (maxSteps := 999999) [-selQ_sel, h_1]
theorem laws_markScene_ok0 (hm : Try.prog.follows .mixedOrders = true) (k_laws_markNodeS : Sound Try.prog 70 laws_markNodeS_x) : Sound Try.prog 24 laws_markScene_x := by
 refine xOf_sound fun q r h => ?_
 obtain ⟨a0, a1⟩ := q
 refine fn_ok E0 hm Try.func24 rfl (by decide +kernel) (by rfl) fun Γ hn hk => ?_
 dsimp only [laws_markScene_e, laws_markScene_v]
 replace hn : Γ.n = 10 := hn
 replace hk : Γ.k = 1 := hk
 have H : HS (laws_markScene a0 a1) r := h
 clear h; unfold laws_markScene at H
 try simp -implicitDefEqProofs at H
 refine Tr.of_vc (cl := tabC [(70, laws_markNodeS_x)]) (E := E0) [] (tab_cons k_laws_markNodeS tab_nil) hm (by rw [hn]; decide +kernel) ?_
 try simp -implicitDefEqProofs (maxSteps := 999999) [-selQ_sel]
 obtain ⟨⟨w2, w3⟩, h_1, H⟩ := HS.bnd H
 dsimp only at H
 have g_2 := laws_markNodeS_n h_1
 try simp -implicitDefEqProofs (maxSteps := 999999) [-selQ_sel, h_1, g_2]
 have hr := (HS.some H).symm; subst hr
 refine Hid.mk ⟨_, Wk.refl _, ?_⟩
 try simp -implicitDefEqProofs (maxSteps := 999999) [-selQ_sel, h_1, g_2]
theorem impl_NodeAt_ok0 (hm : Try.prog.follows .mixedOrders = true) (k_slices_IndexFunc_Node_NodeAt_1 : Sound Try.prog 48 slices_IndexFunc_Node_NodeAt_1_x) : Sound Try.prog 13 impl_NodeAt_x := by
 refine xOf_sound fun q r h => ?_
 obtain ⟨a0, a1⟩ := q
 refine fn_ok E0 hm Try.func13 rfl (by decide +kernel) (by rfl) fun Γ hn hk => ?_
 dsimp only [impl_NodeAt_e, impl_NodeAt_v]
 replace hn : Γ.n = 9 := hn
 replace hk : Γ.k = 0 := hk
 have H : HS (impl_NodeAt a0 a1) r := h
 clear h; unfold impl_NodeAt at H
 try simp -implicitDefEqProofs at H
 refine Tr.of_vc (cl := tabC [(48, slices_IndexFunc_Node_NodeAt_1_x)]) (E := E0) [] (tab_cons k_slices_IndexFunc_Node_NodeAt_1 tab_nil) hm (by rw [hn]; decide +kernel) ?_
 try simp -implicitDefEqProofs (maxSteps := 999999) [-selQ_sel]
 obtain ⟨v1, h_1, H⟩ := HS.bnd H
 try simp -implicitDefEqProofs (maxSteps := 999999) [-selQ_sel, h_1]
 have hr := (HS.some H).symm; subst hr
 refine Hid.mk ⟨_, Wk.refl _, ?_⟩
 try simp -implicitDefEqProofs (maxSteps := 999999) [-selQ_sel, h_1]
theorem impl_isFar_ok0 (hm : Try.prog.follows .mixedOrders = true) (k_impl_inRange : Sound Try.prog 41 impl_inRange_x) : Sound Try.prog 119 impl_isFar_x := by
 refine xOf_sound fun q r h => ?_
 revert h; revert r; revert q; intro a0 r h
 refine fn_ok E0 hm Try.func119 rfl (by decide +kernel) (by rfl) fun Γ hn hk => ?_
 dsimp only [impl_isFar_e, impl_isFar_v]
 replace hn : Γ.n = 5 := hn
 replace hk : Γ.k = 0 := hk
 have H : HS (impl_isFar a0) r := h
 clear h; unfold impl_isFar at H
 try simp -implicitDefEqProofs at H
 refine Tr.of_vc (cl := tabC [(41, impl_inRange_x)]) (E := E0) [] (tab_cons k_impl_inRange tab_nil) hm (by rw [hn]; decide +kernel) ?_
 try simp -implicitDefEqProofs (maxSteps := 999999) [-selQ_sel]
 obtain ⟨v1, h_1, H⟩ := HS.bnd H
 try simp -implicitDefEqProofs (maxSteps := 999999) [-selQ_sel, h_1]
 have hr := (HS.some H).symm; subst hr
 refine Hid.mk ⟨_, Wk.refl _, ?_⟩
 try simp -implicitDefEqProofs (maxSteps := 999999) [-selQ_sel, h_1]
theorem impl_NodeAt_1_ok0 (hm : Try.prog.follows .mixedOrders = true) : Sound Try.prog 49 impl_NodeAt_1_x := by
 refine xOf_sound fun q r h => ?_
 obtain ⟨a0, a1⟩ := q
 refine fn_ok E0 hm Try.func49 rfl (by decide +kernel) (by rfl) fun Γ hn hk => ?_
 dsimp only [impl_NodeAt_1_e, impl_NodeAt_1_v]
 replace hn : Γ.n = 8 := hn
 replace hk : Γ.k = 0 := hk
 have H : HS (impl_NodeAt_1 a0 a1) r := h
 clear h; unfold impl_NodeAt_1 at H
 try simp -implicitDefEqProofs at H
 refine Tr.of_vc (cl := tabC []) (E := E0) [] tab_nil hm (by rw [hn]; decide +kernel) ?_
 try simp -implicitDefEqProofs (maxSteps := 999999) [-selQ_sel]
 have hr := (HS.some H).symm; subst hr
 refine Hid.mk ⟨_, Wk.refl _, ?_⟩
 try simp -implicitDefEqProofs (maxSteps := 999999) [-selQ_sel]
end Go.Proofs.Ytapchldnmkfkoab.Am
