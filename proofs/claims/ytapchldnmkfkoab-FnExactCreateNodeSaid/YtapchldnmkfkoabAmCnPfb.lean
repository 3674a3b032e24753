import Derived.Test.YtapchldnmkfkoabAmCnMo
set_option linter.unusedVariables false
set_option linter.unusedSimpArgs false
set_option linter.unusedSectionVars false
namespace Go.Proofs.Ytapchldnmkfkoab.Am
open Go Go.Proofs
set_option maxRecDepth 100000
set_option linter.unusedSimpArgs false
set_option linter.unusedVariables false
set_option maxHeartbeats 4000000
theorem laws_FnExactCreateNode_ok0 (hm : Try.prog.follows .mixedOrders = true) (k_laws_szScene : Sound Try.prog 16 laws_szScene_x) (k_laws_szNode : Sound Try.prog 17 laws_szNode_x) (k_laws_toScene : Sound Try.prog 19 laws_toScene_x) (k_laws_toNode : Sound Try.prog 20 laws_toNode_x) (k_spec_CreateNode : Sound Try.prog 18 spec_CreateNode_x) (k_impl_CreateNode : Sound Try.prog 21 impl_CreateNode_x) (k_laws_eqScene : Sound Try.prog 22 laws_eqScene_x) (k_laws_eqNode : Sound Try.prog 23 laws_eqNode_x) (k_laws_markScene : Sound Try.prog 24 laws_markScene_x) (k_laws_markNode : Sound Try.prog 25 laws_markNode_x) (k_laws_heldScene : Sound Try.prog 26 laws_heldScene_x) : Sound Try.prog 4 laws_FnExactCreateNode_x := by
 refine xOf_sound fun q r h => ?_
 obtain ⟨a0, a1⟩ := q
 refine fn_ok E0 hm Try.func4 rfl (by decide +kernel) (by rfl) fun Γ hn hk => ?_
 dsimp only [laws_FnExactCreateNode_e, laws_FnExactCreateNode_v]
 replace hn : Γ.n = 119 := hn
 replace hk : Γ.k = 0 := hk
 have H : HS (laws_FnExactCreateNode a0 a1) r := h
 clear h; unfold laws_FnExactCreateNode at H
 try simp -implicitDefEqProofs at H
 refine Tr.of_vc (cl := tabC [(16, laws_szScene_x), (17, laws_szNode_x), (19, laws_toScene_x), (20, laws_toNode_x), (18, spec_CreateNode_x), (21, impl_CreateNode_x), (22, laws_eqScene_x), (23, laws_eqNode_x), (24, laws_markScene_x), (25, laws_markNode_x), (26, laws_heldScene_x)]) (E := E0) [] (tab_cons k_laws_szScene (tab_cons k_laws_szNode (tab_cons k_laws_toScene (tab_cons k_laws_toNode (tab_cons k_spec_CreateNode (tab_cons k_impl_CreateNode (tab_cons k_laws_eqScene (tab_cons k_laws_eqNode (tab_cons k_laws_markScene (tab_cons k_laws_markNode (tab_cons k_laws_heldScene tab_nil))))))))))) hm (by rw [hn]; decide +kernel) ?_
 try simp -implicitDefEqProofs +decide (maxSteps := 999999) [-selQ_sel, hokQ_of]
 obtain ⟨v1, h_1, H⟩ := HS.bnd H
 try simp -implicitDefEqProofs +decide (maxSteps := 999999) [-selQ_sel, hokQ_of, h_1]
 refine Hid.brV (fun h_2 => ?_) (fun h_2 => ?_)
 ·replace H := HS.cnd_t h_2 H
  try simp -implicitDefEqProofs +decide (maxSteps := 999999) [-selQ_sel, hokQ_of, h_1, h_2]
  obtain ⟨v2, h_3, H⟩ := HS.bnd H
  try simp -implicitDefEqProofs +decide (maxSteps := 999999) [-selQ_sel, hokQ_of, h_1, h_2, h_3]
  refine Hid.brV (fun h_4 => ?_) (fun h_4 => ?_)
  ·replace H := HS.cnd_t h_4 H
   try simp -implicitDefEqProofs +decide (maxSteps := 999999) [-selQ_sel, hokQ_of, h_1, h_2, h_3, h_4]
   obtain ⟨v3, h_5, H⟩ := HS.bnd H
   try simp -implicitDefEqProofs +decide (maxSteps := 999999) [-selQ_sel, hokQ_of, h_1, h_2, h_3, h_4, h_5]
   obtain ⟨⟨w5, w6, w7, w8, w9, w10, w11, w12, w13, w14, w15, w16, w17, w18⟩, h_6, H⟩ := HS.bnd H
   dsimp only at H
   try simp -implicitDefEqProofs +decide (maxSteps := 999999) [-selQ_sel, hokQ_of, h_1, h_2, h_3, h_4, h_5, h_6]
   obtain ⟨⟨w20, w21⟩, h_7, H⟩ := HS.bnd H
   dsimp only at H
   have k_8 := spec_CreateNode_k ((TScene.mk v3).nodes) ((TNode.mk w5 w6 w7 w8 (TPath.mk w14 w15) w9 w10 w16 w11 w12 w13 (TPath.mk w17 w18)).id) ((TNode.mk w5 w6 w7 w8 (TPath.mk w14 w15) w9 w10 w16 w11 w12 w13 (TPath.mk w17 w18)).parent) ((TNode.mk w5 w6 w7 w8 (TPath.mk w14 w15) w9 w10 w16 w11 w12 w13 (TPath.mk w17 w18)).group) (((TNode.mk w5 w6 w7 w8 (TPath.mk w14 w15) w9 w10 w16 w11 w12 w13 (TPath.mk w17 w18)).mat).a) (((TNode.mk w5 w6 w7 w8 (TPath.mk w14 w15) w9 w10 w16 w11 w12 w13 (TPath.mk w17 w18)).mat).b) (((TNode.mk w5 w6 w7 w8 (TPath.mk w14 w15) w9 w10 w16 w11 w12 w13 (TPath.mk w17 w18)).mat).c) (((TNode.mk w5 w6 w7 w8 (TPath.mk w14 w15) w9 w10 w16 w11 w12 w13 (TPath.mk w17 w18)).mat).d) (((TNode.mk w5 w6 w7 w8 (TPath.mk w14 w15) w9 w10 w16 w11 w12 w13 (TPath.mk w17 w18)).mat).e) (((TNode.mk w5 w6 w7 w8 (TPath.mk w14 w15) w9 w10 w16 w11 w12 w13 (TPath.mk w17 w18)).mat).f) (((TNode.mk w5 w6 w7 w8 (TPath.mk w14 w15) w9 w10 w16 w11 w12 w13 (TPath.mk w17 w18)).path).verbs) (((TNode.mk w5 w6 w7 w8 (TPath.mk w14 w15) w9 w10 w16 w11 w12 w13 (TPath.mk w17 w18)).path).points) ((TNode.mk w5 w6 w7 w8 (TPath.mk w14 w15) w9 w10 w16 w11 w12 w13 (TPath.mk w17 w18)).even) ((TNode.mk w5 w6 w7 w8 (TPath.mk w14 w15) w9 w10 w16 w11 w12 w13 (TPath.mk w17 w18)).width) ((TNode.mk w5 w6 w7 w8 (TPath.mk w14 w15) w9 w10 w16 w11 w12 w13 (TPath.mk w17 w18)).dashes) (((TNode.mk w5 w6 w7 w8 (TPath.mk w14 w15) w9 w10 w16 w11 w12 w13 (TPath.mk w17 w18)).paint).kind) ((((TNode.mk w5 w6 w7 w8 (TPath.mk w14 w15) w9 w10 w16 w11 w12 w13 (TPath.mk w17 w18)).paint).first).r) ((((TNode.mk w5 w6 w7 w8 (TPath.mk w14 w15) w9 w10 w16 w11 w12 w13 (TPath.mk w17 w18)).paint).first).g) ((((TNode.mk w5 w6 w7 w8 (TPath.mk w14 w15) w9 w10 w16 w11 w12 w13 (TPath.mk w17 w18)).paint).first).b) ((((TNode.mk w5 w6 w7 w8 (TPath.mk w14 w15) w9 w10 w16 w11 w12 w13 (TPath.mk w17 w18)).paint).first).a) ((((TNode.mk w5 w6 w7 w8 (TPath.mk w14 w15) w9 w10 w16 w11 w12 w13 (TPath.mk w17 w18)).paint).last).r) ((((TNode.mk w5 w6 w7 w8 (TPath.mk w14 w15) w9 w10 w16 w11 w12 w13 (TPath.mk w17 w18)).paint).last).g) ((((TNode.mk w5 w6 w7 w8 (TPath.mk w14 w15) w9 w10 w16 w11 w12 w13 (TPath.mk w17 w18)).paint).last).b) ((((TNode.mk w5 w6 w7 w8 (TPath.mk w14 w15) w9 w10 w16 w11 w12 w13 (TPath.mk w17 w18)).paint).last).a) ((((TNode.mk w5 w6 w7 w8 (TPath.mk w14 w15) w9 w10 w16 w11 w12 w13 (TPath.mk w17 w18)).paint).from_).x) ((((TNode.mk w5 w6 w7 w8 (TPath.mk w14 w15) w9 w10 w16 w11 w12 w13 (TPath.mk w17 w18)).paint).from_).y) ((((TNode.mk w5 w6 w7 w8 (TPath.mk w14 w15) w9 w10 w16 w11 w12 w13 (TPath.mk w17 w18)).paint).to).x) ((((TNode.mk w5 w6 w7 w8 (TPath.mk w14 w15) w9 w10 w16 w11 w12 w13 (TPath.mk w17 w18)).paint).to).y) ((TNode.mk w5 w6 w7 w8 (TPath.mk w14 w15) w9 w10 w16 w11 w12 w13 (TPath.mk w17 w18)).mode) ((TNode.mk w5 w6 w7 w8 (TPath.mk w14 w15) w9 w10 w16 w11 w12 w13 (TPath.mk w17 w18)).fade) (((TNode.mk w5 w6 w7 w8 (TPath.mk w14 w15) w9 w10 w16 w11 w12 w13 (TPath.mk w17 w18)).clip).verbs) (((TNode.mk w5 w6 w7 w8 (TPath.mk w14 w15) w9 w10 w16 w11 w12 w13 (TPath.mk w17 w18)).clip).points)
   simp -implicitDefEqProofs [-spec_CreateNode_k] at k_8
   try simp -implicitDefEqProofs +decide (maxSteps := 999999) [-selQ_sel, hokQ_of, h_1, h_2, h_3, h_4, h_5, h_6, h_7, k_8]
   obtain ⟨⟨w23, w24⟩, h_9, H⟩ := HS.bnd H
   dsimp only at H
   have k_10 := impl_CreateNode_k ((TScene.mk v3).nodes) ((TNode.mk w5 w6 w7 w8 (TPath.mk w14 w15) w9 w10 w16 w11 w12 w13 (TPath.mk w17 w18)).id) ((TNode.mk w5 w6 w7 w8 (TPath.mk w14 w15) w9 w10 w16 w11 w12 w13 (TPath.mk w17 w18)).parent) ((TNode.mk w5 w6 w7 w8 (TPath.mk w14 w15) w9 w10 w16 w11 w12 w13 (TPath.mk w17 w18)).group) (((TNode.mk w5 w6 w7 w8 (TPath.mk w14 w15) w9 w10 w16 w11 w12 w13 (TPath.mk w17 w18)).mat).a) (((TNode.mk w5 w6 w7 w8 (TPath.mk w14 w15) w9 w10 w16 w11 w12 w13 (TPath.mk w17 w18)).mat).b) (((TNode.mk w5 w6 w7 w8 (TPath.mk w14 w15) w9 w10 w16 w11 w12 w13 (TPath.mk w17 w18)).mat).c) (((TNode.mk w5 w6 w7 w8 (TPath.mk w14 w15) w9 w10 w16 w11 w12 w13 (TPath.mk w17 w18)).mat).d) (((TNode.mk w5 w6 w7 w8 (TPath.mk w14 w15) w9 w10 w16 w11 w12 w13 (TPath.mk w17 w18)).mat).e) (((TNode.mk w5 w6 w7 w8 (TPath.mk w14 w15) w9 w10 w16 w11 w12 w13 (TPath.mk w17 w18)).mat).f) (((TNode.mk w5 w6 w7 w8 (TPath.mk w14 w15) w9 w10 w16 w11 w12 w13 (TPath.mk w17 w18)).path).verbs) (((TNode.mk w5 w6 w7 w8 (TPath.mk w14 w15) w9 w10 w16 w11 w12 w13 (TPath.mk w17 w18)).path).points) ((TNode.mk w5 w6 w7 w8 (TPath.mk w14 w15) w9 w10 w16 w11 w12 w13 (TPath.mk w17 w18)).even) ((TNode.mk w5 w6 w7 w8 (TPath.mk w14 w15) w9 w10 w16 w11 w12 w13 (TPath.mk w17 w18)).width) ((TNode.mk w5 w6 w7 w8 (TPath.mk w14 w15) w9 w10 w16 w11 w12 w13 (TPath.mk w17 w18)).dashes) (((TNode.mk w5 w6 w7 w8 (TPath.mk w14 w15) w9 w10 w16 w11 w12 w13 (TPath.mk w17 w18)).paint).kind) ((((TNode.mk w5 w6 w7 w8 (TPath.mk w14 w15) w9 w10 w16 w11 w12 w13 (TPath.mk w17 w18)).paint).first).r) ((((TNode.mk w5 w6 w7 w8 (TPath.mk w14 w15) w9 w10 w16 w11 w12 w13 (TPath.mk w17 w18)).paint).first).g) ((((TNode.mk w5 w6 w7 w8 (TPath.mk w14 w15) w9 w10 w16 w11 w12 w13 (TPath.mk w17 w18)).paint).first).b) ((((TNode.mk w5 w6 w7 w8 (TPath.mk w14 w15) w9 w10 w16 w11 w12 w13 (TPath.mk w17 w18)).paint).first).a) ((((TNode.mk w5 w6 w7 w8 (TPath.mk w14 w15) w9 w10 w16 w11 w12 w13 (TPath.mk w17 w18)).paint).last).r) ((((TNode.mk w5 w6 w7 w8 (TPath.mk w14 w15) w9 w10 w16 w11 w12 w13 (TPath.mk w17 w18)).paint).last).g) ((((TNode.mk w5 w6 w7 w8 (TPath.mk w14 w15) w9 w10 w16 w11 w12 w13 (TPath.mk w17 w18)).paint).last).b) ((((TNode.mk w5 w6 w7 w8 (TPath.mk w14 w15) w9 w10 w16 w11 w12 w13 (TPath.mk w17 w18)).paint).last).a) ((((TNode.mk w5 w6 w7 w8 (TPath.mk w14 w15) w9 w10 w16 w11 w12 w13 (TPath.mk w17 w18)).paint).from_).x) ((((TNode.mk w5 w6 w7 w8 (TPath.mk w14 w15) w9 w10 w16 w11 w12 w13 (TPath.mk w17 w18)).paint).from_).y) ((((TNode.mk w5 w6 w7 w8 (TPath.mk w14 w15) w9 w10 w16 w11 w12 w13 (TPath.mk w17 w18)).paint).to).x) ((((TNode.mk w5 w6 w7 w8 (TPath.mk w14 w15) w9 w10 w16 w11 w12 w13 (TPath.mk w17 w18)).paint).to).y) ((TNode.mk w5 w6 w7 w8 (TPath.mk w14 w15) w9 w10 w16 w11 w12 w13 (TPath.mk w17 w18)).mode) ((TNode.mk w5 w6 w7 w8 (TPath.mk w14 w15) w9 w10 w16 w11 w12 w13 (TPath.mk w17 w18)).fade) (((TNode.mk w5 w6 w7 w8 (TPath.mk w14 w15) w9 w10 w16 w11 w12 w13 (TPath.mk w17 w18)).clip).verbs) (((TNode.mk w5 w6 w7 w8 (TPath.mk w14 w15) w9 w10 w16 w11 w12 w13 (TPath.mk w17 w18)).clip).points)
   simp -implicitDefEqProofs [-impl_CreateNode_k] at k_10
   try simp -implicitDefEqProofs +decide (maxSteps := 999999) [-selQ_sel, hokQ_of, h_1, h_2, h_3, h_4, h_5, h_6, h_7, k_8, h_9, k_10]
   obtain ⟨v25, h_11, H⟩ := HS.bnd H
   have k_12 := laws_eqScene_k ((TScene.mk w24).nodes) ((TScene.mk w21).nodes)
   simp -implicitDefEqProofs [-laws_eqScene_k] at k_12
   try simp -implicitDefEqProofs +decide (maxSteps := 999999) [-selQ_sel, hokQ_of, h_1, h_2, h_3, h_4, h_5, h_6, h_7, k_8, h_9, k_10, h_11, k_12]
   refine Hid.selQ (fun h_13 => ?_) (fun h_13 => ?_)
   ·replace H := HS.cnd_t h_13 H
    try simp -implicitDefEqProofs +decide (maxSteps := 999999) [-selQ_sel, hokQ_of, h_1, h_2, h_3, h_4, h_5, h_6, h_7, k_8, h_9, k_10, h_11, k_12, h_13]
    refine Hid.brV (fun h_14 => ?_) (fun h_14 => ?_)
    ·replace H := HS.cnd_t h_14 H
     try simp -implicitDefEqProofs +decide (maxSteps := 999999) [-selQ_sel, hokQ_of, h_1, h_2, h_3, h_4, h_5, h_6, h_7, k_8, h_9, k_10, h_11, k_12, h_13, h_14]
     obtain ⟨v26, h_15, H⟩ := HS.bnd H
     have k_16 := laws_eqScene_k ((TScene.mk v3).nodes) ((TScene.mk v3).nodes)
     simp -implicitDefEqProofs [-laws_eqScene_k] at k_16
     try simp -implicitDefEqProofs +decide (maxSteps := 999999) [-selQ_sel, hokQ_of, h_1, h_2, h_3, h_4, h_5, h_6, h_7, k_8, h_9, k_10, h_11, k_12, h_13, h_14, h_15, k_16]
     refine Hid.brV (fun h_17 => ?_) (fun h_17 => ?_)
     ·replace H := HS.cnd_t h_17 H
      try simp -implicitDefEqProofs +decide (maxSteps := 999999) [-selQ_sel, hokQ_of, h_1, h_2, h_3, h_4, h_5, h_6, h_7, k_8, h_9, k_10, h_11, k_12, h_13, h_14, h_15, k_16, h_17]
      obtain ⟨v27, h_18, H⟩ := HS.bnd H
      have k_19 := laws_eqNode_k ((TNode.mk w5 w6 w7 w8 (TPath.mk w14 w15) w9 w10 w16 w11 w12 w13 (TPath.mk w17 w18)).id) ((TNode.mk w5 w6 w7 w8 (TPath.mk w14 w15) w9 w10 w16 w11 w12 w13 (TPath.mk w17 w18)).parent) ((TNode.mk w5 w6 w7 w8 (TPath.mk w14 w15) w9 w10 w16 w11 w12 w13 (TPath.mk w17 w18)).group) (((TNode.mk w5 w6 w7 w8 (TPath.mk w14 w15) w9 w10 w16 w11 w12 w13 (TPath.mk w17 w18)).mat).a) (((TNode.mk w5 w6 w7 w8 (TPath.mk w14 w15) w9 w10 w16 w11 w12 w13 (TPath.mk w17 w18)).mat).b) (((TNode.mk w5 w6 w7 w8 (TPath.mk w14 w15) w9 w10 w16 w11 w12 w13 (TPath.mk w17 w18)).mat).c) (((TNode.mk w5 w6 w7 w8 (TPath.mk w14 w15) w9 w10 w16 w11 w12 w13 (TPath.mk w17 w18)).mat).d) (((TNode.mk w5 w6 w7 w8 (TPath.mk w14 w15) w9 w10 w16 w11 w12 w13 (TPath.mk w17 w18)).mat).e) (((TNode.mk w5 w6 w7 w8 (TPath.mk w14 w15) w9 w10 w16 w11 w12 w13 (TPath.mk w17 w18)).mat).f) (((TNode.mk w5 w6 w7 w8 (TPath.mk w14 w15) w9 w10 w16 w11 w12 w13 (TPath.mk w17 w18)).path).verbs) (((TNode.mk w5 w6 w7 w8 (TPath.mk w14 w15) w9 w10 w16 w11 w12 w13 (TPath.mk w17 w18)).path).points) ((TNode.mk w5 w6 w7 w8 (TPath.mk w14 w15) w9 w10 w16 w11 w12 w13 (TPath.mk w17 w18)).even) ((TNode.mk w5 w6 w7 w8 (TPath.mk w14 w15) w9 w10 w16 w11 w12 w13 (TPath.mk w17 w18)).width) ((TNode.mk w5 w6 w7 w8 (TPath.mk w14 w15) w9 w10 w16 w11 w12 w13 (TPath.mk w17 w18)).dashes) (((TNode.mk w5 w6 w7 w8 (TPath.mk w14 w15) w9 w10 w16 w11 w12 w13 (TPath.mk w17 w18)).paint).kind) ((((TNode.mk w5 w6 w7 w8 (TPath.mk w14 w15) w9 w10 w16 w11 w12 w13 (TPath.mk w17 w18)).paint).first).r) ((((TNode.mk w5 w6 w7 w8 (TPath.mk w14 w15) w9 w10 w16 w11 w12 w13 (TPath.mk w17 w18)).paint).first).g) ((((TNode.mk w5 w6 w7 w8 (TPath.mk w14 w15) w9 w10 w16 w11 w12 w13 (TPath.mk w17 w18)).paint).first).b) ((((TNode.mk w5 w6 w7 w8 (TPath.mk w14 w15) w9 w10 w16 w11 w12 w13 (TPath.mk w17 w18)).paint).first).a) ((((TNode.mk w5 w6 w7 w8 (TPath.mk w14 w15) w9 w10 w16 w11 w12 w13 (TPath.mk w17 w18)).paint).last).r) ((((TNode.mk w5 w6 w7 w8 (TPath.mk w14 w15) w9 w10 w16 w11 w12 w13 (TPath.mk w17 w18)).paint).last).g) ((((TNode.mk w5 w6 w7 w8 (TPath.mk w14 w15) w9 w10 w16 w11 w12 w13 (TPath.mk w17 w18)).paint).last).b) ((((TNode.mk w5 w6 w7 w8 (TPath.mk w14 w15) w9 w10 w16 w11 w12 w13 (TPath.mk w17 w18)).paint).last).a) ((((TNode.mk w5 w6 w7 w8 (TPath.mk w14 w15) w9 w10 w16 w11 w12 w13 (TPath.mk w17 w18)).paint).from_).x) ((((TNode.mk w5 w6 w7 w8 (TPath.mk w14 w15) w9 w10 w16 w11 w12 w13 (TPath.mk w17 w18)).paint).from_).y) ((((TNode.mk w5 w6 w7 w8 (TPath.mk w14 w15) w9 w10 w16 w11 w12 w13 (TPath.mk w17 w18)).paint).to).x) ((((TNode.mk w5 w6 w7 w8 (TPath.mk w14 w15) w9 w10 w16 w11 w12 w13 (TPath.mk w17 w18)).paint).to).y) ((TNode.mk w5 w6 w7 w8 (TPath.mk w14 w15) w9 w10 w16 w11 w12 w13 (TPath.mk w17 w18)).mode) ((TNode.mk w5 w6 w7 w8 (TPath.mk w14 w15) w9 w10 w16 w11 w12 w13 (TPath.mk w17 w18)).fade) (((TNode.mk w5 w6 w7 w8 (TPath.mk w14 w15) w9 w10 w16 w11 w12 w13 (TPath.mk w17 w18)).clip).verbs) (((TNode.mk w5 w6 w7 w8 (TPath.mk w14 w15) w9 w10 w16 w11 w12 w13 (TPath.mk w17 w18)).clip).points) ((TNode.mk w5 w6 w7 w8 (TPath.mk w14 w15) w9 w10 w16 w11 w12 w13 (TPath.mk w17 w18)).id) ((TNode.mk w5 w6 w7 w8 (TPath.mk w14 w15) w9 w10 w16 w11 w12 w13 (TPath.mk w17 w18)).parent) ((TNode.mk w5 w6 w7 w8 (TPath.mk w14 w15) w9 w10 w16 w11 w12 w13 (TPath.mk w17 w18)).group) (((TNode.mk w5 w6 w7 w8 (TPath.mk w14 w15) w9 w10 w16 w11 w12 w13 (TPath.mk w17 w18)).mat).a) (((TNode.mk w5 w6 w7 w8 (TPath.mk w14 w15) w9 w10 w16 w11 w12 w13 (TPath.mk w17 w18)).mat).b) (((TNode.mk w5 w6 w7 w8 (TPath.mk w14 w15) w9 w10 w16 w11 w12 w13 (TPath.mk w17 w18)).mat).c) (((TNode.mk w5 w6 w7 w8 (TPath.mk w14 w15) w9 w10 w16 w11 w12 w13 (TPath.mk w17 w18)).mat).d) (((TNode.mk w5 w6 w7 w8 (TPath.mk w14 w15) w9 w10 w16 w11 w12 w13 (TPath.mk w17 w18)).mat).e) (((TNode.mk w5 w6 w7 w8 (TPath.mk w14 w15) w9 w10 w16 w11 w12 w13 (TPath.mk w17 w18)).mat).f) (((TNode.mk w5 w6 w7 w8 (TPath.mk w14 w15) w9 w10 w16 w11 w12 w13 (TPath.mk w17 w18)).path).verbs) (((TNode.mk w5 w6 w7 w8 (TPath.mk w14 w15) w9 w10 w16 w11 w12 w13 (TPath.mk w17 w18)).path).points) ((TNode.mk w5 w6 w7 w8 (TPath.mk w14 w15) w9 w10 w16 w11 w12 w13 (TPath.mk w17 w18)).even) ((TNode.mk w5 w6 w7 w8 (TPath.mk w14 w15) w9 w10 w16 w11 w12 w13 (TPath.mk w17 w18)).width) ((TNode.mk w5 w6 w7 w8 (TPath.mk w14 w15) w9 w10 w16 w11 w12 w13 (TPath.mk w17 w18)).dashes) (((TNode.mk w5 w6 w7 w8 (TPath.mk w14 w15) w9 w10 w16 w11 w12 w13 (TPath.mk w17 w18)).paint).kind) ((((TNode.mk w5 w6 w7 w8 (TPath.mk w14 w15) w9 w10 w16 w11 w12 w13 (TPath.mk w17 w18)).paint).first).r) ((((TNode.mk w5 w6 w7 w8 (TPath.mk w14 w15) w9 w10 w16 w11 w12 w13 (TPath.mk w17 w18)).paint).first).g) ((((TNode.mk w5 w6 w7 w8 (TPath.mk w14 w15) w9 w10 w16 w11 w12 w13 (TPath.mk w17 w18)).paint).first).b) ((((TNode.mk w5 w6 w7 w8 (TPath.mk w14 w15) w9 w10 w16 w11 w12 w13 (TPath.mk w17 w18)).paint).first).a) ((((TNode.mk w5 w6 w7 w8 (TPath.mk w14 w15) w9 w10 w16 w11 w12 w13 (TPath.mk w17 w18)).paint).last).r) ((((TNode.mk w5 w6 w7 w8 (TPath.mk w14 w15) w9 w10 w16 w11 w12 w13 (TPath.mk w17 w18)).paint).last).g) ((((TNode.mk w5 w6 w7 w8 (TPath.mk w14 w15) w9 w10 w16 w11 w12 w13 (TPath.mk w17 w18)).paint).last).b) ((((TNode.mk w5 w6 w7 w8 (TPath.mk w14 w15) w9 w10 w16 w11 w12 w13 (TPath.mk w17 w18)).paint).last).a) ((((TNode.mk w5 w6 w7 w8 (TPath.mk w14 w15) w9 w10 w16 w11 w12 w13 (TPath.mk w17 w18)).paint).from_).x) ((((TNode.mk w5 w6 w7 w8 (TPath.mk w14 w15) w9 w10 w16 w11 w12 w13 (TPath.mk w17 w18)).paint).from_).y) ((((TNode.mk w5 w6 w7 w8 (TPath.mk w14 w15) w9 w10 w16 w11 w12 w13 (TPath.mk w17 w18)).paint).to).x) ((((TNode.mk w5 w6 w7 w8 (TPath.mk w14 w15) w9 w10 w16 w11 w12 w13 (TPath.mk w17 w18)).paint).to).y) ((TNode.mk w5 w6 w7 w8 (TPath.mk w14 w15) w9 w10 w16 w11 w12 w13 (TPath.mk w17 w18)).mode) ((TNode.mk w5 w6 w7 w8 (TPath.mk w14 w15) w9 w10 w16 w11 w12 w13 (TPath.mk w17 w18)).fade) (((TNode.mk w5 w6 w7 w8 (TPath.mk w14 w15) w9 w10 w16 w11 w12 w13 (TPath.mk w17 w18)).clip).verbs) (((TNode.mk w5 w6 w7 w8 (TPath.mk w14 w15) w9 w10 w16 w11 w12 w13 (TPath.mk w17 w18)).clip).points)
      simp -implicitDefEqProofs [-laws_eqNode_k] at k_19
      try simp -implicitDefEqProofs +decide (maxSteps := 999999) [-selQ_sel, hokQ_of, h_1, h_2, h_3, h_4, h_5, h_6, h_7, k_8, h_9, k_10, h_11, k_12, h_13, h_14, h_15, k_16, h_17, h_18, k_19]
      refine Hid.brV (fun h_20 => ?_) (fun h_20 => ?_)
      ·replace H := HS.cnd_t h_20 H
       try simp -implicitDefEqProofs +decide (maxSteps := 999999) [-selQ_sel, hokQ_of, h_1, h_2, h_3, h_4, h_5, h_6, h_7, k_8, h_9, k_10, h_11, k_12, h_13, h_14, h_15, k_16, h_17, h_18, k_19, h_20]
       obtain ⟨⟨w29, w30⟩, h_21, H⟩ := HS.bnd H
       dsimp only at H
       have g_22 := laws_markScene_n h_21
       try simp -implicitDefEqProofs +decide (maxSteps := 999999) [-selQ_sel, hokQ_of, h_1, h_2, h_3, h_4, h_5, h_6, h_7, k_8, h_9, k_10, h_11, k_12, h_13, h_14, h_15, k_16, h_17, h_18, k_19, h_20, h_21, g_22]
       obtain ⟨⟨w32, w33, w34, w35, w36, w37⟩, h_23, H⟩ := HS.bnd H
       dsimp only at H
       have g_24 := laws_markNode_n h_23
       try simp -implicitDefEqProofs +decide (maxSteps := 999999) [-selQ_sel, hokQ_of, h_1, h_2, h_3, h_4, h_5, h_6, h_7, k_8, h_9, k_10, h_11, k_12, h_13, h_14, h_15, k_16, h_17, h_18, k_19, h_20, h_21, g_22, h_23, g_24]
       refine Hid.selQ (fun h_25 => ?_) (fun h_25 => ?_)
       ·replace H := HS.cnd_t h_25 H
        try simp -implicitDefEqProofs +decide (maxSteps := 999999) [-selQ_sel, hokQ_of, h_1, h_2, h_3, h_4, h_5, h_6, h_7, k_8, h_9, k_10, h_11, k_12, h_13, h_14, h_15, k_16, h_17, h_18, k_19, h_20, h_21, g_22, h_23, g_24, h_25]
        obtain ⟨⟨w39, w40⟩, h_26, H⟩ := HS.bnd H
        dsimp only at H
        have g_27 := laws_markScene_n h_26
        try simp -implicitDefEqProofs +decide (maxSteps := 999999) [-selQ_sel, hokQ_of, h_1, h_2, h_3, h_4, h_5, h_6, h_7, k_8, h_9, k_10, h_11, k_12, h_13, h_14, h_15, k_16, h_17, h_18, k_19, h_20, h_21, g_22, h_23, g_24, h_25, h_26, g_27]
        obtain ⟨v41, h_28, H⟩ := HS.bnd H
        have k_29 := laws_heldScene_k ((TScene.mk w40).nodes) 1
        simp -implicitDefEqProofs [-laws_heldScene_k] at k_29
        try simp -implicitDefEqProofs +decide (maxSteps := 999999) [-selQ_sel, hokQ_of, h_1, h_2, h_3, h_4, h_5, h_6, h_7, k_8, h_9, k_10, h_11, k_12, h_13, h_14, h_15, k_16, h_17, h_18, k_19, h_20, h_21, g_22, h_23, g_24, h_25, h_26, g_27, h_28, k_29]
        refine Hid.brV (fun h_30 => ?_) (fun h_30 => ?_)
        ·replace H := HS.cnd_t h_30 H
         try simp -implicitDefEqProofs +decide (maxSteps := 999999) [-selQ_sel, hokQ_of, h_1, h_2, h_3, h_4, h_5, h_6, h_7, k_8, h_9, k_10, h_11, k_12, h_13, h_14, h_15, k_16, h_17, h_18, k_19, h_20, h_21, g_22, h_23, g_24, h_25, h_26, g_27, h_28, k_29, h_30]
         refine Hid.brV (fun h_31 => ?_) (fun h_31 => ?_)
         ·replace H := HS.cnd_t h_31 H
          try simp -implicitDefEqProofs +decide (maxSteps := 999999) [-selQ_sel, hokQ_of, h_1, h_2, h_3, h_4, h_5, h_6, h_7, k_8, h_9, k_10, h_11, k_12, h_13, h_14, h_15, k_16, h_17, h_18, k_19, h_20, h_21, g_22, h_23, g_24, h_25, h_26, g_27, h_28, k_29, h_30, h_31]
          have hr := (HS.some H).symm; subst hr
          refine Hid.mk ⟨_, Wk.refl _, ?_⟩
          try simp -implicitDefEqProofs +decide (maxSteps := 999999) [-selQ_sel, hokQ_of, h_1, h_2, h_3, h_4, h_5, h_6, h_7, k_8, h_9, k_10, h_11, k_12, h_13, h_14, h_15, k_16, h_17, h_18, k_19, h_20, h_21, g_22, h_23, g_24, h_25, h_26, g_27, h_28, k_29, h_30, h_31]
         ·replace H := HS.cnd_f h_31 H
          try simp -implicitDefEqProofs +decide (maxSteps := 999999) [-selQ_sel, hokQ_of, h_1, h_2, h_3, h_4, h_5, h_6, h_7, k_8, h_9, k_10, h_11, k_12, h_13, h_14, h_15, k_16, h_17, h_18, k_19, h_20, h_21, g_22, h_23, g_24, h_25, h_26, g_27, h_28, k_29, h_30, h_31]
          have hr := (HS.some H).symm; subst hr
          refine Hid.mk ⟨_, Wk.refl _, ?_⟩
          try simp -implicitDefEqProofs +decide (maxSteps := 999999) [-selQ_sel, hokQ_of, h_1, h_2, h_3, h_4, h_5, h_6, h_7, k_8, h_9, k_10, h_11, k_12, h_13, h_14, h_15, k_16, h_17, h_18, k_19, h_20, h_21, g_22, h_23, g_24, h_25, h_26, g_27, h_28, k_29, h_30, h_31]
        ·replace H := HS.cnd_f h_30 H
         try simp -implicitDefEqProofs +decide (maxSteps := 999999) [-selQ_sel, hokQ_of, h_1, h_2, h_3, h_4, h_5, h_6, h_7, k_8, h_9, k_10, h_11, k_12, h_13, h_14, h_15, k_16, h_17, h_18, k_19, h_20, h_21, g_22, h_23, g_24, h_25, h_26, g_27, h_28, k_29, h_30]
         have hr := (HS.some H).symm; subst hr
         refine Hid.mk ⟨_, Wk.refl _, ?_⟩
         try simp -implicitDefEqProofs +decide (maxSteps := 999999) [-selQ_sel, hokQ_of, h_1, h_2, h_3, h_4, h_5, h_6, h_7, k_8, h_9, k_10, h_11, k_12, h_13, h_14, h_15, k_16, h_17, h_18, k_19, h_20, h_21, g_22, h_23, g_24, h_25, h_26, g_27, h_28, k_29, h_30]
       ·replace H := HS.cnd_f h_25 H
        try simp -implicitDefEqProofs +decide (maxSteps := 999999) [-selQ_sel, hokQ_of, h_1, h_2, h_3, h_4, h_5, h_6, h_7, k_8, h_9, k_10, h_11, k_12, h_13, h_14, h_15, k_16, h_17, h_18, k_19, h_20, h_21, g_22, h_23, g_24, h_25]
        have hr := (HS.some H).symm; subst hr
        refine Hid.mk ⟨_, Wk.refl _, ?_⟩
        try simp -implicitDefEqProofs +decide (maxSteps := 999999) [-selQ_sel, hokQ_of, h_1, h_2, h_3, h_4, h_5, h_6, h_7, k_8, h_9, k_10, h_11, k_12, h_13, h_14, h_15, k_16, h_17, h_18, k_19, h_20, h_21, g_22, h_23, g_24, h_25]
      ·replace H := HS.cnd_f h_20 H
       try simp -implicitDefEqProofs +decide (maxSteps := 999999) [-selQ_sel, hokQ_of, h_1, h_2, h_3, h_4, h_5, h_6, h_7, k_8, h_9, k_10, h_11, k_12, h_13, h_14, h_15, k_16, h_17, h_18, k_19, h_20]
       have hr := (HS.some H).symm; subst hr
       refine Hid.mk ⟨_, Wk.refl _, ?_⟩
       try simp -implicitDefEqProofs +decide (maxSteps := 999999) [-selQ_sel, hokQ_of, h_1, h_2, h_3, h_4, h_5, h_6, h_7, k_8, h_9, k_10, h_11, k_12, h_13, h_14, h_15, k_16, h_17, h_18, k_19, h_20]
     ·replace H := HS.cnd_f h_17 H
      try simp -implicitDefEqProofs +decide (maxSteps := 999999) [-selQ_sel, hokQ_of, h_1, h_2, h_3, h_4, h_5, h_6, h_7, k_8, h_9, k_10, h_11, k_12, h_13, h_14, h_15, k_16, h_17]
      have hr := (HS.some H).symm; subst hr
      refine Hid.mk ⟨_, Wk.refl _, ?_⟩
      try simp -implicitDefEqProofs +decide (maxSteps := 999999) [-selQ_sel, hokQ_of, h_1, h_2, h_3, h_4, h_5, h_6, h_7, k_8, h_9, k_10, h_11, k_12, h_13, h_14, h_15, k_16, h_17]
    ·replace H := HS.cnd_f h_14 H
     try simp -implicitDefEqProofs +decide (maxSteps := 999999) [-selQ_sel, hokQ_of, h_1, h_2, h_3, h_4, h_5, h_6, h_7, k_8, h_9, k_10, h_11, k_12, h_13, h_14]
     have hr := (HS.some H).symm; subst hr
     refine Hid.mk ⟨_, Wk.refl _, ?_⟩
     try simp -implicitDefEqProofs +decide (maxSteps := 999999) [-selQ_sel, hokQ_of, h_1, h_2, h_3, h_4, h_5, h_6, h_7, k_8, h_9, k_10, h_11, k_12, h_13, h_14]
   ·replace H := HS.cnd_f h_13 H
    try simp -implicitDefEqProofs +decide (maxSteps := 999999) [-selQ_sel, hokQ_of, h_1, h_2, h_3, h_4, h_5, h_6, h_7, k_8, h_9, k_10, h_11, k_12, h_13]
    have hr := (HS.some H).symm; subst hr
    refine Hid.mk ⟨_, Wk.refl _, ?_⟩
    try simp -implicitDefEqProofs +decide (maxSteps := 999999) [-selQ_sel, hokQ_of, h_1, h_2, h_3, h_4, h_5, h_6, h_7, k_8, h_9, k_10, h_11, k_12, h_13]
  ·replace H := HS.cnd_f h_4 H
   try simp -implicitDefEqProofs +decide (maxSteps := 999999) [-selQ_sel, hokQ_of, h_1, h_2, h_3, h_4]
   have hr := (HS.some H).symm; subst hr
   refine Hid.mk ⟨_, Wk.refl _, ?_⟩
   try simp -implicitDefEqProofs +decide (maxSteps := 999999) [-selQ_sel, hokQ_of, h_1, h_2, h_3, h_4]
 ·replace H := HS.cnd_f h_2 H
  try simp -implicitDefEqProofs +decide (maxSteps := 999999) [-selQ_sel, hokQ_of, h_1, h_2]
  have hr := (HS.some H).symm; subst hr
  refine Hid.mk ⟨_, Wk.refl _, ?_⟩
  try simp -implicitDefEqProofs +decide (maxSteps := 999999) [-selQ_sel, hokQ_of, h_1, h_2]
theorem spec_NodeOk_ok0 (hm : Try.prog.follows .mixedOrders = true) (k_spec_l01In : Sound Try.prog 87 spec_l01In_x) (k_spec_MatOk : Sound Try.prog 98 spec_MatOk_x) (k_spec_PathOk : Sound Try.prog 99 spec_PathOk_x) (k_spec_DashOk : Sound Try.prog 100 spec_DashOk_x) (k_spec_l15NoPath : Sound Try.prog 101 spec_l15NoPath_x) (k_spec_l15NoPaint : Sound Try.prog 102 spec_l15NoPaint_x) (k_spec_PaintOk : Sound Try.prog 103 spec_PaintOk_x) : Sound Try.prog 57 spec_NodeOk_x := by
 refine xOf_sound fun q r h => ?_
 revert h; revert r; revert q; intro a0 r h
 refine fn_ok E0 hm Try.func57 rfl (by decide +kernel) (by rfl) fun Γ hn hk => ?_
 dsimp only [spec_NodeOk_e, spec_NodeOk_v]
 replace hn : Γ.n = 91 := hn
 replace hk : Γ.k = 0 := hk
 have H : HS (spec_NodeOk a0) r := h
 clear h; unfold spec_NodeOk at H
 try simp -implicitDefEqProofs at H
 refine Tr.of_vc (cl := tabC [(87, spec_l01In_x), (98, spec_MatOk_x), (99, spec_PathOk_x), (100, spec_DashOk_x), (101, spec_l15NoPath_x), (102, spec_l15NoPaint_x), (103, spec_PaintOk_x)]) (E := E0) [] (tab_cons k_spec_l01In (tab_cons k_spec_MatOk (tab_cons k_spec_PathOk (tab_cons k_spec_DashOk (tab_cons k_spec_l15NoPath (tab_cons k_spec_l15NoPaint (tab_cons k_spec_PaintOk tab_nil))))))) hm (by rw [hn]; decide +kernel) ?_
 try simp -implicitDefEqProofs (maxSteps := 999999) [-selQ_sel]
 obtain ⟨v1, h_1, H⟩ := HS.bnd H
 try simp -implicitDefEqProofs (maxSteps := 999999) [-selQ_sel, h_1]
 refine Hid.selQ (fun h_2 => ?_) (fun h_2 => ?_)
 ·replace H := HS.cnd_t h_2 H
  try simp -implicitDefEqProofs (maxSteps := 999999) [-selQ_sel, h_1, h_2]
  obtain ⟨v2, h_3, H⟩ := HS.bnd H
  try simp -implicitDefEqProofs (maxSteps := 999999) [-selQ_sel, h_1, h_2, h_3]
  refine Hid.selQ (fun h_4 => ?_) (fun h_4 => ?_)
  ·replace H := HS.cnd_t h_4 H
   try simp -implicitDefEqProofs (maxSteps := 999999) [-selQ_sel, h_1, h_2, h_3, h_4]
   refine Hid.selQ (fun h_5 => ?_) (fun h_5 => ?_)
   ·replace H := HS.cnd_t h_5 H
    try simp -implicitDefEqProofs (maxSteps := 999999) [-selQ_sel, h_1, h_2, h_3, h_4, h_5]
    have hr := (HS.some H).symm; subst hr
    refine Hid.mk ⟨_, Wk.refl _, ?_⟩
    try simp -implicitDefEqProofs (maxSteps := 999999) [-selQ_sel, h_1, h_2, h_3, h_4, h_5]
   ·replace H := HS.cnd_f h_5 H
    try simp -implicitDefEqProofs (maxSteps := 999999) [-selQ_sel, h_1, h_2, h_3, h_4, h_5]
    obtain ⟨v3, h_6, H⟩ := HS.bnd H
    try simp -implicitDefEqProofs (maxSteps := 999999) [-selQ_sel, h_1, h_2, h_3, h_4, h_5, h_6]
    refine Hid.selQ (fun h_7 => ?_) (fun h_7 => ?_)
    ·replace H := HS.cnd_t h_7 H
     try simp -implicitDefEqProofs (maxSteps := 999999) [-selQ_sel, h_1, h_2, h_3, h_4, h_5, h_6, h_7]
     obtain ⟨v4, h_8, H⟩ := HS.bnd H
     try simp -implicitDefEqProofs (maxSteps := 999999) [-selQ_sel, h_1, h_2, h_3, h_4, h_5, h_6, h_7, h_8]
     refine Hid.selQ (fun h_9 => ?_) (fun h_9 => ?_)
     ·replace H := HS.cnd_t h_9 H
      try simp -implicitDefEqProofs (maxSteps := 999999) [-selQ_sel, h_1, h_2, h_3, h_4, h_5, h_6, h_7, h_8, h_9]
      obtain ⟨v5, h_10, H⟩ := HS.bnd H
      try simp -implicitDefEqProofs (maxSteps := 999999) [-selQ_sel, h_1, h_2, h_3, h_4, h_5, h_6, h_7, h_8, h_9, h_10]
      refine Hid.selQ (fun h_11 => ?_) (fun h_11 => ?_)
      ·replace H := HS.cnd_t h_11 H
       try simp -implicitDefEqProofs (maxSteps := 999999) [-selQ_sel, h_1, h_2, h_3, h_4, h_5, h_6, h_7, h_8, h_9, h_10, h_11]
       obtain ⟨v6, h_12, H⟩ := HS.bnd H
       try simp -implicitDefEqProofs (maxSteps := 999999) [-selQ_sel, h_1, h_2, h_3, h_4, h_5, h_6, h_7, h_8, h_9, h_10, h_11, h_12]
       refine Hid.selQ (fun h_13 => ?_) (fun h_13 => ?_)
       ·replace H := HS.cnd_t h_13 H
        try simp -implicitDefEqProofs (maxSteps := 999999) [-selQ_sel, h_1, h_2, h_3, h_4, h_5, h_6, h_7, h_8, h_9, h_10, h_11, h_12, h_13]
        obtain ⟨v7, h_14, H⟩ := HS.bnd H
        try simp -implicitDefEqProofs (maxSteps := 999999) [-selQ_sel, h_1, h_2, h_3, h_4, h_5, h_6, h_7, h_8, h_9, h_10, h_11, h_12, h_13, h_14]
        refine Hid.selQ (fun h_15 => ?_) (fun h_15 => ?_)
        ·replace H := HS.cnd_t h_15 H
         try simp -implicitDefEqProofs (maxSteps := 999999) [-selQ_sel, h_1, h_2, h_3, h_4, h_5, h_6, h_7, h_8, h_9, h_10, h_11, h_12, h_13, h_14, h_15]
         obtain ⟨v8, h_16, H⟩ := HS.bnd H
         try simp -implicitDefEqProofs (maxSteps := 999999) [-selQ_sel, h_1, h_2, h_3, h_4, h_5, h_6, h_7, h_8, h_9, h_10, h_11, h_12, h_13, h_14, h_15, h_16]
         refine Hid.selQ (fun h_17 => ?_) (fun h_17 => ?_)
         ·replace H := HS.cnd_t h_17 H
          try simp -implicitDefEqProofs (maxSteps := 999999) [-selQ_sel, h_1, h_2, h_3, h_4, h_5, h_6, h_7, h_8, h_9, h_10, h_11, h_12, h_13, h_14, h_15, h_16, h_17]
          obtain ⟨v9, h_18, H⟩ := HS.bnd H
          try simp -implicitDefEqProofs (maxSteps := 999999) [-selQ_sel, h_1, h_2, h_3, h_4, h_5, h_6, h_7, h_8, h_9, h_10, h_11, h_12, h_13, h_14, h_15, h_16, h_17, h_18]
          refine Hid.brV (fun h_19 => ?_) (fun h_19 => ?_)
          ·replace H := HS.cnd_t h_19 H
           try simp -implicitDefEqProofs (maxSteps := 999999) [-selQ_sel, h_1, h_2, h_3, h_4, h_5, h_6, h_7, h_8, h_9, h_10, h_11, h_12, h_13, h_14, h_15, h_16, h_17, h_18, h_19]
           refine Hid.brV (fun h_20 => ?_) (fun h_20 => ?_)
           ·replace H := HS.cnd_t h_20 H
            try simp -implicitDefEqProofs (maxSteps := 999999) [-selQ_sel, h_1, h_2, h_3, h_4, h_5, h_6, h_7, h_8, h_9, h_10, h_11, h_12, h_13, h_14, h_15, h_16, h_17, h_18, h_19, h_20]
            obtain ⟨v10, h_21, H⟩ := HS.bnd H
            try simp -implicitDefEqProofs (maxSteps := 999999) [-selQ_sel, h_1, h_2, h_3, h_4, h_5, h_6, h_7, h_8, h_9, h_10, h_11, h_12, h_13, h_14, h_15, h_16, h_17, h_18, h_19, h_20, h_21]
            refine Hid.selQ (fun h_22 => ?_) (fun h_22 => ?_)
            ·replace H := HS.cnd_t h_22 H
             try simp -implicitDefEqProofs (maxSteps := 999999) [-selQ_sel, h_1, h_2, h_3, h_4, h_5, h_6, h_7, h_8, h_9, h_10, h_11, h_12, h_13, h_14, h_15, h_16, h_17, h_18, h_19, h_20, h_21, h_22]
             obtain ⟨v11, h_23, H⟩ := HS.bnd H
             try simp -implicitDefEqProofs (maxSteps := 999999) [-selQ_sel, h_1, h_2, h_3, h_4, h_5, h_6, h_7, h_8, h_9, h_10, h_11, h_12, h_13, h_14, h_15, h_16, h_17, h_18, h_19, h_20, h_21, h_22, h_23]
             refine Hid.selQ (fun h_24 => ?_) (fun h_24 => ?_)
             ·replace H := HS.cnd_t h_24 H
              try simp -implicitDefEqProofs (maxSteps := 999999) [-selQ_sel, h_1, h_2, h_3, h_4, h_5, h_6, h_7, h_8, h_9, h_10, h_11, h_12, h_13, h_14, h_15, h_16, h_17, h_18, h_19, h_20, h_21, h_22, h_23, h_24]
              refine Hid.selQ (fun h_25 => ?_) (fun h_25 => ?_)
              ·replace H := HS.cnd_t h_25 H
               try simp -implicitDefEqProofs (maxSteps := 999999) [-selQ_sel, h_1, h_2, h_3, h_4, h_5, h_6, h_7, h_8, h_9, h_10, h_11, h_12, h_13, h_14, h_15, h_16, h_17, h_18, h_19, h_20, h_21, h_22, h_23, h_24, h_25]
               refine Hid.selQ (fun h_26 => ?_) (fun h_26 => ?_)
               ·replace H := HS.cnd_t h_26 H
                try simp -implicitDefEqProofs (maxSteps := 999999) [-selQ_sel, h_1, h_2, h_3, h_4, h_5, h_6, h_7, h_8, h_9, h_10, h_11, h_12, h_13, h_14, h_15, h_16, h_17, h_18, h_19, h_20, h_21, h_22, h_23, h_24, h_25, h_26]
                have hr := (HS.some H).symm; subst hr
                refine Hid.mk ⟨_, Wk.refl _, ?_⟩
                try simp -implicitDefEqProofs (maxSteps := 999999) [-selQ_sel, h_1, h_2, h_3, h_4, h_5, h_6, h_7, h_8, h_9, h_10, h_11, h_12, h_13, h_14, h_15, h_16, h_17, h_18, h_19, h_20, h_21, h_22, h_23, h_24, h_25, h_26]
               ·replace H := HS.cnd_f h_26 H
                try simp -implicitDefEqProofs (maxSteps := 999999) [-selQ_sel, h_1, h_2, h_3, h_4, h_5, h_6, h_7, h_8, h_9, h_10, h_11, h_12, h_13, h_14, h_15, h_16, h_17, h_18, h_19, h_20, h_21, h_22, h_23, h_24, h_25, h_26]
                have hr := (HS.some H).symm; subst hr
                refine Hid.mk ⟨_, Wk.refl _, ?_⟩
                try simp -implicitDefEqProofs (maxSteps := 999999) [-selQ_sel, h_1, h_2, h_3, h_4, h_5, h_6, h_7, h_8, h_9, h_10, h_11, h_12, h_13, h_14, h_15, h_16, h_17, h_18, h_19, h_20, h_21, h_22, h_23, h_24, h_25, h_26]
              ·replace H := HS.cnd_f h_25 H
               try simp -implicitDefEqProofs (maxSteps := 999999) [-selQ_sel, h_1, h_2, h_3, h_4, h_5, h_6, h_7, h_8, h_9, h_10, h_11, h_12, h_13, h_14, h_15, h_16, h_17, h_18, h_19, h_20, h_21, h_22, h_23, h_24, h_25]
               have hr := (HS.some H).symm; subst hr
               refine Hid.mk ⟨_, Wk.refl _, ?_⟩
               try simp -implicitDefEqProofs (maxSteps := 999999) [-selQ_sel, h_1, h_2, h_3, h_4, h_5, h_6, h_7, h_8, h_9, h_10, h_11, h_12, h_13, h_14, h_15, h_16, h_17, h_18, h_19, h_20, h_21, h_22, h_23, h_24, h_25]
             ·replace H := HS.cnd_f h_24 H
              try simp -implicitDefEqProofs (maxSteps := 999999) [-selQ_sel, h_1, h_2, h_3, h_4, h_5, h_6, h_7, h_8, h_9, h_10, h_11, h_12, h_13, h_14, h_15, h_16, h_17, h_18, h_19, h_20, h_21, h_22, h_23, h_24]
              have hr := (HS.some H).symm; subst hr
              refine Hid.mk ⟨_, Wk.refl _, ?_⟩
              try simp -implicitDefEqProofs (maxSteps := 999999) [-selQ_sel, h_1, h_2, h_3, h_4, h_5, h_6, h_7, h_8, h_9, h_10, h_11, h_12, h_13, h_14, h_15, h_16, h_17, h_18, h_19, h_20, h_21, h_22, h_23, h_24]
            ·replace H := HS.cnd_f h_22 H
             try simp -implicitDefEqProofs (maxSteps := 999999) [-selQ_sel, h_1, h_2, h_3, h_4, h_5, h_6, h_7, h_8, h_9, h_10, h_11, h_12, h_13, h_14, h_15, h_16, h_17, h_18, h_19, h_20, h_21, h_22]
             have hr := (HS.some H).symm; subst hr
             refine Hid.mk ⟨_, Wk.refl _, ?_⟩
             try simp -implicitDefEqProofs (maxSteps := 999999) [-selQ_sel, h_1, h_2, h_3, h_4, h_5, h_6, h_7, h_8, h_9, h_10, h_11, h_12, h_13, h_14, h_15, h_16, h_17, h_18, h_19, h_20, h_21, h_22]
           ·replace H := HS.cnd_f h_20 H
            try simp -implicitDefEqProofs (maxSteps := 999999) [-selQ_sel, h_1, h_2, h_3, h_4, h_5, h_6, h_7, h_8, h_9, h_10, h_11, h_12, h_13, h_14, h_15, h_16, h_17, h_18, h_19, h_20]
            obtain ⟨v12, h_27, H⟩ := HS.bnd H
            try simp -implicitDefEqProofs (maxSteps := 999999) [-selQ_sel, h_1, h_2, h_3, h_4, h_5, h_6, h_7, h_8, h_9, h_10, h_11, h_12, h_13, h_14, h_15, h_16, h_17, h_18, h_19, h_20, h_27]
            have hr := (HS.some H).symm; subst hr
            refine Hid.mk ⟨_, Wk.refl _, ?_⟩
            try simp -implicitDefEqProofs (maxSteps := 999999) [-selQ_sel, h_1, h_2, h_3, h_4, h_5, h_6, h_7, h_8, h_9, h_10, h_11, h_12, h_13, h_14, h_15, h_16, h_17, h_18, h_19, h_20, h_27]
          ·replace H := HS.cnd_f h_19 H
           try simp -implicitDefEqProofs (maxSteps := 999999) [-selQ_sel, h_1, h_2, h_3, h_4, h_5, h_6, h_7, h_8, h_9, h_10, h_11, h_12, h_13, h_14, h_15, h_16, h_17, h_18, h_19]
           have hr := (HS.some H).symm; subst hr
           refine Hid.mk ⟨_, Wk.refl _, ?_⟩
           try simp -implicitDefEqProofs (maxSteps := 999999) [-selQ_sel, h_1, h_2, h_3, h_4, h_5, h_6, h_7, h_8, h_9, h_10, h_11, h_12, h_13, h_14, h_15, h_16, h_17, h_18, h_19]
         ·replace H := HS.cnd_f h_17 H
          try simp -implicitDefEqProofs (maxSteps := 999999) [-selQ_sel, h_1, h_2, h_3, h_4, h_5, h_6, h_7, h_8, h_9, h_10, h_11, h_12, h_13, h_14, h_15, h_16, h_17]
          have hr := (HS.some H).symm; subst hr
          refine Hid.mk ⟨_, Wk.refl _, ?_⟩
          try simp -implicitDefEqProofs (maxSteps := 999999) [-selQ_sel, h_1, h_2, h_3, h_4, h_5, h_6, h_7, h_8, h_9, h_10, h_11, h_12, h_13, h_14, h_15, h_16, h_17]
        ·replace H := HS.cnd_f h_15 H
         try simp -implicitDefEqProofs (maxSteps := 999999) [-selQ_sel, h_1, h_2, h_3, h_4, h_5, h_6, h_7, h_8, h_9, h_10, h_11, h_12, h_13, h_14, h_15]
         have hr := (HS.some H).symm; subst hr
         refine Hid.mk ⟨_, Wk.refl _, ?_⟩
         try simp -implicitDefEqProofs (maxSteps := 999999) [-selQ_sel, h_1, h_2, h_3, h_4, h_5, h_6, h_7, h_8, h_9, h_10, h_11, h_12, h_13, h_14, h_15]
       ·replace H := HS.cnd_f h_13 H
        try simp -implicitDefEqProofs (maxSteps := 999999) [-selQ_sel, h_1, h_2, h_3, h_4, h_5, h_6, h_7, h_8, h_9, h_10, h_11, h_12, h_13]
        have hr := (HS.some H).symm; subst hr
        refine Hid.mk ⟨_, Wk.refl _, ?_⟩
        try simp -implicitDefEqProofs (maxSteps := 999999) [-selQ_sel, h_1, h_2, h_3, h_4, h_5, h_6, h_7, h_8, h_9, h_10, h_11, h_12, h_13]
      ·replace H := HS.cnd_f h_11 H
       try simp -implicitDefEqProofs (maxSteps := 999999) [-selQ_sel, h_1, h_2, h_3, h_4, h_5, h_6, h_7, h_8, h_9, h_10, h_11]
       have hr := (HS.some H).symm; subst hr
       refine Hid.mk ⟨_, Wk.refl _, ?_⟩
       try simp -implicitDefEqProofs (maxSteps := 999999) [-selQ_sel, h_1, h_2, h_3, h_4, h_5, h_6, h_7, h_8, h_9, h_10, h_11]
     ·replace H := HS.cnd_f h_9 H
      try simp -implicitDefEqProofs (maxSteps := 999999) [-selQ_sel, h_1, h_2, h_3, h_4, h_5, h_6, h_7, h_8, h_9]
      have hr := (HS.some H).symm; subst hr
      refine Hid.mk ⟨_, Wk.refl _, ?_⟩
      try simp -implicitDefEqProofs (maxSteps := 999999) [-selQ_sel, h_1, h_2, h_3, h_4, h_5, h_6, h_7, h_8, h_9]
    ·replace H := HS.cnd_f h_7 H
     try simp -implicitDefEqProofs (maxSteps := 999999) [-selQ_sel, h_1, h_2, h_3, h_4, h_5, h_6, h_7]
     have hr := (HS.some H).symm; subst hr
     refine Hid.mk ⟨_, Wk.refl _, ?_⟩
     try simp -implicitDefEqProofs (maxSteps := 999999) [-selQ_sel, h_1, h_2, h_3, h_4, h_5, h_6, h_7]
  ·replace H := HS.cnd_f h_4 H
   try simp -implicitDefEqProofs (maxSteps := 999999) [-selQ_sel, h_1, h_2, h_3, h_4]
   have hr := (HS.some H).symm; subst hr
   refine Hid.mk ⟨_, Wk.refl _, ?_⟩
   try simp -implicitDefEqProofs (maxSteps := 999999) [-selQ_sel, h_1, h_2, h_3, h_4]
 ·replace H := HS.cnd_f h_2 H
  try simp -implicitDefEqProofs (maxSteps := 999999) [-selQ_sel, h_1, h_2]
  have hr := (HS.some H).symm; subst hr
  refine Hid.mk ⟨_, Wk.refl _, ?_⟩
  try simp -implicitDefEqProofs (maxSteps := 999999) [-selQ_sel, h_1, h_2]
theorem spec_PathOk_ok0 (hm : Try.prog.follows .mixedOrders = true) (k_spec_NeedOf : Sound Try.prog 124 spec_NeedOf_x) (k_spec_PointOk : Sound Try.prog 125 spec_PointOk_x) : Sound Try.prog 99 spec_PathOk_x := by
 refine xOf_sound fun q r h => ?_
 revert h; revert r; revert q; intro a0 r h
 refine fn_ok E0 hm Try.func99 rfl (by decide +kernel) (by rfl) fun Γ hn hk => ?_
 dsimp only [spec_PathOk_e, spec_PathOk_v]
 replace hn : Γ.n = 75 := hn
 replace hk : Γ.k = 0 := hk
 have H : HS (spec_PathOk a0) r := h
 clear h; unfold spec_PathOk at H
 try simp -implicitDefEqProofs at H
 refine Tr.of_vc (cl := tabC [(124, spec_NeedOf_x), (125, spec_PointOk_x)]) (E := E0) [] (tab_cons k_spec_NeedOf (tab_cons k_spec_PointOk tab_nil)) hm (by rw [hn]; decide +kernel) ?_
 try simp -implicitDefEqProofs (maxSteps := 999999) [-selQ_sel]
 refine Hid.selQ (fun h_1 => ?_) (fun h_1 => ?_)
 ·replace H := HS.cnd_t h_1 H
  try simp -implicitDefEqProofs (maxSteps := 999999) [-selQ_sel, h_1]
  refine Hid.brV (fun h_2 => ?_) (fun h_2 => ?_)
  ·replace H := HS.cnd_t h_2 H
   try simp -implicitDefEqProofs (maxSteps := 999999) [-selQ_sel, h_1, h_2]
   obtain ⟨q, h_3, H⟩ := HS.bnd H
   refine Hid.mk (Tr.weak (s' := (spec_PathOk_l0_S a0) (0, 0)) (Wk.ofk [0] hk (by rfl) (by simp -implicitDefEqProofs [spec_PathOk_l0_S, h_1, h_2]) (by simp -implicitDefEqProofs [spec_PathOk_l0_S, h_1, h_2])) ?_)
   refine wp_loop_of (S := (spec_PathOk_l0_S a0)) (f := (spec_PathOk_l0 a0)) (xt := (spec_PathOk_l0_X a0)) ?_ ?_ h_3 ?_
   ·intro q; rcases q with y8 | ⟨⟩ <;> simp [spec_PathOk_l0_X]
   ·clear H h_3 q
    rintro ⟨x3, x4⟩ o R hf hR
    have H : HS (spec_PathOk_l0 a0 (x3, x4)) o := hf
    clear hf; unfold spec_PathOk_l0 at H
    try simp -implicitDefEqProofs at H
    refine Tr.of_vc (cl := tabC [(124, spec_NeedOf_x), (125, spec_PointOk_x)]) (E := E0) [] (tab_cons k_spec_NeedOf (tab_cons k_spec_PointOk tab_nil)) hm (by rw [hn]; decide +kernel) ?_
    try simp -implicitDefEqProofs (maxSteps := 999999) [-selQ_sel, spec_PathOk_l0_S]
    refine Hid.brV (fun h_4 => ?_) (fun h_4 => ?_)
    ·replace H := HS.cnd_t h_4 H
     try simp -implicitDefEqProofs (maxSteps := 999999) [-selQ_sel, h_4]
     have hr := (HS.some H).symm; subst hr
     exact Hid.mk ⟨(spec_PathOk_l0_X a0 (.inl x3)).2, Wk.ofk [0] hk (by rfl) (by simp -implicitDefEqProofs [spec_PathOk_l0_X, h_4]) (by simp -implicitDefEqProofs [spec_PathOk_l0_X, h_4]), hR⟩
    ·replace H := HS.cnd_f h_4 H
     try simp -implicitDefEqProofs (maxSteps := 999999) [-selQ_sel, h_4]
     obtain ⟨v5, h_5, H⟩ := HS.bnd H
     try simp -implicitDefEqProofs (maxSteps := 999999) [-selQ_sel, h_4, h_5]
     obtain ⟨v6, h_6, H⟩ := HS.bnd H
     try simp -implicitDefEqProofs (maxSteps := 999999) [-selQ_sel, h_4, h_5, h_6]
     refine Hid.selQ (fun h_7 => ?_) (fun h_7 => ?_)
     ·replace H := HS.cnd_t h_7 H
      try simp -implicitDefEqProofs (maxSteps := 999999) [-selQ_sel, h_4, h_5, h_6, h_7]
      refine Hid.selQ (fun h_8 => ?_) (fun h_8 => ?_)
      ·replace H := HS.cnd_t h_8 H
       try simp -implicitDefEqProofs (maxSteps := 999999) [-selQ_sel, h_4, h_5, h_6, h_7, h_8]
       refine Hid.brV (fun h_9 => ?_) (fun h_9 => ?_)
       ·replace H := HS.cnd_t h_9 H
        try simp -implicitDefEqProofs (maxSteps := 999999) [-selQ_sel, h_4, h_5, h_6, h_7, h_8, h_9]
        have hr := (HS.some H).symm; subst hr
        exact Hid.mk ⟨spec_PathOk_l0_S a0 ((IntKind.i64.wrap (x3 + v6)), (IntKind.i64.wrap (x4 + 1))), Wk.ofk [0] hk (by rfl) (by simp -implicitDefEqProofs [spec_PathOk_l0_S, h_4, h_5, h_6, h_7, h_8, h_9]) (by simp -implicitDefEqProofs [spec_PathOk_l0_S, h_4, h_5, h_6, h_7, h_8, h_9]), hR⟩
       ·replace H := HS.cnd_f h_9 H
        try simp -implicitDefEqProofs (maxSteps := 999999) [-selQ_sel, h_4, h_5, h_6, h_7, h_8, h_9]
        have hr := (HS.some H).symm; subst hr
        exact Hid.mk ⟨(spec_PathOk_l0_X a0 (.inr ())).2, Wk.ofk [] hk (by rfl) (by simp -implicitDefEqProofs [spec_PathOk_l0_X, h_4, h_5, h_6, h_7, h_8, h_9]) (by simp -implicitDefEqProofs [spec_PathOk_l0_X, h_4, h_5, h_6, h_7, h_8, h_9]), hR⟩
      ·replace H := HS.cnd_f h_8 H
       try simp -implicitDefEqProofs (maxSteps := 999999) [-selQ_sel, h_4, h_5, h_6, h_7, h_8]
       obtain ⟨v7, h_10, H⟩ := HS.bnd H
       try simp -implicitDefEqProofs (maxSteps := 999999) [-selQ_sel, h_4, h_5, h_6, h_7, h_8, h_10]
       refine Hid.selQ (fun h_11 => ?_) (fun h_11 => ?_)
       ·replace H := HS.cnd_t h_11 H
        try simp -implicitDefEqProofs (maxSteps := 999999) [-selQ_sel, h_4, h_5, h_6, h_7, h_8, h_10, h_11]
        refine Hid.brV (fun h_12 => ?_) (fun h_12 => ?_)
        ·replace H := HS.cnd_t h_12 H
         try simp -implicitDefEqProofs (maxSteps := 999999) [-selQ_sel, h_4, h_5, h_6, h_7, h_8, h_10, h_11, h_12]
         have hr := (HS.some H).symm; subst hr
         exact Hid.mk ⟨spec_PathOk_l0_S a0 ((IntKind.i64.wrap (x3 + v6)), (IntKind.i64.wrap (x4 + 1))), Wk.ofk [0] hk (by rfl) (by simp -implicitDefEqProofs [spec_PathOk_l0_S, h_4, h_5, h_6, h_7, h_8, h_10, h_11, h_12]) (by simp -implicitDefEqProofs [spec_PathOk_l0_S, h_4, h_5, h_6, h_7, h_8, h_10, h_11, h_12]), hR⟩
        ·replace H := HS.cnd_f h_12 H
         try simp -implicitDefEqProofs (maxSteps := 999999) [-selQ_sel, h_4, h_5, h_6, h_7, h_8, h_10, h_11, h_12]
         have hr := (HS.some H).symm; subst hr
         exact Hid.mk ⟨(spec_PathOk_l0_X a0 (.inr ())).2, Wk.ofk [] hk (by rfl) (by simp -implicitDefEqProofs [spec_PathOk_l0_X, h_4, h_5, h_6, h_7, h_8, h_10, h_11, h_12]) (by simp -implicitDefEqProofs [spec_PathOk_l0_X, h_4, h_5, h_6, h_7, h_8, h_10, h_11, h_12]), hR⟩
       ·replace H := HS.cnd_f h_11 H
        try simp -implicitDefEqProofs (maxSteps := 999999) [-selQ_sel, h_4, h_5, h_6, h_7, h_8, h_10, h_11]
        have hr := (HS.some H).symm; subst hr
        exact Hid.mk ⟨spec_PathOk_l0_S a0 ((IntKind.i64.wrap (x3 + v6)), (IntKind.i64.wrap (x4 + 1))), Wk.ofk [0] hk (by rfl) (by simp -implicitDefEqProofs [spec_PathOk_l0_S, h_4, h_5, h_6, h_7, h_8, h_10, h_11]) (by simp -implicitDefEqProofs [spec_PathOk_l0_S, h_4, h_5, h_6, h_7, h_8, h_10, h_11]), hR⟩
     ·replace H := HS.cnd_f h_7 H
      try simp -implicitDefEqProofs (maxSteps := 999999) [-selQ_sel, h_4, h_5, h_6, h_7]
      have hr := (HS.some H).symm; subst hr
      exact Hid.mk ⟨(spec_PathOk_l0_X a0 (.inr ())).2, Wk.ofk [] hk (by rfl) (by simp -implicitDefEqProofs [spec_PathOk_l0_X, h_4, h_5, h_6, h_7]) (by simp -implicitDefEqProofs [spec_PathOk_l0_X, h_4, h_5, h_6, h_7]), hR⟩
   ·rcases q with y8 | ⟨⟩
    ·dsimp only at H
     try simp -implicitDefEqProofs (maxSteps := 999999) [-selQ_sel, h_1, h_2, spec_PathOk_l0_X]
     obtain ⟨q, h_13, H⟩ := HS.bnd H
     refine Hid.mk (Tr.weak (s' := (spec_PathOk_l1_S a0 y8) 0) (Wk.ofk [0] hk (by rfl) (by simp -implicitDefEqProofs [spec_PathOk_l1_S, h_1, h_2]) (by simp -implicitDefEqProofs [spec_PathOk_l1_S, h_1, h_2])) ?_)
     refine wp_loop_of (S := (spec_PathOk_l1_S a0 y8)) (f := (spec_PathOk_l1 a0 y8)) (xt := (spec_PathOk_l1_X a0 y8)) ?_ ?_ h_13 ?_
     ·intro q; rcases q with ⟨⟩ | ⟨⟩ <;> simp [spec_PathOk_l1_X]
     ·clear H h_13 q
      rintro x11 o R hf hR
      have H : HS (spec_PathOk_l1 a0 y8 x11) o := hf
      clear hf; unfold spec_PathOk_l1 at H
      try simp -implicitDefEqProofs at H
      refine Tr.of_vc (cl := tabC [(124, spec_NeedOf_x), (125, spec_PointOk_x)]) (E := E0) [] (tab_cons k_spec_NeedOf (tab_cons k_spec_PointOk tab_nil)) hm (by rw [hn]; decide +kernel) ?_
      try simp -implicitDefEqProofs (maxSteps := 999999) [-selQ_sel, spec_PathOk_l1_S]
      refine Hid.brV (fun h_14 => ?_) (fun h_14 => ?_)
      ·replace H := HS.cnd_t h_14 H
       try simp -implicitDefEqProofs (maxSteps := 999999) [-selQ_sel, h_14]
       have hr := (HS.some H).symm; subst hr
       exact Hid.mk ⟨(spec_PathOk_l1_X a0 y8 (.inl ())).2, Wk.ofk [0] hk (by rfl) (by simp -implicitDefEqProofs [spec_PathOk_l1_X, h_14]) (by simp -implicitDefEqProofs [spec_PathOk_l1_X, h_14]), hR⟩
      ·replace H := HS.cnd_f h_14 H
       try simp -implicitDefEqProofs (maxSteps := 999999) [-selQ_sel, h_14]
       obtain ⟨v12, h_15, H⟩ := HS.bnd H
       try simp -implicitDefEqProofs (maxSteps := 999999) [-selQ_sel, h_14, h_15]
       obtain ⟨v13, h_16, H⟩ := HS.bnd H
       try simp -implicitDefEqProofs (maxSteps := 999999) [-selQ_sel, h_14, h_15, h_16]
       refine Hid.brV (fun h_17 => ?_) (fun h_17 => ?_)
       ·replace H := HS.cnd_t h_17 H
        try simp -implicitDefEqProofs (maxSteps := 999999) [-selQ_sel, h_14, h_15, h_16, h_17]
        have hr := (HS.some H).symm; subst hr
        exact Hid.mk ⟨spec_PathOk_l1_S a0 y8 (IntKind.i64.wrap (x11 + 1)), Wk.ofk [0] hk (by rfl) (by simp -implicitDefEqProofs [spec_PathOk_l1_S, h_14, h_15, h_16, h_17]) (by simp -implicitDefEqProofs [spec_PathOk_l1_S, h_14, h_15, h_16, h_17]), hR⟩
       ·replace H := HS.cnd_f h_17 H
        try simp -implicitDefEqProofs (maxSteps := 999999) [-selQ_sel, h_14, h_15, h_16, h_17]
        have hr := (HS.some H).symm; subst hr
        exact Hid.mk ⟨(spec_PathOk_l1_X a0 y8 (.inr ())).2, Wk.ofk [] hk (by rfl) (by simp -implicitDefEqProofs [spec_PathOk_l1_X, h_14, h_15, h_16, h_17]) (by simp -implicitDefEqProofs [spec_PathOk_l1_X, h_14, h_15, h_16, h_17]), hR⟩
     ·rcases q with ⟨⟩ | ⟨⟩
      ·dsimp only at H
       try simp -implicitDefEqProofs (maxSteps := 999999) [-selQ_sel, h_1, h_2, spec_PathOk_l1_X]
       have hr := (HS.some H).symm; subst hr
       refine Hid.mk ⟨_, Wk.refl _, ?_⟩
       try simp -implicitDefEqProofs (maxSteps := 999999) [-selQ_sel, h_1, h_2]
      ·dsimp only at H
       try simp -implicitDefEqProofs (maxSteps := 999999) [-selQ_sel, h_1, h_2, spec_PathOk_l1_X]
       have hr := (HS.some H).symm; subst hr
       refine Hid.mk ⟨_, Wk.refl _, ?_⟩
       try simp -implicitDefEqProofs (maxSteps := 999999) [-selQ_sel, h_1, h_2]
    ·dsimp only at H
     try simp -implicitDefEqProofs (maxSteps := 999999) [-selQ_sel, h_1, h_2, spec_PathOk_l0_X]
     have hr := (HS.some H).symm; subst hr
     refine Hid.mk ⟨_, Wk.refl _, ?_⟩
     try simp -implicitDefEqProofs (maxSteps := 999999) [-selQ_sel, h_1, h_2]
  ·replace H := HS.cnd_f h_2 H
   try simp -implicitDefEqProofs (maxSteps := 999999) [-selQ_sel, h_1, h_2]
   have hr := (HS.some H).symm; subst hr
   refine Hid.mk ⟨_, Wk.refl _, ?_⟩
   try simp -implicitDefEqProofs (maxSteps := 999999) [-selQ_sel, h_1, h_2]
 ·replace H := HS.cnd_f h_1 H
  try simp -implicitDefEqProofs (maxSteps := 999999) [-selQ_sel, h_1]
  have hr := (HS.some H).symm; subst hr
  refine Hid.mk ⟨_, Wk.refl _, ?_⟩
  try simp -implicitDefEqProofs (maxSteps := 999999) [-selQ_sel, h_1]
theorem impl_PathOk_ok0 (hm : Try.prog.follows .mixedOrders = true) (k_impl_pointsOk : Sound Try.prog 120 impl_pointsOk_x) (k_impl_NeedOf : Sound Try.prog 121 impl_NeedOf_x) : Sound Try.prog 90 impl_PathOk_x := by
 refine xOf_sound fun q r h => ?_
 revert h; revert r; revert q; intro a0 r h
 refine fn_ok E0 hm Try.func90 rfl (by decide +kernel) (by rfl) fun Γ hn hk => ?_
 dsimp only [impl_PathOk_e, impl_PathOk_v]
 replace hn : Γ.n = 63 := hn
 replace hk : Γ.k = 0 := hk
 have H : HS (impl_PathOk a0) r := h
 clear h; unfold impl_PathOk at H
 try simp -implicitDefEqProofs at H
 refine Tr.of_vc (cl := tabC [(120, impl_pointsOk_x), (121, impl_NeedOf_x)]) (E := E0) [] (tab_cons k_impl_pointsOk (tab_cons k_impl_NeedOf tab_nil)) hm (by rw [hn]; decide +kernel) ?_
 try simp -implicitDefEqProofs (maxSteps := 999999) [-selQ_sel]
 refine Hid.selQ (fun h_1 => ?_) (fun h_1 => ?_)
 ·replace H := HS.cnd_t h_1 H
  try simp -implicitDefEqProofs (maxSteps := 999999) [-selQ_sel, h_1]
  refine Hid.selQ (fun h_2 => ?_) (fun h_2 => ?_)
  ·replace H := HS.cnd_t h_2 H
   try simp -implicitDefEqProofs (maxSteps := 999999) [-selQ_sel, h_1, h_2]
   obtain ⟨v1, h_3, H⟩ := HS.bnd H
   try simp -implicitDefEqProofs (maxSteps := 999999) [-selQ_sel, h_1, h_2, h_3]
   refine Hid.brV (fun h_4 => ?_) (fun h_4 => ?_)
   ·replace H := HS.cnd_t h_4 H
    try simp -implicitDefEqProofs (maxSteps := 999999) [-selQ_sel, h_1, h_2, h_3, h_4]
    obtain ⟨q, h_5, H⟩ := HS.bnd H
    refine Hid.mk (Tr.weak (s' := (impl_PathOk_l0_S a0) (0, 0)) (Wk.ofk [0] hk (by rfl) (by simp -implicitDefEqProofs [impl_PathOk_l0_S, h_1, h_2, h_3, h_4]) (by simp -implicitDefEqProofs [impl_PathOk_l0_S, h_1, h_2, h_3, h_4])) ?_)
    refine wp_loop_of (S := (impl_PathOk_l0_S a0)) (f := (impl_PathOk_l0 a0)) (xt := (impl_PathOk_l0_X a0)) ?_ ?_ h_5 ?_
    ·intro q; rcases q with y9 | ⟨⟩ <;> simp [impl_PathOk_l0_X]
    ·clear H h_5 q
     rintro ⟨x4, x5⟩ o R hf hR
     have H : HS (impl_PathOk_l0 a0 (x4, x5)) o := hf
     clear hf; unfold impl_PathOk_l0 at H
     try simp -implicitDefEqProofs at H
     refine Tr.of_vc (cl := tabC [(120, impl_pointsOk_x), (121, impl_NeedOf_x)]) (E := E0) [] (tab_cons k_impl_pointsOk (tab_cons k_impl_NeedOf tab_nil)) hm (by rw [hn]; decide +kernel) ?_
     try simp -implicitDefEqProofs (maxSteps := 999999) [-selQ_sel, impl_PathOk_l0_S]
     refine Hid.brV (fun h_6 => ?_) (fun h_6 => ?_)
     ·replace H := HS.cnd_t h_6 H
      try simp -implicitDefEqProofs (maxSteps := 999999) [-selQ_sel, h_6]
      have hr := (HS.some H).symm; subst hr
      exact Hid.mk ⟨(impl_PathOk_l0_X a0 (.inl x4)).2, Wk.ofk [0] hk (by rfl) (by simp -implicitDefEqProofs [impl_PathOk_l0_X, h_6]) (by simp -implicitDefEqProofs [impl_PathOk_l0_X, h_6]), hR⟩
     ·replace H := HS.cnd_f h_6 H
      try simp -implicitDefEqProofs (maxSteps := 999999) [-selQ_sel, h_6]
      obtain ⟨v6, h_7, H⟩ := HS.bnd H
      try simp -implicitDefEqProofs (maxSteps := 999999) [-selQ_sel, h_6, h_7]
      obtain ⟨v7, h_8, H⟩ := HS.bnd H
      try simp -implicitDefEqProofs (maxSteps := 999999) [-selQ_sel, h_6, h_7, h_8]
      refine Hid.selQ (fun h_9 => ?_) (fun h_9 => ?_)
      ·replace H := HS.cnd_t h_9 H
       try simp -implicitDefEqProofs (maxSteps := 999999) [-selQ_sel, h_6, h_7, h_8, h_9]
       refine Hid.selQ (fun h_10 => ?_) (fun h_10 => ?_)
       ·replace H := HS.cnd_t h_10 H
        try simp -implicitDefEqProofs (maxSteps := 999999) [-selQ_sel, h_6, h_7, h_8, h_9, h_10]
        refine Hid.brV (fun h_11 => ?_) (fun h_11 => ?_)
        ·replace H := HS.cnd_t h_11 H
         try simp -implicitDefEqProofs (maxSteps := 999999) [-selQ_sel, h_6, h_7, h_8, h_9, h_10, h_11]
         have hr := (HS.some H).symm; subst hr
         exact Hid.mk ⟨impl_PathOk_l0_S a0 ((IntKind.i64.wrap (x4 + v7)), (IntKind.i64.wrap (x5 + 1))), Wk.ofk [0] hk (by rfl) (by simp -implicitDefEqProofs [impl_PathOk_l0_S, h_6, h_7, h_8, h_9, h_10, h_11]) (by simp -implicitDefEqProofs [impl_PathOk_l0_S, h_6, h_7, h_8, h_9, h_10, h_11]), hR⟩
        ·replace H := HS.cnd_f h_11 H
         try simp -implicitDefEqProofs (maxSteps := 999999) [-selQ_sel, h_6, h_7, h_8, h_9, h_10, h_11]
         have hr := (HS.some H).symm; subst hr
         exact Hid.mk ⟨(impl_PathOk_l0_X a0 (.inr ())).2, Wk.ofk [] hk (by rfl) (by simp -implicitDefEqProofs [impl_PathOk_l0_X, h_6, h_7, h_8, h_9, h_10, h_11]) (by simp -implicitDefEqProofs [impl_PathOk_l0_X, h_6, h_7, h_8, h_9, h_10, h_11]), hR⟩
       ·replace H := HS.cnd_f h_10 H
        try simp -implicitDefEqProofs (maxSteps := 999999) [-selQ_sel, h_6, h_7, h_8, h_9, h_10]
        have hr := (HS.some H).symm; subst hr
        exact Hid.mk ⟨(impl_PathOk_l0_X a0 (.inr ())).2, Wk.ofk [] hk (by rfl) (by simp -implicitDefEqProofs [impl_PathOk_l0_X, h_6, h_7, h_8, h_9, h_10]) (by simp -implicitDefEqProofs [impl_PathOk_l0_X, h_6, h_7, h_8, h_9, h_10]), hR⟩
      ·replace H := HS.cnd_f h_9 H
       try simp -implicitDefEqProofs (maxSteps := 999999) [-selQ_sel, h_6, h_7, h_8, h_9]
       obtain ⟨v8, h_12, H⟩ := HS.bnd H
       try simp -implicitDefEqProofs (maxSteps := 999999) [-selQ_sel, h_6, h_7, h_8, h_9, h_12]
       refine Hid.selQ (fun h_13 => ?_) (fun h_13 => ?_)
       ·replace H := HS.cnd_t h_13 H
        try simp -implicitDefEqProofs (maxSteps := 999999) [-selQ_sel, h_6, h_7, h_8, h_9, h_12, h_13]
        refine Hid.selQ (fun h_14 => ?_) (fun h_14 => ?_)
        ·replace H := HS.cnd_t h_14 H
         try simp -implicitDefEqProofs (maxSteps := 999999) [-selQ_sel, h_6, h_7, h_8, h_9, h_12, h_13, h_14]
         refine Hid.brV (fun h_15 => ?_) (fun h_15 => ?_)
         ·replace H := HS.cnd_t h_15 H
          try simp -implicitDefEqProofs (maxSteps := 999999) [-selQ_sel, h_6, h_7, h_8, h_9, h_12, h_13, h_14, h_15]
          have hr := (HS.some H).symm; subst hr
          exact Hid.mk ⟨impl_PathOk_l0_S a0 ((IntKind.i64.wrap (x4 + v7)), (IntKind.i64.wrap (x5 + 1))), Wk.ofk [0] hk (by rfl) (by simp -implicitDefEqProofs [impl_PathOk_l0_S, h_6, h_7, h_8, h_9, h_12, h_13, h_14, h_15]) (by simp -implicitDefEqProofs [impl_PathOk_l0_S, h_6, h_7, h_8, h_9, h_12, h_13, h_14, h_15]), hR⟩
         ·replace H := HS.cnd_f h_15 H
          try simp -implicitDefEqProofs (maxSteps := 999999) [-selQ_sel, h_6, h_7, h_8, h_9, h_12, h_13, h_14, h_15]
          have hr := (HS.some H).symm; subst hr
          exact Hid.mk ⟨(impl_PathOk_l0_X a0 (.inr ())).2, Wk.ofk [] hk (by rfl) (by simp -implicitDefEqProofs [impl_PathOk_l0_X, h_6, h_7, h_8, h_9, h_12, h_13, h_14, h_15]) (by simp -implicitDefEqProofs [impl_PathOk_l0_X, h_6, h_7, h_8, h_9, h_12, h_13, h_14, h_15]), hR⟩
        ·replace H := HS.cnd_f h_14 H
         try simp -implicitDefEqProofs (maxSteps := 999999) [-selQ_sel, h_6, h_7, h_8, h_9, h_12, h_13, h_14]
         have hr := (HS.some H).symm; subst hr
         exact Hid.mk ⟨impl_PathOk_l0_S a0 ((IntKind.i64.wrap (x4 + v7)), (IntKind.i64.wrap (x5 + 1))), Wk.ofk [0] hk (by rfl) (by simp -implicitDefEqProofs [impl_PathOk_l0_S, h_6, h_7, h_8, h_9, h_12, h_13, h_14]) (by simp -implicitDefEqProofs [impl_PathOk_l0_S, h_6, h_7, h_8, h_9, h_12, h_13, h_14]), hR⟩
       ·replace H := HS.cnd_f h_13 H
        try simp -implicitDefEqProofs (maxSteps := 999999) [-selQ_sel, h_6, h_7, h_8, h_9, h_12, h_13]
        have hr := (HS.some H).symm; subst hr
        exact Hid.mk ⟨(impl_PathOk_l0_X a0 (.inr ())).2, Wk.ofk [] hk (by rfl) (by simp -implicitDefEqProofs [impl_PathOk_l0_X, h_6, h_7, h_8, h_9, h_12, h_13]) (by simp -implicitDefEqProofs [impl_PathOk_l0_X, h_6, h_7, h_8, h_9, h_12, h_13]), hR⟩
    ·rcases q with y9 | ⟨⟩
     ·dsimp only at H
      try simp -implicitDefEqProofs (maxSteps := 999999) [-selQ_sel, h_1, h_2, h_3, h_4, impl_PathOk_l0_X]
      have hr := (HS.some H).symm; subst hr
      refine Hid.mk ⟨_, Wk.refl _, ?_⟩
      try simp -implicitDefEqProofs (maxSteps := 999999) [-selQ_sel, h_1, h_2, h_3, h_4]
     ·dsimp only at H
      try simp -implicitDefEqProofs (maxSteps := 999999) [-selQ_sel, h_1, h_2, h_3, h_4, impl_PathOk_l0_X]
      have hr := (HS.some H).symm; subst hr
      refine Hid.mk ⟨_, Wk.refl _, ?_⟩
      try simp -implicitDefEqProofs (maxSteps := 999999) [-selQ_sel, h_1, h_2, h_3, h_4]
   ·replace H := HS.cnd_f h_4 H
    try simp -implicitDefEqProofs (maxSteps := 999999) [-selQ_sel, h_1, h_2, h_3, h_4]
    have hr := (HS.some H).symm; subst hr
    refine Hid.mk ⟨_, Wk.refl _, ?_⟩
    try simp -implicitDefEqProofs (maxSteps := 999999) [-selQ_sel, h_1, h_2, h_3, h_4]
  ·replace H := HS.cnd_f h_2 H
   try simp -implicitDefEqProofs (maxSteps := 999999) [-selQ_sel, h_1, h_2]
   have hr := (HS.some H).symm; subst hr
   refine Hid.mk ⟨_, Wk.refl _, ?_⟩
   try simp -implicitDefEqProofs (maxSteps := 999999) [-selQ_sel, h_1, h_2]
 ·replace H := HS.cnd_f h_1 H
  try simp -implicitDefEqProofs (maxSteps := 999999) [-selQ_sel, h_1]
  have hr := (HS.some H).symm; subst hr
  refine Hid.mk ⟨_, Wk.refl _, ?_⟩
  try simp -implicitDefEqProofs (maxSteps := 999999) [-selQ_sel, h_1]
theorem laws_toNodeS_ok0 (hm : Try.prog.follows .mixedOrders = true) (k_laws_toNode : Sound Try.prog 20 laws_toNode_x) : Sound Try.prog 59 laws_toNodeS_x := by
 refine xOf_sound fun q r h => ?_
 revert h; revert r; revert q; intro a0 r h
 refine fn_ok E0 hm Try.func59 rfl (by decide +kernel) (by rfl) fun Γ hn hk => ?_
 dsimp only [laws_toNodeS_e, laws_toNodeS_v]
 replace hn : Γ.n = 23 := hn
 replace hk : Γ.k = 0 := hk
 have H : HS (laws_toNodeS a0) r := h
 clear h; unfold laws_toNodeS at H
 try simp -implicitDefEqProofs at H
 refine Tr.of_vc (cl := tabC [(20, laws_toNode_x)]) (E := E0) [] (tab_cons k_laws_toNode tab_nil) hm (by rw [hn]; decide +kernel) ?_
 try simp -implicitDefEqProofs (maxSteps := 999999) [-selQ_sel]
 obtain ⟨h_1, H⟩ := HS.chkP H
 try simp -implicitDefEqProofs (maxSteps := 999999) [-selQ_sel, h_1]
 obtain ⟨l1, h_2, H⟩ := HS.nam H
 have m_3 := congrArg (List.map eNode) h_2
 have q_4 := congrArg List.length h_2
 simp -implicitDefEqProofs at m_3 q_4
 try simp only [q_4] at m_3
 try simp only [q_4] at h_1
 try simp -implicitDefEqProofs (maxSteps := 999999) [-selQ_sel, h_1, m_3, q_4]
 obtain ⟨q, h_5, H⟩ := HS.bnd H
 refine Hid.mk (Tr.weak (s' := (laws_toNodeS_l0_S a0) (0, l1)) (Wk.ofk [0] hk (by rfl) (by simp -implicitDefEqProofs [laws_toNodeS_l0_S, h_1, m_3, q_4]) (by simp -implicitDefEqProofs [laws_toNodeS_l0_S, h_1, m_3, q_4])) ?_)
 refine wp_loop_of (S := (laws_toNodeS_l0_S a0)) (f := (laws_toNodeS_l0 a0)) (xt := (laws_toNodeS_l0_X a0)) ?_ ?_ h_5 ?_
 ·intro q; simp [laws_toNodeS_l0_X]
 ·clear H h_5 q
  rintro ⟨x19, x20⟩ o R hf hR
  have H : HS (laws_toNodeS_l0 a0 (x19, x20)) o := hf
  clear hf; unfold laws_toNodeS_l0 at H
  try simp -implicitDefEqProofs at H
  refine Tr.of_vc (cl := tabC [(20, laws_toNode_x)]) (E := E0) [] (tab_cons k_laws_toNode tab_nil) hm (by rw [hn]; decide +kernel) ?_
  try simp -implicitDefEqProofs (maxSteps := 999999) [-selQ_sel, laws_toNodeS_l0_S]
  refine Hid.brV (fun h_6 => ?_) (fun h_6 => ?_)
  ·replace H := HS.cnd_t h_6 H
   try simp -implicitDefEqProofs (maxSteps := 999999) [-selQ_sel, h_6]
   have hr := (HS.some H).symm; subst hr
   exact Hid.mk ⟨(laws_toNodeS_l0_X a0 x20).2, Wk.ofk [0] hk (by rfl) (by simp -implicitDefEqProofs [laws_toNodeS_l0_X, h_6]) (by simp -implicitDefEqProofs [laws_toNodeS_l0_X, h_6]), hR⟩
  ·replace H := HS.cnd_f h_6 H
   try simp -implicitDefEqProofs (maxSteps := 999999) [-selQ_sel, h_6]
   obtain ⟨v21, h_7, H⟩ := HS.bnd H
   try simp -implicitDefEqProofs (maxSteps := 999999) [-selQ_sel, h_6, h_7]
   obtain ⟨⟨w23, w24, w25, w26, w27, w28, w29, w30, w31, w32, w33, w34, w35, w36⟩, h_8, H⟩ := HS.bnd H
   dsimp only at H
   try simp -implicitDefEqProofs (maxSteps := 999999) [-selQ_sel, h_6, h_7, h_8]
   obtain ⟨v37, h_9, H⟩ := HS.bnd H
   have g_10 := idx_get h_9
   have g_11 := idx_lt h_9
   have g_12 := idx_getE h_9
   try simp -implicitDefEqProofs (maxSteps := 999999) [-selQ_sel, h_6, h_7, h_8, h_9, g_10, g_11, g_12]
   have hr := (HS.some H).symm; subst hr
   exact Hid.mk ⟨laws_toNodeS_l0_S a0 ((IntKind.i64.wrap (x19 + 1)), (List.set x20 (Int.toNat x19) (TNode.mk w23 w24 w25 w26 (TPath.mk w32 w33) w27 w28 w34 w29 w30 w31 (TPath.mk w35 w36)))), Wk.trans (Wk.abs (id := 0) (j := 1) (js := [2, 3, 4, 5]) (by rfl) (by rfl) (by decide) (by simp -implicitDefEqProofs [laws_toNodeS_l0_S, h_6, h_7, h_8, h_9, g_10, g_11, g_12]) (by rfl) (by simp -implicitDefEqProofs [laws_toNodeS_l0_S, h_6, h_7, h_8, h_9, g_10, g_11, g_12]) (by simp -implicitDefEqProofs [laws_toNodeS_l0_S, h_6, h_7, h_8, h_9, g_10, g_11, g_12])) (Wk.trans (Wk.abs (id := 0) (j := 2) (js := [3, 4, 5]) (by rfl) (by rfl) (by decide) (by simp -implicitDefEqProofs [laws_toNodeS_l0_S, h_6, h_7, h_8, h_9, g_10, g_11, g_12]) (by rfl) (by simp -implicitDefEqProofs [laws_toNodeS_l0_S, h_6, h_7, h_8, h_9, g_10, g_11, g_12]) (by simp -implicitDefEqProofs [laws_toNodeS_l0_S, h_6, h_7, h_8, h_9, g_10, g_11, g_12])) (Wk.trans (Wk.abs (id := 0) (j := 3) (js := [4, 5]) (by rfl) (by rfl) (by decide) (by simp -implicitDefEqProofs [laws_toNodeS_l0_S, h_6, h_7, h_8, h_9, g_10, g_11, g_12]) (by rfl) (by simp -implicitDefEqProofs [laws_toNodeS_l0_S, h_6, h_7, h_8, h_9, g_10, g_11, g_12]) (by simp -implicitDefEqProofs [laws_toNodeS_l0_S, h_6, h_7, h_8, h_9, g_10, g_11, g_12])) (Wk.trans (Wk.abs (id := 0) (j := 4) (js := [5]) (by rfl) (by rfl) (by decide) (by simp -implicitDefEqProofs [laws_toNodeS_l0_S, h_6, h_7, h_8, h_9, g_10, g_11, g_12]) (by rfl) (by simp -implicitDefEqProofs [laws_toNodeS_l0_S, h_6, h_7, h_8, h_9, g_10, g_11, g_12]) (by simp -implicitDefEqProofs [laws_toNodeS_l0_S, h_6, h_7, h_8, h_9, g_10, g_11, g_12])) (Wk.trans (Wk.abs (id := 0) (j := 5) (js := []) (by rfl) (by rfl) (by decide) (by simp -implicitDefEqProofs [laws_toNodeS_l0_S, h_6, h_7, h_8, h_9, g_10, g_11, g_12]) (by rfl) (by simp -implicitDefEqProofs [laws_toNodeS_l0_S, h_6, h_7, h_8, h_9, g_10, g_11, g_12]) (by simp -implicitDefEqProofs [laws_toNodeS_l0_S, h_6, h_7, h_8, h_9, g_10, g_11, g_12])) (Wk.ofk [0] hk (by rfl) (by simp -implicitDefEqProofs [laws_toNodeS_l0_S, h_6, h_7, h_8, h_9, g_10, g_11, g_12]) (by simp -implicitDefEqProofs [laws_toNodeS_l0_S, h_6, h_7, h_8, h_9, g_10, g_11, g_12])))))), hR⟩
 ·revert H h_5; revert q; intro y38 h_5 H
  try dsimp only at H
  try simp -implicitDefEqProofs (maxSteps := 999999) [-selQ_sel, h_1, m_3, q_4, laws_toNodeS_l0_X]
  have hr := (HS.some H).symm; subst hr
  refine Hid.mk ⟨⟨[(2, AV.osl 0 0 (List.length y38) (List.length y38))], [(0, Ob.nar 31 (List.map eNode y38) [0, 0, 0, 0, 0, 0, 0, 0, 0, 1, 2, 0, 0, 1, 0, 0, 0, 0, 0, 0, 0, 0, 0, 0, 0, 0, 0, 0, 0, 1, 2])], 1⟩, Wk.ofk [0] hk (by rfl) (by simp -implicitDefEqProofs [h_1, m_3, q_4]) (by simp -implicitDefEqProofs [h_1, m_3, q_4]), ?_⟩
  try simp -implicitDefEqProofs (maxSteps := 999999) [-selQ_sel, h_1, m_3, q_4]
theorem impl_PaintOk_ok0 (hm : Try.prog.follows .mixedOrders = true) (k_impl_ColorOk : Sound Try.prog 122 impl_ColorOk_x) (k_impl_PointOk : Sound Try.prog 123 impl_PointOk_x) : Sound Try.prog 95 impl_PaintOk_x := by
 refine xOf_sound fun q r h => ?_
 revert h; revert r; revert q; intro a0 r h
 refine fn_ok E0 hm Try.func95 rfl (by decide +kernel) (by rfl) fun Γ hn hk => ?_
 dsimp only [impl_PaintOk_e, impl_PaintOk_v]
 replace hn : Γ.n = 44 := hn
 replace hk : Γ.k = 0 := hk
 have H : HS (impl_PaintOk a0) r := h
 clear h; unfold impl_PaintOk at H
 try simp -implicitDefEqProofs at H
 refine Tr.of_vc (cl := tabC [(122, impl_ColorOk_x), (123, impl_PointOk_x)]) (E := E0) [] (tab_cons k_impl_ColorOk (tab_cons k_impl_PointOk tab_nil)) hm (by rw [hn]; decide +kernel) ?_
 try simp -implicitDefEqProofs (maxSteps := 999999) [-selQ_sel]
 refine Hid.brV (fun h_1 => ?_) (fun h_1 => ?_)
 ·replace H := HS.cnd_t h_1 H
  try simp -implicitDefEqProofs (maxSteps := 999999) [-selQ_sel, h_1]
  obtain ⟨v1, h_2, H⟩ := HS.bnd H
  try simp -implicitDefEqProofs (maxSteps := 999999) [-selQ_sel, h_1, h_2]
  refine Hid.selQ (fun h_3 => ?_) (fun h_3 => ?_)
  ·replace H := HS.cnd_t h_3 H
   try simp -implicitDefEqProofs (maxSteps := 999999) [-selQ_sel, h_1, h_2, h_3]
   have hr := (HS.some H).symm; subst hr
   refine Hid.mk ⟨_, Wk.refl _, ?_⟩
   try simp -implicitDefEqProofs (maxSteps := 999999) [-selQ_sel, h_1, h_2, h_3]
  ·replace H := HS.cnd_f h_3 H
   try simp -implicitDefEqProofs (maxSteps := 999999) [-selQ_sel, h_1, h_2, h_3]
   have hr := (HS.some H).symm; subst hr
   refine Hid.mk ⟨_, Wk.refl _, ?_⟩
   try simp -implicitDefEqProofs (maxSteps := 999999) [-selQ_sel, h_1, h_2, h_3]
 ·replace H := HS.cnd_f h_1 H
  try simp -implicitDefEqProofs (maxSteps := 999999) [-selQ_sel, h_1]
  refine Hid.brV (fun h_4 => ?_) (fun h_4 => ?_)
  ·replace H := HS.cnd_t h_4 H
   try simp -implicitDefEqProofs (maxSteps := 999999) [-selQ_sel, h_1, h_4]
   obtain ⟨v2, h_5, H⟩ := HS.bnd H
   try simp -implicitDefEqProofs (maxSteps := 999999) [-selQ_sel, h_1, h_4, h_5]
   refine Hid.selQ (fun h_6 => ?_) (fun h_6 => ?_)
   ·replace H := HS.cnd_t h_6 H
    try simp -implicitDefEqProofs (maxSteps := 999999) [-selQ_sel, h_1, h_4, h_5, h_6]
    obtain ⟨v3, h_7, H⟩ := HS.bnd H
    try simp -implicitDefEqProofs (maxSteps := 999999) [-selQ_sel, h_1, h_4, h_5, h_6, h_7]
    refine Hid.selQ (fun h_8 => ?_) (fun h_8 => ?_)
    ·replace H := HS.cnd_t h_8 H
     try simp -implicitDefEqProofs (maxSteps := 999999) [-selQ_sel, h_1, h_4, h_5, h_6, h_7, h_8]
     obtain ⟨v4, h_9, H⟩ := HS.bnd H
     try simp -implicitDefEqProofs (maxSteps := 999999) [-selQ_sel, h_1, h_4, h_5, h_6, h_7, h_8, h_9]
     refine Hid.selQ (fun h_10 => ?_) (fun h_10 => ?_)
     ·replace H := HS.cnd_t h_10 H
      try simp -implicitDefEqProofs (maxSteps := 999999) [-selQ_sel, h_1, h_4, h_5, h_6, h_7, h_8, h_9, h_10]
      obtain ⟨v5, h_11, H⟩ := HS.bnd H
      try simp -implicitDefEqProofs (maxSteps := 999999) [-selQ_sel, h_1, h_4, h_5, h_6, h_7, h_8, h_9, h_10, h_11]
      refine Hid.selQ (fun h_12 => ?_) (fun h_12 => ?_)
      ·replace H := HS.cnd_t h_12 H
       try simp -implicitDefEqProofs (maxSteps := 999999) [-selQ_sel, h_1, h_4, h_5, h_6, h_7, h_8, h_9, h_10, h_11, h_12]
       have hr := (HS.some H).symm; subst hr
       refine Hid.mk ⟨_, Wk.refl _, ?_⟩
       try simp -implicitDefEqProofs (maxSteps := 999999) [-selQ_sel, h_1, h_4, h_5, h_6, h_7, h_8, h_9, h_10, h_11, h_12]
      ·replace H := HS.cnd_f h_12 H
       try simp -implicitDefEqProofs (maxSteps := 999999) [-selQ_sel, h_1, h_4, h_5, h_6, h_7, h_8, h_9, h_10, h_11, h_12]
       have hr := (HS.some H).symm; subst hr
       refine Hid.mk ⟨_, Wk.refl _, ?_⟩
       try simp -implicitDefEqProofs (maxSteps := 999999) [-selQ_sel, h_1, h_4, h_5, h_6, h_7, h_8, h_9, h_10, h_11, h_12]
     ·replace H := HS.cnd_f h_10 H
      try simp -implicitDefEqProofs (maxSteps := 999999) [-selQ_sel, h_1, h_4, h_5, h_6, h_7, h_8, h_9, h_10]
      have hr := (HS.some H).symm; subst hr
      refine Hid.mk ⟨_, Wk.refl _, ?_⟩
      try simp -implicitDefEqProofs (maxSteps := 999999) [-selQ_sel, h_1, h_4, h_5, h_6, h_7, h_8, h_9, h_10]
    ·replace H := HS.cnd_f h_8 H
     try simp -implicitDefEqProofs (maxSteps := 999999) [-selQ_sel, h_1, h_4, h_5, h_6, h_7, h_8]
     have hr := (HS.some H).symm; subst hr
     refine Hid.mk ⟨_, Wk.refl _, ?_⟩
     try simp -implicitDefEqProofs (maxSteps := 999999) [-selQ_sel, h_1, h_4, h_5, h_6, h_7, h_8]
   ·replace H := HS.cnd_f h_6 H
    try simp -implicitDefEqProofs (maxSteps := 999999) [-selQ_sel, h_1, h_4, h_5, h_6]
    have hr := (HS.some H).symm; subst hr
    refine Hid.mk ⟨_, Wk.refl _, ?_⟩
    try simp -implicitDefEqProofs (maxSteps := 999999) [-selQ_sel, h_1, h_4, h_5, h_6]
  ·replace H := HS.cnd_f h_4 H
   try simp -implicitDefEqProofs (maxSteps := 999999) [-selQ_sel, h_1, h_4]
   have hr := (HS.some H).symm; subst hr
   refine Hid.mk ⟨_, Wk.refl _, ?_⟩
   try simp -implicitDefEqProofs (maxSteps := 999999) [-selQ_sel, h_1, h_4]
theorem impl_DepthOf_ok0 (hm : Try.prog.follows .mixedOrders = true) (k_impl_NodeAt : Sound Try.prog 13 impl_NodeAt_x) : Sound Try.prog 42 impl_DepthOf_x := by
 refine xOf_sound fun q r h => ?_
 obtain ⟨a0, a1⟩ := q
 refine fn_ok E0 hm Try.func42 rfl (by decide +kernel) (by rfl) fun Γ hn hk => ?_
 dsimp only [impl_DepthOf_e, impl_DepthOf_v]
 replace hn : Γ.n = 27 := hn
 replace hk : Γ.k = 0 := hk
 have H : HS (impl_DepthOf a0 a1) r := h
 clear h; unfold impl_DepthOf at H
 try simp -implicitDefEqProofs at H
 refine Tr.of_vc (cl := tabC [(13, impl_NodeAt_x)]) (E := E0) [] (tab_cons k_impl_NodeAt tab_nil) hm (by rw [hn]; decide +kernel) ?_
 try simp -implicitDefEqProofs (maxSteps := 999999) [-selQ_sel]
 refine Hid.brV (fun h_1 => ?_) (fun h_1 => ?_)
 ·replace H := HS.cnd_t h_1 H
  try simp -implicitDefEqProofs (maxSteps := 999999) [-selQ_sel, h_1]
  have hr := (HS.some H).symm; subst hr
  refine Hid.mk ⟨_, Wk.refl _, ?_⟩
  try simp -implicitDefEqProofs (maxSteps := 999999) [-selQ_sel, h_1]
 ·replace H := HS.cnd_f h_1 H
  try simp -implicitDefEqProofs (maxSteps := 999999) [-selQ_sel, h_1]
  obtain ⟨q, h_2, H⟩ := HS.bnd H
  refine Hid.mk (Tr.weak (s' := (impl_DepthOf_l0_S a0) (a1, 1)) (Wk.ofk [0] hk (by rfl) (by simp -implicitDefEqProofs [impl_DepthOf_l0_S, h_1]) (by simp -implicitDefEqProofs [impl_DepthOf_l0_S, h_1])) ?_)
  refine wp_loop_of (S := (impl_DepthOf_l0_S a0)) (f := (impl_DepthOf_l0 a0)) (xt := (impl_DepthOf_l0_X a0)) ?_ ?_ h_2 ?_
  ·intro q; rcases q with y7 | ⟨⟩ <;> simp [impl_DepthOf_l0_X]
  ·clear H h_2 q
   rintro ⟨x3, x4⟩ o R hf hR
   have H : HS (impl_DepthOf_l0 a0 (x3, x4)) o := hf
   clear hf; unfold impl_DepthOf_l0 at H
   try simp -implicitDefEqProofs at H
   refine Tr.of_vc (cl := tabC [(13, impl_NodeAt_x)]) (E := E0) [] (tab_cons k_impl_NodeAt tab_nil) hm (by rw [hn]; decide +kernel) ?_
   try simp -implicitDefEqProofs (maxSteps := 999999) [-selQ_sel, impl_DepthOf_l0_S]
   refine Hid.brV (fun h_3 => ?_) (fun h_3 => ?_)
   ·replace H := HS.cnd_t h_3 H
    try simp -implicitDefEqProofs (maxSteps := 999999) [-selQ_sel, h_3]
    obtain ⟨v5, h_4, H⟩ := HS.bnd H
    try simp -implicitDefEqProofs (maxSteps := 999999) [-selQ_sel, h_3, h_4]
    refine Hid.brV (fun h_5 => ?_) (fun h_5 => ?_)
    ·replace H := HS.cnd_t h_5 H
     try simp -implicitDefEqProofs (maxSteps := 999999) [-selQ_sel, h_3, h_4, h_5]
     obtain ⟨v6, h_6, H⟩ := HS.bnd H
     try simp -implicitDefEqProofs (maxSteps := 999999) [-selQ_sel, h_3, h_4, h_5, h_6]
     refine Hid.brV (fun h_7 => ?_) (fun h_7 => ?_)
     ·replace H := HS.cnd_t h_7 H
      try simp -implicitDefEqProofs (maxSteps := 999999) [-selQ_sel, h_3, h_4, h_5, h_6, h_7]
      have hr := (HS.some H).symm; subst hr
      exact Hid.mk ⟨(impl_DepthOf_l0_X a0 (.inl x4)).2, Wk.ofk [] hk (by rfl) (by simp -implicitDefEqProofs [impl_DepthOf_l0_X, h_3, h_4, h_5, h_6, h_7]) (by simp -implicitDefEqProofs [impl_DepthOf_l0_X, h_3, h_4, h_5, h_6, h_7]), hR⟩
     ·replace H := HS.cnd_f h_7 H
      try simp -implicitDefEqProofs (maxSteps := 999999) [-selQ_sel, h_3, h_4, h_5, h_6, h_7]
      have hr := (HS.some H).symm; subst hr
      exact Hid.mk ⟨impl_DepthOf_l0_S a0 (v6.parent, (IntKind.i64.wrap (x4 + 1))), Wk.ofk [0] hk (by rfl) (by simp -implicitDefEqProofs [impl_DepthOf_l0_S, h_3, h_4, h_5, h_6, h_7]) (by simp -implicitDefEqProofs [impl_DepthOf_l0_S, h_3, h_4, h_5, h_6, h_7]), hR⟩
    ·replace H := HS.cnd_f h_5 H
     try simp -implicitDefEqProofs (maxSteps := 999999) [-selQ_sel, h_3, h_4, h_5]
     have hr := (HS.some H).symm; subst hr
     exact Hid.mk ⟨(impl_DepthOf_l0_X a0 (.inl 0)).2, Wk.ofk [] hk (by rfl) (by simp -implicitDefEqProofs [impl_DepthOf_l0_X, h_3, h_4, h_5]) (by simp -implicitDefEqProofs [impl_DepthOf_l0_X, h_3, h_4, h_5]), hR⟩
   ·replace H := HS.cnd_f h_3 H
    try simp -implicitDefEqProofs (maxSteps := 999999) [-selQ_sel, h_3]
    have hr := (HS.some H).symm; subst hr
    exact Hid.mk ⟨(impl_DepthOf_l0_X a0 (.inr ())).2, Wk.ofk [] hk (by rfl) (by simp -implicitDefEqProofs [impl_DepthOf_l0_X, h_3]) (by simp -implicitDefEqProofs [impl_DepthOf_l0_X, h_3]), hR⟩
  ·rcases q with y7 | ⟨⟩
   ·dsimp only at H
    try simp -implicitDefEqProofs (maxSteps := 999999) [-selQ_sel, h_1, impl_DepthOf_l0_X]
    have hr := (HS.some H).symm; subst hr
    refine Hid.mk ⟨_, Wk.refl _, ?_⟩
    try simp -implicitDefEqProofs (maxSteps := 999999) [-selQ_sel, h_1]
   ·dsimp only at H
    try simp -implicitDefEqProofs (maxSteps := 999999) [-selQ_sel, h_1, impl_DepthOf_l0_X]
    have hr := (HS.some H).symm; subst hr
    refine Hid.mk ⟨_, Wk.refl _, ?_⟩
    try simp -implicitDefEqProofs (maxSteps := 999999) [-selQ_sel, h_1]
theorem spec_MatOk_ok0 (hm : Try.prog.follows .mixedOrders = true) (k_spec_l01In : Sound Try.prog 87 spec_l01In_x) : Sound Try.prog 98 spec_MatOk_x := by
 refine xOf_sound fun q r h => ?_
 revert h; revert r; revert q; intro a0 r h
 refine fn_ok E0 hm Try.func98 rfl (by decide +kernel) (by rfl) fun Γ hn hk => ?_
 dsimp only [spec_MatOk_e, spec_MatOk_v]
 replace hn : Γ.n = 44 := hn
 replace hk : Γ.k = 0 := hk
 have H : HS (spec_MatOk a0) r := h
 clear h; unfold spec_MatOk at H
 try simp -implicitDefEqProofs at H
 refine Tr.of_vc (cl := tabC [(87, spec_l01In_x)]) (E := E0) [] (tab_cons k_spec_l01In tab_nil) hm (by rw [hn]; decide +kernel) ?_
 try simp -implicitDefEqProofs (maxSteps := 999999) [-selQ_sel]
 obtain ⟨v1, h_1, H⟩ := HS.bnd H
 try simp -implicitDefEqProofs (maxSteps := 999999) [-selQ_sel, h_1]
 refine Hid.selQ (fun h_2 => ?_) (fun h_2 => ?_)
 ·replace H := HS.cnd_t h_2 H
  try simp -implicitDefEqProofs (maxSteps := 999999) [-selQ_sel, h_1, h_2]
  obtain ⟨v2, h_3, H⟩ := HS.bnd H
  try simp -implicitDefEqProofs (maxSteps := 999999) [-selQ_sel, h_1, h_2, h_3]
  refine Hid.selQ (fun h_4 => ?_) (fun h_4 => ?_)
  ·replace H := HS.cnd_t h_4 H
   try simp -implicitDefEqProofs (maxSteps := 999999) [-selQ_sel, h_1, h_2, h_3, h_4]
   obtain ⟨v3, h_5, H⟩ := HS.bnd H
   try simp -implicitDefEqProofs (maxSteps := 999999) [-selQ_sel, h_1, h_2, h_3, h_4, h_5]
   refine Hid.selQ (fun h_6 => ?_) (fun h_6 => ?_)
   ·replace H := HS.cnd_t h_6 H
    try simp -implicitDefEqProofs (maxSteps := 999999) [-selQ_sel, h_1, h_2, h_3, h_4, h_5, h_6]
    obtain ⟨v4, h_7, H⟩ := HS.bnd H
    try simp -implicitDefEqProofs (maxSteps := 999999) [-selQ_sel, h_1, h_2, h_3, h_4, h_5, h_6, h_7]
    refine Hid.selQ (fun h_8 => ?_) (fun h_8 => ?_)
    ·replace H := HS.cnd_t h_8 H
     try simp -implicitDefEqProofs (maxSteps := 999999) [-selQ_sel, h_1, h_2, h_3, h_4, h_5, h_6, h_7, h_8]
     obtain ⟨v5, h_9, H⟩ := HS.bnd H
     try simp -implicitDefEqProofs (maxSteps := 999999) [-selQ_sel, h_1, h_2, h_3, h_4, h_5, h_6, h_7, h_8, h_9]
     refine Hid.selQ (fun h_10 => ?_) (fun h_10 => ?_)
     ·replace H := HS.cnd_t h_10 H
      try simp -implicitDefEqProofs (maxSteps := 999999) [-selQ_sel, h_1, h_2, h_3, h_4, h_5, h_6, h_7, h_8, h_9, h_10]
      obtain ⟨v6, h_11, H⟩ := HS.bnd H
      try simp -implicitDefEqProofs (maxSteps := 999999) [-selQ_sel, h_1, h_2, h_3, h_4, h_5, h_6, h_7, h_8, h_9, h_10, h_11]
      have hr := (HS.some H).symm; subst hr
      refine Hid.mk ⟨_, Wk.refl _, ?_⟩
      try simp -implicitDefEqProofs (maxSteps := 999999) [-selQ_sel, h_1, h_2, h_3, h_4, h_5, h_6, h_7, h_8, h_9, h_10, h_11]
     ·replace H := HS.cnd_f h_10 H
      try simp -implicitDefEqProofs (maxSteps := 999999) [-selQ_sel, h_1, h_2, h_3, h_4, h_5, h_6, h_7, h_8, h_9, h_10]
      have hr := (HS.some H).symm; subst hr
      refine Hid.mk ⟨_, Wk.refl _, ?_⟩
      try simp -implicitDefEqProofs (maxSteps := 999999) [-selQ_sel, h_1, h_2, h_3, h_4, h_5, h_6, h_7, h_8, h_9, h_10]
    ·replace H := HS.cnd_f h_8 H
     try simp -implicitDefEqProofs (maxSteps := 999999) [-selQ_sel, h_1, h_2, h_3, h_4, h_5, h_6, h_7, h_8]
     have hr := (HS.some H).symm; subst hr
     refine Hid.mk ⟨_, Wk.refl _, ?_⟩
     try simp -implicitDefEqProofs (maxSteps := 999999) [-selQ_sel, h_1, h_2, h_3, h_4, h_5, h_6, h_7, h_8]
   ·replace H := HS.cnd_f h_6 H
    try simp -implicitDefEqProofs (maxSteps := 999999) [-selQ_sel, h_1, h_2, h_3, h_4, h_5, h_6]
    have hr := (HS.some H).symm; subst hr
    refine Hid.mk ⟨_, Wk.refl _, ?_⟩
    try simp -implicitDefEqProofs (maxSteps := 999999) [-selQ_sel, h_1, h_2, h_3, h_4, h_5, h_6]
  ·replace H := HS.cnd_f h_4 H
   try simp -implicitDefEqProofs (maxSteps := 999999) [-selQ_sel, h_1, h_2, h_3, h_4]
   have hr := (HS.some H).symm; subst hr
   refine Hid.mk ⟨_, Wk.refl _, ?_⟩
   try simp -implicitDefEqProofs (maxSteps := 999999) [-selQ_sel, h_1, h_2, h_3, h_4]
 ·replace H := HS.cnd_f h_2 H
  try simp -implicitDefEqProofs (maxSteps := 999999) [-selQ_sel, h_1, h_2]
  have hr := (HS.some H).symm; subst hr
  refine Hid.mk ⟨_, Wk.refl _, ?_⟩
  try simp -implicitDefEqProofs (maxSteps := 999999) [-selQ_sel, h_1, h_2]
theorem laws_eqIntS_ok0 (hm : Try.prog.follows .mixedOrders = true) : Sound Try.prog 68 laws_eqIntS_x := by
 refine xOf_sound fun q r h => ?_
 obtain ⟨a0, a1⟩ := q
 refine fn_ok E0 hm Try.func68 rfl (by decide +kernel) (by rfl) fun Γ hn hk => ?_
 dsimp only [laws_eqIntS_e, laws_eqIntS_v]
 replace hn : Γ.n = 26 := hn
 replace hk : Γ.k = 0 := hk
 have H : HS (laws_eqIntS a0 a1) r := h
 clear h; unfold laws_eqIntS at H
 try simp -implicitDefEqProofs at H
 refine Tr.of_vc (cl := tabC []) (E := E0) [] tab_nil hm (by rw [hn]; decide +kernel) ?_
 try simp -implicitDefEqProofs +decide (maxSteps := 999999) [-selQ_sel, hokQ_of]
 refine Hid.brV (fun h_1 => ?_) (fun h_1 => ?_)
 ·replace H := HS.cnd_t h_1 H
  try simp -implicitDefEqProofs +decide (maxSteps := 999999) [-selQ_sel, hokQ_of, h_1]
  obtain ⟨q, h_2, H⟩ := HS.bnd H
  refine Hid.mk (Tr.weak (s' := (laws_eqIntS_l0_S a0 a1) 0) (Wk.ofk [] hk (by rfl) (by simp -implicitDefEqProofs [laws_eqIntS_l0_S, h_1]) (by simp -implicitDefEqProofs [laws_eqIntS_l0_S, h_1])) ?_)
  refine wp_loop_of (S := (laws_eqIntS_l0_S a0 a1)) (f := (laws_eqIntS_l0 a0 a1)) (xt := (laws_eqIntS_l0_X a0 a1)) ?_ ?_ h_2 ?_
  ·intro q; rcases q with ⟨⟩ | ⟨⟩ <;> simp [laws_eqIntS_l0_X]
  ·clear H h_2 q
   rintro x3 o R hf hR
   have H : HS (laws_eqIntS_l0 a0 a1 x3) o := hf
   clear hf; unfold laws_eqIntS_l0 at H
   try simp -implicitDefEqProofs at H
   refine Tr.of_vc (cl := tabC []) (E := E0) [] tab_nil hm (by rw [hn]; decide +kernel) ?_
   try simp -implicitDefEqProofs +decide (maxSteps := 999999) [-selQ_sel, hokQ_of, laws_eqIntS_l0_S]
   refine Hid.brV (fun h_3 => ?_) (fun h_3 => ?_)
   ·replace H := HS.cnd_t h_3 H
    try simp -implicitDefEqProofs +decide (maxSteps := 999999) [-selQ_sel, hokQ_of, h_3]
    have hr := (HS.some H).symm; subst hr
    exact Hid.mk ⟨(laws_eqIntS_l0_X a0 a1 (.inl ())).2, Wk.ofk [] hk (by rfl) (by simp -implicitDefEqProofs [laws_eqIntS_l0_X, h_3]) (by simp -implicitDefEqProofs [laws_eqIntS_l0_X, h_3]), hR⟩
   ·replace H := HS.cnd_f h_3 H
    try simp -implicitDefEqProofs +decide (maxSteps := 999999) [-selQ_sel, hokQ_of, h_3]
    obtain ⟨v4, h_4, H⟩ := HS.bnd H
    try simp -implicitDefEqProofs +decide (maxSteps := 999999) [-selQ_sel, hokQ_of, h_3, h_4]
    obtain ⟨v5, h_5, H⟩ := HS.bnd H
    try simp -implicitDefEqProofs +decide (maxSteps := 999999) [-selQ_sel, hokQ_of, h_3, h_4, h_5]
    refine Hid.brV (fun h_6 => ?_) (fun h_6 => ?_)
    ·replace H := HS.cnd_t h_6 H
     try simp -implicitDefEqProofs +decide (maxSteps := 999999) [-selQ_sel, hokQ_of, h_3, h_4, h_5, h_6]
     have hr := (HS.some H).symm; subst hr
     exact Hid.mk ⟨laws_eqIntS_l0_S a0 a1 (IntKind.i64.wrap (x3 + 1)), Wk.ofk [] hk (by rfl) (by simp -implicitDefEqProofs [laws_eqIntS_l0_S, h_3, h_4, h_5, h_6]) (by simp -implicitDefEqProofs [laws_eqIntS_l0_S, h_3, h_4, h_5, h_6]), hR⟩
    ·replace H := HS.cnd_f h_6 H
     try simp -implicitDefEqProofs +decide (maxSteps := 999999) [-selQ_sel, hokQ_of, h_3, h_4, h_5, h_6]
     have hr := (HS.some H).symm; subst hr
     exact Hid.mk ⟨(laws_eqIntS_l0_X a0 a1 (.inr ())).2, Wk.ofk [] hk (by rfl) (by simp -implicitDefEqProofs [laws_eqIntS_l0_X, h_3, h_4, h_5, h_6]) (by simp -implicitDefEqProofs [laws_eqIntS_l0_X, h_3, h_4, h_5, h_6]), hR⟩
  ·rcases q with ⟨⟩ | ⟨⟩
   ·dsimp only at H
    try simp -implicitDefEqProofs +decide (maxSteps := 999999) [-selQ_sel, hokQ_of, h_1, laws_eqIntS_l0_X]
    have hr := (HS.some H).symm; subst hr
    refine Hid.mk ⟨_, Wk.refl _, ?_⟩
    try simp -implicitDefEqProofs +decide (maxSteps := 999999) [-selQ_sel, hokQ_of, h_1]
   ·dsimp only at H
    try simp -implicitDefEqProofs +decide (maxSteps := 999999) [-selQ_sel, hokQ_of, h_1, laws_eqIntS_l0_X]
    have hr := (HS.some H).symm; subst hr
    refine Hid.mk ⟨_, Wk.refl _, ?_⟩
    try simp -implicitDefEqProofs +decide (maxSteps := 999999) [-selQ_sel, hokQ_of, h_1]
 ·replace H := HS.cnd_f h_1 H
  try simp -implicitDefEqProofs +decide (maxSteps := 999999) [-selQ_sel, hokQ_of, h_1]
  have hr := (HS.some H).symm; subst hr
  refine Hid.mk ⟨_, Wk.refl _, ?_⟩
  try simp -implicitDefEqProofs +decide (maxSteps := 999999) [-selQ_sel, hokQ_of, h_1]
theorem laws_heldPointS_ok0 (hm : Try.prog.follows .mixedOrders = true) : Sound Try.prog 114 laws_heldPointS_x := by
 refine xOf_sound fun q r h => ?_
 obtain ⟨a0, a1⟩ := q
 refine fn_ok E0 hm Try.func114 rfl (by decide +kernel) (by rfl) fun Γ hn hk => ?_
 dsimp only [laws_heldPointS_e, laws_heldPointS_v]
 replace hn : Γ.n = 31 := hn
 replace hk : Γ.k = 0 := hk
 have H : HS (laws_heldPointS a0 a1) r := h
 clear h; unfold laws_heldPointS at H
 try simp -implicitDefEqProofs at H
 refine Tr.of_vc (cl := tabC []) (E := E0) [] tab_nil hm (by rw [hn]; decide +kernel) ?_
 try simp -implicitDefEqProofs (maxSteps := 999999) [-selQ_sel]
 obtain ⟨q, h_1, H⟩ := HS.bnd H
 refine Hid.mk (Tr.weak (s' := (laws_heldPointS_l0_S a0) (a1, 0)) (Wk.ofk [] hk (by rfl) (by simp -implicitDefEqProofs [laws_heldPointS_l0_S]) (by simp -implicitDefEqProofs [laws_heldPointS_l0_S])) ?_)
 refine wp_loop_of (S := (laws_heldPointS_l0_S a0)) (f := (laws_heldPointS_l0 a0)) (xt := (laws_heldPointS_l0_X a0)) ?_ ?_ h_1 ?_
 ·intro q; rcases q with y5 | ⟨⟩ <;> simp [laws_heldPointS_l0_X]
 ·clear H h_1 q
  rintro ⟨x2, x3⟩ o R hf hR
  have H : HS (laws_heldPointS_l0 a0 (x2, x3)) o := hf
  clear hf; unfold laws_heldPointS_l0 at H
  try simp -implicitDefEqProofs at H
  refine Tr.of_vc (cl := tabC []) (E := E0) [] tab_nil hm (by rw [hn]; decide +kernel) ?_
  try simp -implicitDefEqProofs (maxSteps := 999999) [-selQ_sel, laws_heldPointS_l0_S]
  refine Hid.brV (fun h_2 => ?_) (fun h_2 => ?_)
  ·replace H := HS.cnd_t h_2 H
   try simp -implicitDefEqProofs (maxSteps := 999999) [-selQ_sel, h_2]
   have hr := (HS.some H).symm; subst hr
   exact Hid.mk ⟨(laws_heldPointS_l0_X a0 (.inl x2)).2, Wk.ofk [] hk (by rfl) (by simp -implicitDefEqProofs [laws_heldPointS_l0_X, h_2]) (by simp -implicitDefEqProofs [laws_heldPointS_l0_X, h_2]), hR⟩
  ·replace H := HS.cnd_f h_2 H
   try simp -implicitDefEqProofs (maxSteps := 999999) [-selQ_sel, h_2]
   obtain ⟨v4, h_3, H⟩ := HS.bnd H
   try simp -implicitDefEqProofs (maxSteps := 999999) [-selQ_sel, h_2, h_3]
   refine Hid.brV (fun h_4 => ?_) (fun h_4 => ?_)
   ·replace H := HS.cnd_t h_4 H
    try simp -implicitDefEqProofs (maxSteps := 999999) [-selQ_sel, h_2, h_3, h_4]
    refine Hid.brV (fun h_5 => ?_) (fun h_5 => ?_)
    ·replace H := HS.cnd_t h_5 H
     try simp -implicitDefEqProofs (maxSteps := 999999) [-selQ_sel, h_2, h_3, h_4, h_5]
     have hr := (HS.some H).symm; subst hr
     exact Hid.mk ⟨laws_heldPointS_l0_S a0 ((IntKind.i64.wrap ((IntKind.i64.wrap (x2 + 1)) + 1)), (IntKind.i64.wrap (x3 + 1))), Wk.ofk [] hk (by rfl) (by simp -implicitDefEqProofs [laws_heldPointS_l0_S, h_2, h_3, h_4, h_5]) (by simp -implicitDefEqProofs [laws_heldPointS_l0_S, h_2, h_3, h_4, h_5]), hR⟩
    ·replace H := HS.cnd_f h_5 H
     try simp -implicitDefEqProofs (maxSteps := 999999) [-selQ_sel, h_2, h_3, h_4, h_5]
     have hr := (HS.some H).symm; subst hr
     exact Hid.mk ⟨(laws_heldPointS_l0_X a0 (.inr ())).2, Wk.ofk [] hk (by rfl) (by simp -implicitDefEqProofs [laws_heldPointS_l0_X, h_2, h_3, h_4, h_5]) (by simp -implicitDefEqProofs [laws_heldPointS_l0_X, h_2, h_3, h_4, h_5]), hR⟩
   ·replace H := HS.cnd_f h_4 H
    try simp -implicitDefEqProofs (maxSteps := 999999) [-selQ_sel, h_2, h_3, h_4]
    have hr := (HS.some H).symm; subst hr
    exact Hid.mk ⟨(laws_heldPointS_l0_X a0 (.inr ())).2, Wk.ofk [] hk (by rfl) (by simp -implicitDefEqProofs [laws_heldPointS_l0_X, h_2, h_3, h_4]) (by simp -implicitDefEqProofs [laws_heldPointS_l0_X, h_2, h_3, h_4]), hR⟩
 ·rcases q with y5 | ⟨⟩
  ·dsimp only at H
   try simp -implicitDefEqProofs (maxSteps := 999999) [-selQ_sel, laws_heldPointS_l0_X]
   have hr := (HS.some H).symm; subst hr
   refine Hid.mk ⟨_, Wk.refl _, ?_⟩
   try simp -implicitDefEqProofs (maxSteps := 999999) [-selQ_sel]
  ·dsimp only at H
   try simp -implicitDefEqProofs (maxSteps := 999999) [-selQ_sel, laws_heldPointS_l0_X]
   have hr := (HS.some H).symm; subst hr
   refine Hid.mk ⟨_, Wk.refl _, ?_⟩
   try simp -implicitDefEqProofs (maxSteps := 999999) [-selQ_sel]
theorem laws_toPointS_ok0 (hm : Try.prog.follows .mixedOrders = true) (k_laws_toPoint : Sound Try.prog 106 laws_toPoint_x) : Sound Try.prog 104 laws_toPointS_x := by
 refine xOf_sound fun q r h => ?_
 revert h; revert r; revert q; intro a0 r h
 refine fn_ok E0 hm Try.func104 rfl (by decide +kernel) (by rfl) fun Γ hn hk => ?_
 dsimp only [laws_toPointS_e, laws_toPointS_v]
 replace hn : Γ.n = 23 := hn
 replace hk : Γ.k = 0 := hk
 have H : HS (laws_toPointS a0) r := h
 clear h; unfold laws_toPointS at H
 try simp -implicitDefEqProofs at H
 refine Tr.of_vc (cl := tabC [(106, laws_toPoint_x)]) (E := E0) [] (tab_cons k_laws_toPoint tab_nil) hm (by rw [hn]; decide +kernel) ?_
 try simp -implicitDefEqProofs (maxSteps := 999999) [-selQ_sel]
 obtain ⟨h_1, H⟩ := HS.chkP H
 try simp -implicitDefEqProofs (maxSteps := 999999) [-selQ_sel, h_1]
 obtain ⟨l1, h_2, H⟩ := HS.nam H
 have m_3 := congrArg (List.map ePoint) h_2
 have q_4 := congrArg List.length h_2
 simp -implicitDefEqProofs at m_3 q_4
 try simp only [q_4] at m_3
 try simp only [q_4] at h_1
 try simp -implicitDefEqProofs (maxSteps := 999999) [-selQ_sel, h_1, m_3, q_4]
 obtain ⟨q, h_5, H⟩ := HS.bnd H
 refine Hid.mk (Tr.weak (s' := (laws_toPointS_l0_S a0) (0, l1)) (Wk.ofk [0] hk (by rfl) (by simp -implicitDefEqProofs [laws_toPointS_l0_S, h_1, m_3, q_4]) (by simp -implicitDefEqProofs [laws_toPointS_l0_S, h_1, m_3, q_4])) ?_)
 refine wp_loop_of (S := (laws_toPointS_l0_S a0)) (f := (laws_toPointS_l0 a0)) (xt := (laws_toPointS_l0_X a0)) ?_ ?_ h_5 ?_
 ·intro q; simp [laws_toPointS_l0_X]
 ·clear H h_5 q
  rintro ⟨x6, x7⟩ o R hf hR
  have H : HS (laws_toPointS_l0 a0 (x6, x7)) o := hf
  clear hf; unfold laws_toPointS_l0 at H
  try simp -implicitDefEqProofs at H
  refine Tr.of_vc (cl := tabC [(106, laws_toPoint_x)]) (E := E0) [] (tab_cons k_laws_toPoint tab_nil) hm (by rw [hn]; decide +kernel) ?_
  try simp -implicitDefEqProofs (maxSteps := 999999) [-selQ_sel, laws_toPointS_l0_S]
  refine Hid.brV (fun h_6 => ?_) (fun h_6 => ?_)
  ·replace H := HS.cnd_t h_6 H
   try simp -implicitDefEqProofs (maxSteps := 999999) [-selQ_sel, h_6]
   have hr := (HS.some H).symm; subst hr
   exact Hid.mk ⟨(laws_toPointS_l0_X a0 x7).2, Wk.ofk [0] hk (by rfl) (by simp -implicitDefEqProofs [laws_toPointS_l0_X, h_6]) (by simp -implicitDefEqProofs [laws_toPointS_l0_X, h_6]), hR⟩
  ·replace H := HS.cnd_f h_6 H
   try simp -implicitDefEqProofs (maxSteps := 999999) [-selQ_sel, h_6]
   obtain ⟨v8, h_7, H⟩ := HS.bnd H
   try simp -implicitDefEqProofs (maxSteps := 999999) [-selQ_sel, h_6, h_7]
   obtain ⟨v9, h_8, H⟩ := HS.bnd H
   try simp -implicitDefEqProofs (maxSteps := 999999) [-selQ_sel, h_6, h_7, h_8]
   obtain ⟨v10, h_9, H⟩ := HS.bnd H
   have g_10 := idx_get h_9
   try simp -implicitDefEqProofs (maxSteps := 999999) [-selQ_sel, h_6, h_7, h_8, h_9, g_10]
   obtain ⟨l11, h_11, H⟩ := HS.nam H
   have m_12 := congrArg (List.map ePoint) h_11
   have q_13 := congrArg List.length h_11
   simp -implicitDefEqProofs at m_12 q_13
   try simp only [q_13] at m_12
   try simp only [q_13] at g_10
   try simp -implicitDefEqProofs (maxSteps := 999999) [-selQ_sel, h_6, h_7, h_8, h_9, g_10, m_12, q_13]
   have hr := (HS.some H).symm; subst hr
   exact Hid.mk ⟨laws_toPointS_l0_S a0 ((IntKind.i64.wrap (x6 + 1)), l11), Wk.ofk [0] hk (by rfl) (by simp -implicitDefEqProofs [laws_toPointS_l0_S, h_6, h_7, h_8, h_9, g_10, m_12, q_13]) (by simp -implicitDefEqProofs [laws_toPointS_l0_S, h_6, h_7, h_8, h_9, g_10, m_12, q_13]), hR⟩
 ·revert H h_5; revert q; intro y12 h_5 H
  try dsimp only at H
  try simp -implicitDefEqProofs (maxSteps := 999999) [-selQ_sel, h_1, m_3, q_4, laws_toPointS_l0_X]
  have hr := (HS.some H).symm; subst hr
  refine Hid.mk ⟨⟨[(2, AV.osl 0 0 (List.length y12) (List.length y12))], [(0, Ob.arr 2 (List.map ePoint y12) false)], 1⟩, Wk.ofk [0] hk (by rfl) (by simp -implicitDefEqProofs [h_1, m_3, q_4]) (by simp -implicitDefEqProofs [h_1, m_3, q_4]), ?_⟩
  try simp -implicitDefEqProofs (maxSteps := 999999) [-selQ_sel, h_1, m_3, q_4]
theorem impl_pointsOk_ok0 (hm : Try.prog.follows .mixedOrders = true) (k_impl_PointOk : Sound Try.prog 123 impl_PointOk_x) : Sound Try.prog 120 impl_pointsOk_x := by
 refine xOf_sound fun q r h => ?_
 revert h; revert r; revert q; intro a0 r h
 refine fn_ok E0 hm Try.func120 rfl (by decide +kernel) (by rfl) fun Γ hn hk => ?_
 dsimp only [impl_pointsOk_e, impl_pointsOk_v]
 replace hn : Γ.n = 15 := hn
 replace hk : Γ.k = 0 := hk
 have H : HS (impl_pointsOk a0) r := h
 clear h; unfold impl_pointsOk at H
 try simp -implicitDefEqProofs at H
 refine Tr.of_vc (cl := tabC [(123, impl_PointOk_x)]) (E := E0) [] (tab_cons k_impl_PointOk tab_nil) hm (by rw [hn]; decide +kernel) ?_
 try simp -implicitDefEqProofs (maxSteps := 999999) [-selQ_sel]
 obtain ⟨q, h_1, H⟩ := HS.bnd H
 refine Hid.mk (Tr.weak (s' := (impl_pointsOk_l0_S a0) 0) (Wk.ofk [] hk (by rfl) (by simp -implicitDefEqProofs [impl_pointsOk_l0_S]) (by simp -implicitDefEqProofs [impl_pointsOk_l0_S])) ?_)
 refine wp_loop_of (S := (impl_pointsOk_l0_S a0)) (f := (impl_pointsOk_l0 a0)) (xt := (impl_pointsOk_l0_X a0)) ?_ ?_ h_1 ?_
 ·intro q; rcases q with ⟨⟩ | ⟨⟩ <;> simp [impl_pointsOk_l0_X]
 ·clear H h_1 q
  rintro x3 o R hf hR
  have H : HS (impl_pointsOk_l0 a0 x3) o := hf
  clear hf; unfold impl_pointsOk_l0 at H
  try simp -implicitDefEqProofs at H
  refine Tr.of_vc (cl := tabC [(123, impl_PointOk_x)]) (E := E0) [] (tab_cons k_impl_PointOk tab_nil) hm (by rw [hn]; decide +kernel) ?_
  try simp -implicitDefEqProofs (maxSteps := 999999) [-selQ_sel, impl_pointsOk_l0_S]
  refine Hid.brV (fun h_2 => ?_) (fun h_2 => ?_)
  ·replace H := HS.cnd_t h_2 H
   try simp -implicitDefEqProofs (maxSteps := 999999) [-selQ_sel, h_2]
   have hr := (HS.some H).symm; subst hr
   exact Hid.mk ⟨(impl_pointsOk_l0_X a0 (.inl ())).2, Wk.ofk [] hk (by rfl) (by simp -implicitDefEqProofs [impl_pointsOk_l0_X, h_2]) (by simp -implicitDefEqProofs [impl_pointsOk_l0_X, h_2]), hR⟩
  ·replace H := HS.cnd_f h_2 H
   try simp -implicitDefEqProofs (maxSteps := 999999) [-selQ_sel, h_2]
   obtain ⟨v4, h_3, H⟩ := HS.bnd H
   try simp -implicitDefEqProofs (maxSteps := 999999) [-selQ_sel, h_2, h_3]
   obtain ⟨v5, h_4, H⟩ := HS.bnd H
   try simp -implicitDefEqProofs (maxSteps := 999999) [-selQ_sel, h_2, h_3, h_4]
   refine Hid.brV (fun h_5 => ?_) (fun h_5 => ?_)
   ·replace H := HS.cnd_t h_5 H
    try simp -implicitDefEqProofs (maxSteps := 999999) [-selQ_sel, h_2, h_3, h_4, h_5]
    have hr := (HS.some H).symm; subst hr
    exact Hid.mk ⟨impl_pointsOk_l0_S a0 (IntKind.i64.wrap (x3 + 1)), Wk.ofk [] hk (by rfl) (by simp -implicitDefEqProofs [impl_pointsOk_l0_S, h_2, h_3, h_4, h_5]) (by simp -implicitDefEqProofs [impl_pointsOk_l0_S, h_2, h_3, h_4, h_5]), hR⟩
   ·replace H := HS.cnd_f h_5 H
    try simp -implicitDefEqProofs (maxSteps := 999999) [-selQ_sel, h_2, h_3, h_4, h_5]
    have hr := (HS.some H).symm; subst hr
    exact Hid.mk ⟨(impl_pointsOk_l0_X a0 (.inr ())).2, Wk.ofk [] hk (by rfl) (by simp -implicitDefEqProofs [impl_pointsOk_l0_X, h_2, h_3, h_4, h_5]) (by simp -implicitDefEqProofs [impl_pointsOk_l0_X, h_2, h_3, h_4, h_5]), hR⟩
 ·rcases q with ⟨⟩ | ⟨⟩
  ·dsimp only at H
   try simp -implicitDefEqProofs (maxSteps := 999999) [-selQ_sel, impl_pointsOk_l0_X]
   have hr := (HS.some H).symm; subst hr
   refine Hid.mk ⟨_, Wk.refl _, ?_⟩
   try simp -implicitDefEqProofs (maxSteps := 999999) [-selQ_sel]
  ·dsimp only at H
   try simp -implicitDefEqProofs (maxSteps := 999999) [-selQ_sel, impl_pointsOk_l0_X]
   have hr := (HS.some H).symm; subst hr
   refine Hid.mk ⟨_, Wk.refl _, ?_⟩
   try simp -implicitDefEqProofs (maxSteps := 999999) [-selQ_sel]
theorem laws_heldIntS_ok0 (hm : Try.prog.follows .mixedOrders = true) : Sound Try.prog 113 laws_heldIntS_x := by
 refine xOf_sound fun q r h => ?_
 obtain ⟨a0, a1⟩ := q
 refine fn_ok E0 hm Try.func113 rfl (by decide +kernel) (by rfl) fun Γ hn hk => ?_
 dsimp only [laws_heldIntS_e, laws_heldIntS_v]
 replace hn : Γ.n = 21 := hn
 replace hk : Γ.k = 0 := hk
 have H : HS (laws_heldIntS a0 a1) r := h
 clear h; unfold laws_heldIntS at H
 try simp -implicitDefEqProofs at H
 refine Tr.of_vc (cl := tabC []) (E := E0) [] tab_nil hm (by rw [hn]; decide +kernel) ?_
 try simp -implicitDefEqProofs (maxSteps := 999999) [-selQ_sel]
 obtain ⟨q, h_1, H⟩ := HS.bnd H
 refine Hid.mk (Tr.weak (s' := (laws_heldIntS_l0_S a0) (a1, 0)) (Wk.ofk [] hk (by rfl) (by simp -implicitDefEqProofs [laws_heldIntS_l0_S]) (by simp -implicitDefEqProofs [laws_heldIntS_l0_S])) ?_)
 refine wp_loop_of (S := (laws_heldIntS_l0_S a0)) (f := (laws_heldIntS_l0 a0)) (xt := (laws_heldIntS_l0_X a0)) ?_ ?_ h_1 ?_
 ·intro q; rcases q with y5 | ⟨⟩ <;> simp [laws_heldIntS_l0_X]
 ·clear H h_1 q
  rintro ⟨x2, x3⟩ o R hf hR
  have H : HS (laws_heldIntS_l0 a0 (x2, x3)) o := hf
  clear hf; unfold laws_heldIntS_l0 at H
  try simp -implicitDefEqProofs at H
  refine Tr.of_vc (cl := tabC []) (E := E0) [] tab_nil hm (by rw [hn]; decide +kernel) ?_
  try simp -implicitDefEqProofs (maxSteps := 999999) [-selQ_sel, laws_heldIntS_l0_S]
  refine Hid.brV (fun h_2 => ?_) (fun h_2 => ?_)
  ·replace H := HS.cnd_t h_2 H
   try simp -implicitDefEqProofs (maxSteps := 999999) [-selQ_sel, h_2]
   have hr := (HS.some H).symm; subst hr
   exact Hid.mk ⟨(laws_heldIntS_l0_X a0 (.inl x2)).2, Wk.ofk [] hk (by rfl) (by simp -implicitDefEqProofs [laws_heldIntS_l0_X, h_2]) (by simp -implicitDefEqProofs [laws_heldIntS_l0_X, h_2]), hR⟩
  ·replace H := HS.cnd_f h_2 H
   try simp -implicitDefEqProofs (maxSteps := 999999) [-selQ_sel, h_2]
   obtain ⟨v4, h_3, H⟩ := HS.bnd H
   try simp -implicitDefEqProofs (maxSteps := 999999) [-selQ_sel, h_2, h_3]
   refine Hid.brV (fun h_4 => ?_) (fun h_4 => ?_)
   ·replace H := HS.cnd_t h_4 H
    try simp -implicitDefEqProofs (maxSteps := 999999) [-selQ_sel, h_2, h_3, h_4]
    have hr := (HS.some H).symm; subst hr
    exact Hid.mk ⟨laws_heldIntS_l0_S a0 ((IntKind.i64.wrap (x2 + 1)), (IntKind.i64.wrap (x3 + 1))), Wk.ofk [] hk (by rfl) (by simp -implicitDefEqProofs [laws_heldIntS_l0_S, h_2, h_3, h_4]) (by simp -implicitDefEqProofs [laws_heldIntS_l0_S, h_2, h_3, h_4]), hR⟩
   ·replace H := HS.cnd_f h_4 H
    try simp -implicitDefEqProofs (maxSteps := 999999) [-selQ_sel, h_2, h_3, h_4]
    have hr := (HS.some H).symm; subst hr
    exact Hid.mk ⟨(laws_heldIntS_l0_X a0 (.inr ())).2, Wk.ofk [] hk (by rfl) (by simp -implicitDefEqProofs [laws_heldIntS_l0_X, h_2, h_3, h_4]) (by simp -implicitDefEqProofs [laws_heldIntS_l0_X, h_2, h_3, h_4]), hR⟩
 ·rcases q with y5 | ⟨⟩
  ·dsimp only at H
   try simp -implicitDefEqProofs (maxSteps := 999999) [-selQ_sel, laws_heldIntS_l0_X]
   have hr := (HS.some H).symm; subst hr
   refine Hid.mk ⟨_, Wk.refl _, ?_⟩
   try simp -implicitDefEqProofs (maxSteps := 999999) [-selQ_sel]
  ·dsimp only at H
   try simp -implicitDefEqProofs (maxSteps := 999999) [-selQ_sel, laws_heldIntS_l0_X]
   have hr := (HS.some H).symm; subst hr
   refine Hid.mk ⟨_, Wk.refl _, ?_⟩
   try simp -implicitDefEqProofs (maxSteps := 999999) [-selQ_sel]
theorem laws_toNode_ok0 (hm : Try.prog.follows .mixedOrders = true) (k_laws_toMat : Sound Try.prog 60 laws_toMat_x) (k_laws_toPath : Sound Try.prog 61 laws_toPath_x) (k_laws_toIntS : Sound Try.prog 62 laws_toIntS_x) (k_laws_toPaint : Sound Try.prog 63 laws_toPaint_x) : Sound Try.prog 20 laws_toNode_x := by
 refine xOf_sound fun q r h => ?_
 revert h; revert r; revert q; intro a0 r h
 refine fn_ok E0 hm Try.func20 rfl (by decide +kernel) (by rfl) fun Γ hn hk => ?_
 dsimp only [laws_toNode_e, laws_toNode_v]
 replace hn : Γ.n = 46 := hn
 replace hk : Γ.k = 0 := hk
 have H : HS (laws_toNode a0) r := h
 clear h; unfold laws_toNode at H
 try simp -implicitDefEqProofs at H
 refine Tr.of_vc (cl := tabC [(60, laws_toMat_x), (61, laws_toPath_x), (62, laws_toIntS_x), (63, laws_toPaint_x)]) (E := E0) [] (tab_cons k_laws_toMat (tab_cons k_laws_toPath (tab_cons k_laws_toIntS (tab_cons k_laws_toPaint tab_nil)))) hm (by rw [hn]; decide +kernel) ?_
 try simp -implicitDefEqProofs (maxSteps := 999999) [-selQ_sel]
 obtain ⟨v1, h_1, H⟩ := HS.bnd H
 try simp -implicitDefEqProofs (maxSteps := 999999) [-selQ_sel, h_1]
 obtain ⟨⟨w3, w4⟩, h_2, H⟩ := HS.bnd H
 dsimp only at H
 try simp -implicitDefEqProofs (maxSteps := 999999) [-selQ_sel, h_1, h_2]
 obtain ⟨v5, h_3, H⟩ := HS.bnd H
 try simp -implicitDefEqProofs (maxSteps := 999999) [-selQ_sel, h_1, h_2, h_3]
 obtain ⟨v6, h_4, H⟩ := HS.bnd H
 try simp -implicitDefEqProofs (maxSteps := 999999) [-selQ_sel, h_1, h_2, h_3, h_4]
 obtain ⟨⟨w8, w9⟩, h_5, H⟩ := HS.bnd H
 dsimp only at H
 try simp -implicitDefEqProofs (maxSteps := 999999) [-selQ_sel, h_1, h_2, h_3, h_4, h_5]
 have hr := (HS.some H).symm; subst hr
 refine Hid.mk ⟨⟨[(2, AV.optr 0 0 31)], [(0, Ob.box [AV.int .i64 a0.id, AV.int .i64 a0.parent, AV.bool a0.group, AV.int .i64 v1.a, AV.int .i64 v1.b, AV.int .i64 v1.c, AV.int .i64 v1.d, AV.int .i64 v1.e, AV.int .i64 v1.f, AV.osl 1 0 (List.length w3) (List.length w3), AV.osl 2 0 (List.length w4) (List.length w4), AV.bool a0.even, AV.int .i64 a0.width, AV.osl 3 0 (List.length v5) (List.length v5), AV.int .i64 v6.kind, AV.int .i64 v6.first.r, AV.int .i64 v6.first.g, AV.int .i64 v6.first.b, AV.int .i64 v6.first.a, AV.int .i64 v6.last.r, AV.int .i64 v6.last.g, AV.int .i64 v6.last.b, AV.int .i64 v6.last.a, AV.int .i64 v6.from_.x, AV.int .i64 v6.from_.y, AV.int .i64 v6.to.x, AV.int .i64 v6.to.y, AV.int .i64 a0.mode, AV.int .i64 a0.fade, AV.osl 4 0 (List.length w8) (List.length w8), AV.osl 5 0 (List.length w9) (List.length w9)]), (1, Ob.arr 1 (List.map (AV.int .i64) w3) false), (2, Ob.arr 2 (List.map ePoint w4) false), (3, Ob.arr 1 (List.map (AV.int .i64) v5) false), (4, Ob.arr 1 (List.map (AV.int .i64) w8) false), (5, Ob.arr 2 (List.map ePoint w9) false)], 6⟩, Wk.ofk [1, 3, 4, 5, 6, 7] hk (by rfl) (by simp -implicitDefEqProofs [h_1, h_2, h_3, h_4, h_5]) (by simp -implicitDefEqProofs [h_1, h_2, h_3, h_4, h_5]), ?_⟩
 try simp -implicitDefEqProofs (maxSteps := 999999) [-selQ_sel, h_1, h_2, h_3, h_4, h_5]
theorem spec_ColorOk_ok0 (hm : Try.prog.follows .mixedOrders = true) (k_spec_l01In : Sound Try.prog 87 spec_l01In_x) : Sound Try.prog 126 spec_ColorOk_x := by
 refine xOf_sound fun q r h => ?_
 revert h; revert r; revert q; intro a0 r h
 refine fn_ok E0 hm Try.func126 rfl (by decide +kernel) (by rfl) fun Γ hn hk => ?_
 dsimp only [spec_ColorOk_e, spec_ColorOk_v]
 replace hn : Γ.n = 21 := hn
 replace hk : Γ.k = 0 := hk
 have H : HS (spec_ColorOk a0) r := h
 clear h; unfold spec_ColorOk at H
 try simp -implicitDefEqProofs at H
 refine Tr.of_vc (cl := tabC [(87, spec_l01In_x)]) (E := E0) [] (tab_cons k_spec_l01In tab_nil) hm (by rw [hn]; decide +kernel) ?_
 try simp -implicitDefEqProofs (maxSteps := 999999) [-selQ_sel]
 obtain ⟨v1, h_1, H⟩ := HS.bnd H
 try simp -implicitDefEqProofs (maxSteps := 999999) [-selQ_sel, h_1]
 refine Hid.selQ (fun h_2 => ?_) (fun h_2 => ?_)
 ·replace H := HS.cnd_t h_2 H
  try simp -implicitDefEqProofs (maxSteps := 999999) [-selQ_sel, h_1, h_2]
  obtain ⟨v2, h_3, H⟩ := HS.bnd H
  try simp -implicitDefEqProofs (maxSteps := 999999) [-selQ_sel, h_1, h_2, h_3]
  refine Hid.selQ (fun h_4 => ?_) (fun h_4 => ?_)
  ·replace H := HS.cnd_t h_4 H
   try simp -implicitDefEqProofs (maxSteps := 999999) [-selQ_sel, h_1, h_2, h_3, h_4]
   obtain ⟨v3, h_5, H⟩ := HS.bnd H
   try simp -implicitDefEqProofs (maxSteps := 999999) [-selQ_sel, h_1, h_2, h_3, h_4, h_5]
   refine Hid.selQ (fun h_6 => ?_) (fun h_6 => ?_)
   ·replace H := HS.cnd_t h_6 H
    try simp -implicitDefEqProofs (maxSteps := 999999) [-selQ_sel, h_1, h_2, h_3, h_4, h_5, h_6]
    obtain ⟨v4, h_7, H⟩ := HS.bnd H
    try simp -implicitDefEqProofs (maxSteps := 999999) [-selQ_sel, h_1, h_2, h_3, h_4, h_5, h_6, h_7]
    have hr := (HS.some H).symm; subst hr
    refine Hid.mk ⟨_, Wk.refl _, ?_⟩
    try simp -implicitDefEqProofs (maxSteps := 999999) [-selQ_sel, h_1, h_2, h_3, h_4, h_5, h_6, h_7]
   ·replace H := HS.cnd_f h_6 H
    try simp -implicitDefEqProofs (maxSteps := 999999) [-selQ_sel, h_1, h_2, h_3, h_4, h_5, h_6]
    have hr := (HS.some H).symm; subst hr
    refine Hid.mk ⟨_, Wk.refl _, ?_⟩
    try simp -implicitDefEqProofs (maxSteps := 999999) [-selQ_sel, h_1, h_2, h_3, h_4, h_5, h_6]
  ·replace H := HS.cnd_f h_4 H
   try simp -implicitDefEqProofs (maxSteps := 999999) [-selQ_sel, h_1, h_2, h_3, h_4]
   have hr := (HS.some H).symm; subst hr
   refine Hid.mk ⟨_, Wk.refl _, ?_⟩
   try simp -implicitDefEqProofs (maxSteps := 999999) [-selQ_sel, h_1, h_2, h_3, h_4]
 ·replace H := HS.cnd_f h_2 H
  try simp -implicitDefEqProofs (maxSteps := 999999) [-selQ_sel, h_1, h_2]
  have hr := (HS.some H).symm; subst hr
  refine Hid.mk ⟨_, Wk.refl _, ?_⟩
  try simp -implicitDefEqProofs (maxSteps := 999999) [-selQ_sel, h_1, h_2]
theorem spec_l15CopyPath_ok0 (hm : Try.prog.follows .mixedOrders = true) : Sound Try.prog 88 spec_l15CopyPath_x := by
 refine xOf_sound fun q r h => ?_
 revert h; revert r; revert q; intro a0 r h
 refine fn_ok E0 hm Try.func88 rfl (by decide +kernel) (by rfl) fun Γ hn hk => ?_
 dsimp only [spec_l15CopyPath_e, spec_l15CopyPath_v]
 replace hn : Γ.n = 12 := hn
 replace hk : Γ.k = 0 := hk
 have H : HS (spec_l15CopyPath a0) r := h
 clear h; unfold spec_l15CopyPath at H
 try simp -implicitDefEqProofs at H
 refine Tr.of_vc (cl := tabC []) (E := E0) [] tab_nil hm (by rw [hn]; decide +kernel) ?_
 try simp -implicitDefEqProofs +decide (maxSteps := 999999) [-selQ_sel, hokQ_of]
 obtain ⟨h_1, H⟩ := HS.chkP H
 try simp -implicitDefEqProofs +decide (maxSteps := 999999) [-selQ_sel, hokQ_of, h_1]
 obtain ⟨l1, h_2, H⟩ := HS.nam H
 have m_3 := congrArg (List.map (AV.int .i64)) h_2
 have q_4 := congrArg List.length h_2
 simp -implicitDefEqProofs at m_3 q_4
 try simp only [q_4] at m_3
 try simp only [q_4] at h_1
 try simp -implicitDefEqProofs +decide (maxSteps := 999999) [-selQ_sel, hokQ_of, h_1, m_3, q_4]
 obtain ⟨h_5, H⟩ := HS.chkP H
 try simp -implicitDefEqProofs +decide (maxSteps := 999999) [-selQ_sel, hokQ_of, h_1, m_3, q_4, h_5]
 obtain ⟨l2, h_6, H⟩ := HS.nam H
 have m_7 := congrArg (List.map ePoint) h_6
 have q_8 := congrArg List.length h_6
 simp -implicitDefEqProofs at m_7 q_8
 try simp only [q_8] at m_7
 try simp only [q_8] at h_5
 try simp -implicitDefEqProofs +decide (maxSteps := 999999) [-selQ_sel, hokQ_of, h_1, m_3, q_4, h_5, m_7, q_8]
 have hr := (HS.some H).symm; subst hr
 refine Hid.mk ⟨⟨[(2, AV.optr 0 0 2)], [(0, Ob.box [AV.osl 1 0 (List.length l1) (List.length l1), AV.osl 2 0 (List.length l2) (List.length l2)]), (1, Ob.arr 1 (List.map (AV.int .i64) l1) false), (2, Ob.arr 2 (List.map ePoint l2) false)], 3⟩, Wk.ofk [1, 2, 3] hk (by rfl) (by simp -implicitDefEqProofs [h_1, m_3, q_4, h_5, m_7, q_8]) (by simp -implicitDefEqProofs [h_1, m_3, q_4, h_5, m_7, q_8]), ?_⟩
 try simp -implicitDefEqProofs +decide (maxSteps := 999999) [-selQ_sel, hokQ_of, h_1, m_3, q_4, h_5, m_7, q_8]
theorem laws_eqPath_ok0 (hm : Try.prog.follows .mixedOrders = true) (k_laws_eqIntS : Sound Try.prog 68 laws_eqIntS_x) (k_laws_eqPointS : Sound Try.prog 109 laws_eqPointS_x) : Sound Try.prog 67 laws_eqPath_x := by
 refine xOf_sound fun q r h => ?_
 obtain ⟨a0, a1⟩ := q
 refine fn_ok E0 hm Try.func67 rfl (by decide +kernel) (by rfl) fun Γ hn hk => ?_
 dsimp only [laws_eqPath_e, laws_eqPath_v]
 replace hn : Γ.n = 17 := hn
 replace hk : Γ.k = 0 := hk
 have H : HS (laws_eqPath a0 a1) r := h
 clear h; unfold laws_eqPath at H
 try simp -implicitDefEqProofs at H
 refine Tr.of_vc (cl := tabC [(68, laws_eqIntS_x), (109, laws_eqPointS_x)]) (E := E0) [] (tab_cons k_laws_eqIntS (tab_cons k_laws_eqPointS tab_nil)) hm (by rw [hn]; decide +kernel) ?_
 try simp -implicitDefEqProofs (maxSteps := 999999) [-selQ_sel]
 obtain ⟨v1, h_1, H⟩ := HS.bnd H
 try simp -implicitDefEqProofs (maxSteps := 999999) [-selQ_sel, h_1]
 refine Hid.brV (fun h_2 => ?_) (fun h_2 => ?_)
 ·replace H := HS.cnd_t h_2 H
  try simp -implicitDefEqProofs (maxSteps := 999999) [-selQ_sel, h_1, h_2]
  obtain ⟨v2, h_3, H⟩ := HS.bnd H
  try simp -implicitDefEqProofs (maxSteps := 999999) [-selQ_sel, h_1, h_2, h_3]
  refine Hid.brV (fun h_4 => ?_) (fun h_4 => ?_)
  ·replace H := HS.cnd_t h_4 H
   try simp -implicitDefEqProofs (maxSteps := 999999) [-selQ_sel, h_1, h_2, h_3, h_4]
   have hr := (HS.some H).symm; subst hr
   refine Hid.mk ⟨_, Wk.refl _, ?_⟩
   try simp -implicitDefEqProofs (maxSteps := 999999) [-selQ_sel, h_1, h_2, h_3, h_4]
  ·replace H := HS.cnd_f h_4 H
   try simp -implicitDefEqProofs (maxSteps := 999999) [-selQ_sel, h_1, h_2, h_3, h_4]
   have hr := (HS.some H).symm; subst hr
   refine Hid.mk ⟨_, Wk.refl _, ?_⟩
   try simp -implicitDefEqProofs (maxSteps := 999999) [-selQ_sel, h_1, h_2, h_3, h_4]
 ·replace H := HS.cnd_f h_2 H
  try simp -implicitDefEqProofs (maxSteps := 999999) [-selQ_sel, h_1, h_2]
  have hr := (HS.some H).symm; subst hr
  refine Hid.mk ⟨_, Wk.refl _, ?_⟩
  try simp -implicitDefEqProofs (maxSteps := 999999) [-selQ_sel, h_1, h_2]
theorem slices_Clone_int_ok0 (hm : Try.prog.follows .mixedOrders = true) : Sound Try.prog 108 slices_Clone_int_x := by
 refine xOf_sound fun q r h => ?_
 revert h; revert r; revert q; intro a0 r h
 refine fn_ok E0 hm Try.func108 rfl (by decide +kernel) (by rfl) fun Γ hn hk => ?_
 dsimp only [slices_Clone_int_e, slices_Clone_int_v]
 replace hn : Γ.n = 8 := hn
 replace hk : Γ.k = 0 := hk
 have H : HS (slices_Clone_int a0) r := h
 clear h; unfold slices_Clone_int at H
 obtain ⟨h_1, H⟩ := HS.chkP H
 have hr := (HS.some H).symm; subst hr
 refine Tr.of_vc (cl := tabC []) (E := E0) [1] tab_nil hm (by rw [hn]; decide +kernel) ?_
 simp -implicitDefEqProofs [-selQ_sel]
 refine Hid.mk (Tr_nil (E := E0) tab_nil (h1 := rfl) (hd1 := fun d h => by cases h; rw [hn]; decide) (ho := rfl) (hg := rfl) (hd := rfl) (hdn := by rw [hn]; decide) (hu := elt_36) (hx := rfl) fun b hb => ?_)
 refine Tr.of_vc (cl := tabC []) (E := E0) [] tab_nil hm (by rw [hn]; decide +kernel) ?_
 simp -implicitDefEqProofs [-selQ_sel, aft, putT]
 refine Hid.brV (fun h_2 => ?_) (fun h_2 => ?_)
 ·simp -implicitDefEqProofs [-selQ_sel]
  have h_3 := hb h_2; simp at h_3; subst h_3
  refine Hid.mk ⟨_, Wk.refl _, ?_⟩
  simp -implicitDefEqProofs [-selQ_sel, h_1]
  refine ⟨⟨[(2, AV.osl 0 0 0 0)], [(0, Ob.arr 1 (List.map (AV.int .i64) []) false)], 1⟩, Wk.ofk [0] hk (by rfl) (by simp -implicitDefEqProofs) (by simp -implicitDefEqProofs), ?_⟩
  simp -implicitDefEqProofs [-selQ_sel, h_1]
 ·simp -implicitDefEqProofs [-selQ_sel]
  refine Hid.mk ⟨_, Wk.refl _, ?_⟩
  simp -implicitDefEqProofs [-selQ_sel, h_1]
  refine ⟨⟨[(2, AV.osl 0 0 (List.length a0) (List.length a0))], [(0, Ob.arr 1 (List.map (AV.int .i64) a0) false)], 1⟩, Wk.ofk [0] hk (by rfl) (by simp -implicitDefEqProofs) (by simp -implicitDefEqProofs), ?_⟩
  simp -implicitDefEqProofs [-selQ_sel, h_1]
theorem impl_copyPath_ok0 (hm : Try.prog.follows .mixedOrders = true) (k_slices_Clone_int : Sound Try.prog 108 slices_Clone_int_x) (k_slices_Clone_Point : Sound Try.prog 127 slices_Clone_Point_x) : Sound Try.prog 107 impl_copyPath_x := by
 refine xOf_sound fun q r h => ?_
 revert h; revert r; revert q; intro a0 r h
 refine fn_ok E0 hm Try.func107 rfl (by decide +kernel) (by rfl) fun Γ hn hk => ?_
 dsimp only [impl_copyPath_e, impl_copyPath_v]
 replace hn : Γ.n = 10 := hn
 replace hk : Γ.k = 0 := hk
 have H : HS (impl_copyPath a0) r := h
 clear h; unfold impl_copyPath at H
 try simp -implicitDefEqProofs at H
 refine Tr.of_vc (cl := tabC [(108, slices_Clone_int_x), (127, slices_Clone_Point_x)]) (E := E0) [] (tab_cons k_slices_Clone_int (tab_cons k_slices_Clone_Point tab_nil)) hm (by rw [hn]; decide +kernel) ?_
 try simp -implicitDefEqProofs +decide (maxSteps := 999999) [-selQ_sel, hokQ_of]
 obtain ⟨v1, h_1, H⟩ := HS.bnd H
 try simp -implicitDefEqProofs +decide (maxSteps := 999999) [-selQ_sel, hokQ_of, h_1]
 obtain ⟨v2, h_2, H⟩ := HS.bnd H
 try simp -implicitDefEqProofs +decide (maxSteps := 999999) [-selQ_sel, hokQ_of, h_1, h_2]
 have hr := (HS.some H).symm; subst hr
 refine Hid.mk ⟨⟨[(2, AV.optr 0 0 2)], [(0, Ob.box [AV.osl 1 0 (List.length v1) (List.length v1), AV.osl 2 0 (List.length v2) (List.length v2)]), (1, Ob.arr 1 (List.map (AV.int .i64) v1) false), (2, Ob.arr 2 (List.map ePoint v2) false)], 3⟩, Wk.ofk [1, 2, 3] hk (by rfl) (by simp -implicitDefEqProofs [h_1, h_2]) (by simp -implicitDefEqProofs [h_1, h_2]), ?_⟩
 try simp -implicitDefEqProofs +decide (maxSteps := 999999) [-selQ_sel, hokQ_of, h_1, h_2]
theorem impl_PointOk_ok0 (hm : Try.prog.follows .mixedOrders = true) (k_impl_isFar : Sound Try.prog 119 impl_isFar_x) : Sound Try.prog 123 impl_PointOk_x := by
 refine xOf_sound fun q r h => ?_
 revert h; revert r; revert q; intro a0 r h
 refine fn_ok E0 hm Try.func123 rfl (by decide +kernel) (by rfl) fun Γ hn hk => ?_
 dsimp only [impl_PointOk_e, impl_PointOk_v]
 replace hn : Γ.n = 11 := hn
 replace hk : Γ.k = 0 := hk
 have H : HS (impl_PointOk a0) r := h
 clear h; unfold impl_PointOk at H
 try simp -implicitDefEqProofs at H
 refine Tr.of_vc (cl := tabC [(119, impl_isFar_x)]) (E := E0) [] (tab_cons k_impl_isFar tab_nil) hm (by rw [hn]; decide +kernel) ?_
 try simp -implicitDefEqProofs (maxSteps := 999999) [-selQ_sel]
 obtain ⟨v1, h_1, H⟩ := HS.bnd H
 try simp -implicitDefEqProofs (maxSteps := 999999) [-selQ_sel, h_1]
 refine Hid.selQ (fun h_2 => ?_) (fun h_2 => ?_)
 ·replace H := HS.cnd_t h_2 H
  try simp -implicitDefEqProofs (maxSteps := 999999) [-selQ_sel, h_1, h_2]
  obtain ⟨v2, h_3, H⟩ := HS.bnd H
  try simp -implicitDefEqProofs (maxSteps := 999999) [-selQ_sel, h_1, h_2, h_3]
  have hr := (HS.some H).symm; subst hr
  refine Hid.mk ⟨_, Wk.refl _, ?_⟩
  try simp -implicitDefEqProofs (maxSteps := 999999) [-selQ_sel, h_1, h_2, h_3]
 ·replace H := HS.cnd_f h_2 H
  try simp -implicitDefEqProofs (maxSteps := 999999) [-selQ_sel, h_1, h_2]
  have hr := (HS.some H).symm; subst hr
  refine Hid.mk ⟨_, Wk.refl _, ?_⟩
  try simp -implicitDefEqProofs (maxSteps := 999999) [-selQ_sel, h_1, h_2]
theorem laws_toPaint_ok0 (hm : Try.prog.follows .mixedOrders = true) (k_laws_toColor : Sound Try.prog 105 laws_toColor_x) (k_laws_toPoint : Sound Try.prog 106 laws_toPoint_x) : Sound Try.prog 63 laws_toPaint_x := by
 refine xOf_sound fun q r h => ?_
 revert h; revert r; revert q; intro a0 r h
 refine fn_ok E0 hm Try.func63 rfl (by decide +kernel) (by rfl) fun Γ hn hk => ?_
 dsimp only [laws_toPaint_e, laws_toPaint_v]
 replace hn : Γ.n = 24 := hn
 replace hk : Γ.k = 0 := hk
 have H : HS (laws_toPaint a0) r := h
 clear h; unfold laws_toPaint at H
 try simp -implicitDefEqProofs at H
 refine Tr.of_vc (cl := tabC [(105, laws_toColor_x), (106, laws_toPoint_x)]) (E := E0) [] (tab_cons k_laws_toColor (tab_cons k_laws_toPoint tab_nil)) hm (by rw [hn]; decide +kernel) ?_
 try simp -implicitDefEqProofs (maxSteps := 999999) [-selQ_sel]
 obtain ⟨v1, h_1, H⟩ := HS.bnd H
 try simp -implicitDefEqProofs (maxSteps := 999999) [-selQ_sel, h_1]
 obtain ⟨v2, h_2, H⟩ := HS.bnd H
 try simp -implicitDefEqProofs (maxSteps := 999999) [-selQ_sel, h_1, h_2]
 obtain ⟨v3, h_3, H⟩ := HS.bnd H
 try simp -implicitDefEqProofs (maxSteps := 999999) [-selQ_sel, h_1, h_2, h_3]
 obtain ⟨v4, h_4, H⟩ := HS.bnd H
 try simp -implicitDefEqProofs (maxSteps := 999999) [-selQ_sel, h_1, h_2, h_3, h_4]
 have hr := (HS.some H).symm; subst hr
 refine Hid.mk ⟨_, Wk.refl _, ?_⟩
 try simp -implicitDefEqProofs (maxSteps := 999999) [-selQ_sel, h_1, h_2, h_3, h_4]
theorem laws_eqScene_ok0 (hm : Try.prog.follows .mixedOrders = true) (k_laws_eqNodeS : Sound Try.prog 65 laws_eqNodeS_x) : Sound Try.prog 22 laws_eqScene_x := by
 refine xOf_sound fun q r h => ?_
 obtain ⟨a0, a1⟩ := q
 refine fn_ok E0 hm Try.func22 rfl (by decide +kernel) (by rfl) fun Γ hn hk => ?_
 dsimp only [laws_eqScene_e, laws_eqScene_v]
 replace hn : Γ.n = 11 := hn
 replace hk : Γ.k = 0 := hk
 have H : HS (laws_eqScene a0 a1) r := h
 clear h; unfold laws_eqScene at H
 try simp -implicitDefEqProofs at H
 refine Tr.of_vc (cl := tabC [(65, laws_eqNodeS_x)]) (E := E0) [] (tab_cons k_laws_eqNodeS tab_nil) hm (by rw [hn]; decide +kernel) ?_
 try simp -implicitDefEqProofs (maxSteps := 999999) [-selQ_sel]
 obtain ⟨v1, h_1, H⟩ := HS.bnd H
 try simp -implicitDefEqProofs (maxSteps := 999999) [-selQ_sel, h_1]
 refine Hid.brV (fun h_2 => ?_) (fun h_2 => ?_)
 ·replace H := HS.cnd_t h_2 H
  try simp -implicitDefEqProofs (maxSteps := 999999) [-selQ_sel, h_1, h_2]
  have hr := (HS.some H).symm; subst hr
  refine Hid.mk ⟨_, Wk.refl _, ?_⟩
  try simp -implicitDefEqProofs (maxSteps := 999999) [-selQ_sel, h_1, h_2]
 ·replace H := HS.cnd_f h_2 H
  try simp -implicitDefEqProofs (maxSteps := 999999) [-selQ_sel, h_1, h_2]
  have hr := (HS.some H).symm; subst hr
  refine Hid.mk ⟨_, Wk.refl _, ?_⟩
  try simp -implicitDefEqProofs (maxSteps := 999999) [-selQ_sel, h_1, h_2]
theorem impl_Path_isNone_ok0 (hm : Try.prog.follows .mixedOrders = true) : Sound Try.prog 94 impl_Path_isNone_x := by
 refine xOf_sound fun q r h => ?_
 revert h; revert r; revert q; intro a0 r h
 refine fn_ok E0 hm Try.func94 rfl (by decide +kernel) (by rfl) fun Γ hn hk => ?_
 dsimp only [impl_Path_isNone_e, impl_Path_isNone_v]
 replace hn : Γ.n = 13 := hn
 replace hk : Γ.k = 0 := hk
 have H : HS (impl_Path_isNone a0) r := h
 clear h; unfold impl_Path_isNone at H
 try simp -implicitDefEqProofs at H
 refine Tr.of_vc (cl := tabC []) (E := E0) [] tab_nil hm (by rw [hn]; decide +kernel) ?_
 try simp -implicitDefEqProofs (maxSteps := 999999) [-selQ_sel]
 refine Hid.selQ (fun h_1 => ?_) (fun h_1 => ?_)
 ·replace H := HS.cnd_t h_1 H
  try simp -implicitDefEqProofs (maxSteps := 999999) [-selQ_sel, h_1]
  have hr := (HS.some H).symm; subst hr
  refine Hid.mk ⟨_, Wk.refl _, ?_⟩
  try simp -implicitDefEqProofs (maxSteps := 999999) [-selQ_sel, h_1]
 ·replace H := HS.cnd_f h_1 H
  try simp -implicitDefEqProofs (maxSteps := 999999) [-selQ_sel, h_1]
  have hr := (HS.some H).symm; subst hr
  refine Hid.mk ⟨_, Wk.refl _, ?_⟩
  try simp -implicitDefEqProofs (maxSteps := 999999) [-selQ_sel, h_1]
theorem laws_szPointS_ok0 (hm : Try.prog.follows .mixedOrders = true) : Sound Try.prog 97 laws_szPointS_x := by
 refine xOf_sound fun q r h => ?_
 obtain ⟨a0, a1⟩ := q
 refine fn_ok E0 hm Try.func97 rfl (by decide +kernel) (by rfl) fun Γ hn hk => ?_
 dsimp only [laws_szPointS_e, laws_szPointS_v]
 replace hn : Γ.n = 12 := hn
 replace hk : Γ.k = 0 := hk
 have H : HS (laws_szPointS a0 a1) r := h
 clear h; unfold laws_szPointS at H
 try simp -implicitDefEqProofs at H
 refine Tr.of_vc (cl := tabC []) (E := E0) [] tab_nil hm (by rw [hn]; decide +kernel) ?_
 try simp -implicitDefEqProofs (maxSteps := 999999) [-selQ_sel]
 refine Hid.brV (fun h_1 => ?_) (fun h_1 => ?_)
 ·replace H := HS.cnd_t h_1 H
  try simp -implicitDefEqProofs (maxSteps := 999999) [-selQ_sel, h_1]
  have hr := (HS.some H).symm; subst hr
  refine Hid.mk ⟨_, Wk.refl _, ?_⟩
  try simp -implicitDefEqProofs (maxSteps := 999999) [-selQ_sel, h_1]
 ·replace H := HS.cnd_f h_1 H
  try simp -implicitDefEqProofs (maxSteps := 999999) [-selQ_sel, h_1]
  have hr := (HS.some H).symm; subst hr
  refine Hid.mk ⟨_, Wk.refl _, ?_⟩
  try simp -implicitDefEqProofs (maxSteps := 999999) [-selQ_sel, h_1]
theorem laws_markScene_ok0 (hm : Try.prog.follows .mixedOrders = true) (k_laws_markNodeS : Sound Try.prog 70 laws_markNodeS_x) : Sound Try.prog 24 laws_markScene_x := by
 refine xOf_sound fun q r h => ?_
 obtain ⟨a0, a1⟩ := q
 refine fn_ok E0 hm Try.func24 rfl (by decide +kernel) (by rfl) fun Γ hn hk => ?_
 dsimp only [laws_markScene_e, laws_markScene_v]
 replace hn : Γ.n = 10 := hn
 replace hk : Γ.k = 1 := hk
 have H : HS (laws_markScene a0 a1) r := h
 clear h; unfold laws_markScene at H
 try simp -implicitDefEqProofs at H
 refine Tr.of_vc (cl := tabC [(70, laws_markNodeS_x)]) (E := E0) [] (tab_cons k_laws_markNodeS tab_nil) hm (by rw [hn]; decide +kernel) ?_
 try simp -implicitDefEqProofs (maxSteps := 999999) [-selQ_sel]
 obtain ⟨⟨w2, w3⟩, h_1, H⟩ := HS.bnd H
 dsimp only at H
 have g_2 := laws_markNodeS_n h_1
 try simp -implicitDefEqProofs (maxSteps := 999999) [-selQ_sel, h_1, g_2]
 have hr := (HS.some H).symm; subst hr
 refine Hid.mk ⟨_, Wk.refl _, ?_⟩
 try simp -implicitDefEqProofs (maxSteps := 999999) [-selQ_sel, h_1, g_2]
theorem impl_isByte_ok0 (hm : Try.prog.follows .mixedOrders = true) (k_impl_inRange : Sound Try.prog 41 impl_inRange_x) : Sound Try.prog 93 impl_isByte_x := by
 refine xOf_sound fun q r h => ?_
 revert h; revert r; revert q; intro a0 r h
 refine fn_ok E0 hm Try.func93 rfl (by decide +kernel) (by rfl) fun Γ hn hk => ?_
 dsimp only [impl_isByte_e, impl_isByte_v]
 replace hn : Γ.n = 5 := hn
 replace hk : Γ.k = 0 := hk
 have H : HS (impl_isByte a0) r := h
 clear h; unfold impl_isByte at H
 try simp -implicitDefEqProofs at H
 refine Tr.of_vc (cl := tabC [(41, impl_inRange_x)]) (E := E0) [] (tab_cons k_impl_inRange tab_nil) hm (by rw [hn]; decide +kernel) ?_
 try simp -implicitDefEqProofs (maxSteps := 999999) [-selQ_sel]
 obtain ⟨v1, h_1, H⟩ := HS.bnd H
 try simp -implicitDefEqProofs (maxSteps := 999999) [-selQ_sel, h_1]
 have hr := (HS.some H).symm; subst hr
 refine Hid.mk ⟨_, Wk.refl _, ?_⟩
 try simp -implicitDefEqProofs (maxSteps := 999999) [-selQ_sel, h_1]
theorem laws_toPoint_ok0 (hm : Try.prog.follows .mixedOrders = true) : Sound Try.prog 106 laws_toPoint_x := by
 refine xOf_sound fun q r h => ?_
 revert h; revert r; revert q; intro a0 r h
 refine fn_ok E0 hm Try.func106 rfl (by decide +kernel) (by rfl) fun Γ hn hk => ?_
 dsimp only [laws_toPoint_e, laws_toPoint_v]
 replace hn : Γ.n = 11 := hn
 replace hk : Γ.k = 0 := hk
 have H : HS (laws_toPoint a0) r := h
 clear h; unfold laws_toPoint at H
 try simp -implicitDefEqProofs at H
 refine Tr.of_vc (cl := tabC []) (E := E0) [] tab_nil hm (by rw [hn]; decide +kernel) ?_
 try simp -implicitDefEqProofs (maxSteps := 999999) [-selQ_sel]
 have hr := (HS.some H).symm; subst hr
 refine Hid.mk ⟨_, Wk.refl _, ?_⟩
 try simp -implicitDefEqProofs (maxSteps := 999999) [-selQ_sel]
theorem impl_NodeAt_1_ok0 (hm : Try.prog.follows .mixedOrders = true) : Sound Try.prog 49 impl_NodeAt_1_x := by
 refine xOf_sound fun q r h => ?_
 obtain ⟨a0, a1⟩ := q
 refine fn_ok E0 hm Try.func49 rfl (by decide +kernel) (by rfl) fun Γ hn hk => ?_
 dsimp only [impl_NodeAt_1_e, impl_NodeAt_1_v]
 replace hn : Γ.n = 8 := hn
 replace hk : Γ.k = 0 := hk
 have H : HS (impl_NodeAt_1 a0 a1) r := h
 clear h; unfold impl_NodeAt_1 at H
 try simp -implicitDefEqProofs at H
 refine Tr.of_vc (cl := tabC []) (E := E0) [] tab_nil hm (by rw [hn]; decide +kernel) ?_
 try simp -implicitDefEqProofs (maxSteps := 999999) [-selQ_sel]
 have hr := (HS.some H).symm; subst hr
 refine Hid.mk ⟨_, Wk.refl _, ?_⟩
 try simp -implicitDefEqProofs (maxSteps := 999999) [-selQ_sel]
end Go.Proofs.Ytapchldnmkfkoab.Am
