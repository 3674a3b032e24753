import Derived.Test.YtafljhadfoaceaaAmCrMo
set_option linter.unusedVariables false
set_option linter.unusedSimpArgs false
set_option linter.unusedSectionVars false
namespace Go.Proofs.Ytafljhadfoaceaa.Am
open Go Go.Proofs
set_option maxRecDepth 100000
set_option linter.unusedSimpArgs false
set_option linter.unusedVariables false
set_option maxHeartbeats 4000000
theorem laws_FnCreates_ok0 (hm : Try.prog.follows .mixedOrders = true) (k_laws_big : Sound Try.prog 38 laws_big_x) (k_spec_DrawScene : Sound Try.prog 44 spec_DrawScene_x) (k_spec_DrawNode : Sound Try.prog 45 spec_DrawNode_x) (k_impl_CreateNode : Sound Try.prog 46 impl_CreateNode_x) (k_spec_CreateNode : Sound Try.prog 47 spec_CreateNode_x) (k_impl_SceneOk : Sound Try.prog 48 impl_SceneOk_x) (k_impl_DropNode : Sound Try.prog 50 impl_DropNode_x) (k_laws_sameNode : Sound Try.prog 51 laws_sameNode_x) (k_laws_sameScene : Sound Try.prog 49 laws_sameScene_x) (k_spec_UnderOf : Sound Try.prog 52 spec_UnderOf_x) (k_impl_NodeAt : Sound Try.prog 53 impl_NodeAt_x) : Sound Try.prog 8 laws_FnCreates_x := by
 refine xOf_sound fun q r h => ?_
 revert h; revert r; revert q; intro a0 r h
 refine fn_ok E0 hm Try.func8 rfl (by decide +kernel) (by rfl) fun Γ hn hk => ?_
 dsimp only [laws_FnCreates_e, laws_FnCreates_v]
 replace hn : Γ.n = 150 := hn
 replace hk : Γ.k = 0 := hk
 have H : HS (laws_FnCreates a0) r := h
 clear h; unfold laws_FnCreates at H
 try simp -implicitDefEqProofs at H
 refine Tr.of_vc (cl := tabC [(38, laws_big_x), (44, spec_DrawScene_x), (45, spec_DrawNode_x), (46, impl_CreateNode_x), (47, spec_CreateNode_x), (48, impl_SceneOk_x), (50, impl_DropNode_x), (51, laws_sameNode_x), (49, laws_sameScene_x), (52, spec_UnderOf_x), (53, impl_NodeAt_x)]) (E := E0) [] (tab_cons k_laws_big (tab_cons k_spec_DrawScene (tab_cons k_spec_DrawNode (tab_cons k_impl_CreateNode (tab_cons k_spec_CreateNode (tab_cons k_impl_SceneOk (tab_cons k_impl_DropNode (tab_cons k_laws_sameNode (tab_cons k_laws_sameScene (tab_cons k_spec_UnderOf (tab_cons k_impl_NodeAt tab_nil))))))))))) hm (by rw [hn]; decide +kernel) ?_
 try simp -implicitDefEqProofs +decide (maxSteps := 999999) [-selQ_sel, hokQ_of]
 obtain ⟨v1, h_1, H⟩ := HS.bnd H
 try simp -implicitDefEqProofs +decide (maxSteps := 999999) [-selQ_sel, hokQ_of, h_1]
 refine Hid.brV (fun h_2 => ?_) (fun h_2 => ?_)
 ·replace H := HS.cnd_t h_2 H
  try simp -implicitDefEqProofs +decide (maxSteps := 999999) [-selQ_sel, hokQ_of, h_1, h_2]
  have hr := (HS.some H).symm; subst hr
  refine Hid.mk ⟨_, Wk.refl _, ?_⟩
  try simp -implicitDefEqProofs +decide (maxSteps := 999999) [-selQ_sel, hokQ_of, h_1, h_2]
 ·replace H := HS.cnd_f h_2 H
  try simp -implicitDefEqProofs +decide (maxSteps := 999999) [-selQ_sel, hokQ_of, h_1, h_2]
  obtain ⟨v2, h_3, H⟩ := HS.bnd H
  try simp -implicitDefEqProofs +decide (maxSteps := 999999) [-selQ_sel, hokQ_of, h_1, h_2, h_3]
  obtain ⟨v3, h_4, H⟩ := HS.bnd H
  try simp -implicitDefEqProofs +decide (maxSteps := 999999) [-selQ_sel, hokQ_of, h_1, h_2, h_3, h_4]
  obtain ⟨⟨w5, w6⟩, h_5, H⟩ := HS.bnd H
  dsimp only at H
  try simp -implicitDefEqProofs +decide (maxSteps := 999999) [-selQ_sel, hokQ_of, h_1, h_2, h_3, h_4, h_5]
  obtain ⟨⟨w8, w9⟩, h_6, H⟩ := HS.bnd H
  dsimp only at H
  try simp -implicitDefEqProofs +decide (maxSteps := 999999) [-selQ_sel, hokQ_of, h_1, h_2, h_3, h_4, h_5, h_6]
  refine Hid.selQ (fun h_7 => ?_) (fun h_7 => ?_)
  ·replace H := HS.cnd_t h_7 H
   try simp -implicitDefEqProofs +decide (maxSteps := 999999) [-selQ_sel, hokQ_of, h_1, h_2, h_3, h_4, h_5, h_6, h_7]
   obtain ⟨v10, h_8, H⟩ := HS.bnd H
   try simp -implicitDefEqProofs +decide (maxSteps := 999999) [-selQ_sel, hokQ_of, h_1, h_2, h_3, h_4, h_5, h_6, h_7, h_8]
   refine Hid.selQ (fun h_9 => ?_) (fun h_9 => ?_)
   ·replace H := HS.cnd_t h_9 H
    try simp -implicitDefEqProofs +decide (maxSteps := 999999) [-selQ_sel, hokQ_of, h_1, h_2, h_3, h_4, h_5, h_6, h_7, h_8, h_9]
    refine Hid.selQ (fun h_10 => ?_) (fun h_10 => ?_)
    ·replace H := HS.cnd_t h_10 H
     try simp -implicitDefEqProofs +decide (maxSteps := 999999) [-selQ_sel, hokQ_of, h_1, h_2, h_3, h_4, h_5, h_6, h_7, h_8, h_9, h_10]
     obtain ⟨⟨w12, w13⟩, h_11, H⟩ := HS.bnd H
     dsimp only at H
     try simp -implicitDefEqProofs +decide (maxSteps := 999999) [-selQ_sel, hokQ_of, h_1, h_2, h_3, h_4, h_5, h_6, h_7, h_8, h_9, h_10, h_11]
     obtain ⟨v14, h_12, H⟩ := HS.bnd H
     try simp -implicitDefEqProofs +decide (maxSteps := 999999) [-selQ_sel, hokQ_of, h_1, h_2, h_3, h_4, h_5, h_6, h_7, h_8, h_9, h_10, h_11, h_12]
     obtain ⟨v15, h_13, H⟩ := HS.bnd H
     try simp -implicitDefEqProofs +decide (maxSteps := 999999) [-selQ_sel, hokQ_of, h_1, h_2, h_3, h_4, h_5, h_6, h_7, h_8, h_9, h_10, h_11, h_12, h_13]
     refine Hid.selQ (fun h_14 => ?_) (fun h_14 => ?_)
     ·replace H := HS.cnd_t h_14 H
      try simp -implicitDefEqProofs +decide (maxSteps := 999999) [-selQ_sel, hokQ_of, h_1, h_2, h_3, h_4, h_5, h_6, h_7, h_8, h_9, h_10, h_11, h_12, h_13, h_14]
      refine Hid.selQ (fun h_15 => ?_) (fun h_15 => ?_)
      ·replace H := HS.cnd_t h_15 H
       try simp -implicitDefEqProofs +decide (maxSteps := 999999) [-selQ_sel, hokQ_of, h_1, h_2, h_3, h_4, h_5, h_6, h_7, h_8, h_9, h_10, h_11, h_12, h_13, h_14, h_15]
       obtain ⟨v16, h_16, H⟩ := HS.bnd H
       try simp -implicitDefEqProofs +decide (maxSteps := 999999) [-selQ_sel, hokQ_of, h_1, h_2, h_3, h_4, h_5, h_6, h_7, h_8, h_9, h_10, h_11, h_12, h_13, h_14, h_15, h_16]
       refine Hid.brV (fun h_17 => ?_) (fun h_17 => ?_)
       ·replace H := HS.cnd_t h_17 H
        try simp -implicitDefEqProofs +decide (maxSteps := 999999) [-selQ_sel, hokQ_of, h_1, h_2, h_3, h_4, h_5, h_6, h_7, h_8, h_9, h_10, h_11, h_12, h_13, h_14, h_15, h_16, h_17]
        obtain ⟨q, h_18, H⟩ := HS.bnd H
        refine Hid.mk (Tr.weak (s' := (laws_FnCreates_l0_S v2) 0) (Wk.ofk [0] hk (by rfl) (by simp -implicitDefEqProofs [laws_FnCreates_l0_S, h_1, h_2, h_3, h_4, h_5, h_6, h_7, h_8, h_9, h_10, h_11, h_12, h_13, h_14, h_15, h_16, h_17]) (by simp -implicitDefEqProofs [laws_FnCreates_l0_S, h_1, h_2, h_3, h_4, h_5, h_6, h_7, h_8, h_9, h_10, h_11, h_12, h_13, h_14, h_15, h_16, h_17])) ?_)
        refine wp_loop_of (S := (laws_FnCreates_l0_S v2)) (f := (laws_FnCreates_l0 v2)) (xt := (laws_FnCreates_l0_X v2)) ?_ ?_ h_18 ?_
        ·intro q; rcases q with ⟨⟩ | ⟨⟩ <;> simp [laws_FnCreates_l0_X]
        ·clear H h_18 q
         rintro x24 o R hf hR
         have H : HS (laws_FnCreates_l0 v2 x24) o := hf
         clear hf; unfold laws_FnCreates_l0 at H
         try simp -implicitDefEqProofs at H
         refine Tr.of_vc (cl := tabC [(38, laws_big_x), (44, spec_DrawScene_x), (45, spec_DrawNode_x), (46, impl_CreateNode_x), (47, spec_CreateNode_x), (48, impl_SceneOk_x), (50, impl_DropNode_x), (51, laws_sameNode_x), (49, laws_sameScene_x), (52, spec_UnderOf_x), (53, impl_NodeAt_x)]) (E := E0) [] (tab_cons k_laws_big (tab_cons k_spec_DrawScene (tab_cons k_spec_DrawNode (tab_cons k_impl_CreateNode (tab_cons k_spec_CreateNode (tab_cons k_impl_SceneOk (tab_cons k_impl_DropNode (tab_cons k_laws_sameNode (tab_cons k_laws_sameScene (tab_cons k_spec_UnderOf (tab_cons k_impl_NodeAt tab_nil))))))))))) hm (by rw [hn]; decide +kernel) ?_
         try simp -implicitDefEqProofs +decide (maxSteps := 999999) [-selQ_sel, hokQ_of, laws_FnCreates_l0_S]
         refine Hid.brV (fun h_19 => ?_) (fun h_19 => ?_)
         ·replace H := HS.cnd_t h_19 H
          try simp -implicitDefEqProofs +decide (maxSteps := 999999) [-selQ_sel, hokQ_of, h_19]
          have hr := (HS.some H).symm; subst hr
          exact Hid.mk ⟨(laws_FnCreates_l0_X v2 (.inl ())).2, Wk.ofk [0] hk (by rfl) (by simp -implicitDefEqProofs [laws_FnCreates_l0_X, h_19]) (by simp -implicitDefEqProofs [laws_FnCreates_l0_X, h_19]), hR⟩
         ·replace H := HS.cnd_f h_19 H
          try simp -implicitDefEqProofs +decide (maxSteps := 999999) [-selQ_sel, hokQ_of, h_19]
          obtain ⟨v25, h_20, H⟩ := HS.bnd H
          try simp -implicitDefEqProofs +decide (maxSteps := 999999) [-selQ_sel, hokQ_of, h_19, h_20]
          obtain ⟨v26, h_21, H⟩ := HS.bnd H
          try simp -implicitDefEqProofs +decide (maxSteps := 999999) [-selQ_sel, hokQ_of, h_19, h_20, h_21]
          obtain ⟨⟨w28, w29⟩, h_22, H⟩ := HS.bnd H
          dsimp only at H
          try simp -implicitDefEqProofs +decide (maxSteps := 999999) [-selQ_sel, hokQ_of, h_19, h_20, h_21, h_22]
          refine Hid.selQ (fun h_23 => ?_) (fun h_23 => ?_)
          ·replace H := HS.cnd_t h_23 H
           try simp -implicitDefEqProofs +decide (maxSteps := 999999) [-selQ_sel, hokQ_of, h_19, h_20, h_21, h_22, h_23]
           obtain ⟨v30, h_24, H⟩ := HS.bnd H
           try simp -implicitDefEqProofs +decide (maxSteps := 999999) [-selQ_sel, hokQ_of, h_19, h_20, h_21, h_22, h_23, h_24]
           refine Hid.selQ (fun h_25 => ?_) (fun h_25 => ?_)
           ·replace H := HS.cnd_t h_25 H
            try simp -implicitDefEqProofs +decide (maxSteps := 999999) [-selQ_sel, hokQ_of, h_19, h_20, h_21, h_22, h_23, h_24, h_25]
            refine Hid.selQ (fun h_26 => ?_) (fun h_26 => ?_)
            ·replace H := HS.cnd_t h_26 H
             try simp -implicitDefEqProofs +decide (maxSteps := 999999) [-selQ_sel, hokQ_of, h_19, h_20, h_21, h_22, h_23, h_24, h_25, h_26]
             obtain ⟨v31, h_27, H⟩ := HS.bnd H
             try simp -implicitDefEqProofs +decide (maxSteps := 999999) [-selQ_sel, hokQ_of, h_19, h_20, h_21, h_22, h_23, h_24, h_25, h_26, h_27]
             refine Hid.brV (fun h_28 => ?_) (fun h_28 => ?_)
             ·replace H := HS.cnd_t h_28 H
              try simp -implicitDefEqProofs +decide (maxSteps := 999999) [-selQ_sel, hokQ_of, h_19, h_20, h_21, h_22, h_23, h_24, h_25, h_26, h_27, h_28]
              have hr := (HS.some H).symm; subst hr
              exact Hid.mk ⟨(laws_FnCreates_l0_X v2 (.inr ())).2, Wk.ofk [] hk (by rfl) (by simp -implicitDefEqProofs [laws_FnCreates_l0_X, h_19, h_20, h_21, h_22, h_23, h_24, h_25, h_26, h_27, h_28]) (by simp -implicitDefEqProofs [laws_FnCreates_l0_X, h_19, h_20, h_21, h_22, h_23, h_24, h_25, h_26, h_27, h_28]), hR⟩
             ·replace H := HS.cnd_f h_28 H
              try simp -implicitDefEqProofs +decide (maxSteps := 999999) [-selQ_sel, hokQ_of, h_19, h_20, h_21, h_22, h_23, h_24, h_25, h_26, h_27, h_28]
              have hr := (HS.some H).symm; subst hr
              exact Hid.mk ⟨laws_FnCreates_l0_S v2 (IntKind.i64.wrap (x24 + 1)), Wk.ofk [0] hk (by rfl) (by simp -implicitDefEqProofs [laws_FnCreates_l0_S, h_19, h_20, h_21, h_22, h_23, h_24, h_25, h_26, h_27, h_28]) (by simp -implicitDefEqProofs [laws_FnCreates_l0_S, h_19, h_20, h_21, h_22, h_23, h_24, h_25, h_26, h_27, h_28]), hR⟩
            ·replace H := HS.cnd_f h_26 H
             try simp -implicitDefEqProofs +decide (maxSteps := 999999) [-selQ_sel, hokQ_of, h_19, h_20, h_21, h_22, h_23, h_24, h_25, h_26]
             have hr := (HS.some H).symm; subst hr
             exact Hid.mk ⟨(laws_FnCreates_l0_X v2 (.inr ())).2, Wk.ofk [] hk (by rfl) (by simp -implicitDefEqProofs [laws_FnCreates_l0_X, h_19, h_20, h_21, h_22, h_23, h_24, h_25, h_26]) (by simp -implicitDefEqProofs [laws_FnCreates_l0_X, h_19, h_20, h_21, h_22, h_23, h_24, h_25, h_26]), hR⟩
           ·replace H := HS.cnd_f h_25 H
            try simp -implicitDefEqProofs +decide (maxSteps := 999999) [-selQ_sel, hokQ_of, h_19, h_20, h_21, h_22, h_23, h_24, h_25]
            have hr := (HS.some H).symm; subst hr
            exact Hid.mk ⟨(laws_FnCreates_l0_X v2 (.inr ())).2, Wk.ofk [] hk (by rfl) (by simp -implicitDefEqProofs [laws_FnCreates_l0_X, h_19, h_20, h_21, h_22, h_23, h_24, h_25]) (by simp -implicitDefEqProofs [laws_FnCreates_l0_X, h_19, h_20, h_21, h_22, h_23, h_24, h_25]), hR⟩
          ·replace H := HS.cnd_f h_23 H
           try simp -implicitDefEqProofs +decide (maxSteps := 999999) [-selQ_sel, hokQ_of, h_19, h_20, h_21, h_22, h_23]
           have hr := (HS.some H).symm; subst hr
           exact Hid.mk ⟨(laws_FnCreates_l0_X v2 (.inr ())).2, Wk.ofk [] hk (by rfl) (by simp -implicitDefEqProofs [laws_FnCreates_l0_X, h_19, h_20, h_21, h_22, h_23]) (by simp -implicitDefEqProofs [laws_FnCreates_l0_X, h_19, h_20, h_21, h_22, h_23]), hR⟩
        ·rcases q with ⟨⟩ | ⟨⟩
         ·dsimp only at H
          try simp -implicitDefEqProofs +decide (maxSteps := 999999) [-selQ_sel, hokQ_of, h_1, h_2, h_3, h_4, h_5, h_6, h_7, h_8, h_9, h_10, h_11, h_12, h_13, h_14, h_15, h_16, h_17, laws_FnCreates_l0_X]
          obtain ⟨⟨w33, w34⟩, h_29, H⟩ := HS.bnd H
          dsimp only at H
          try simp -implicitDefEqProofs +decide (maxSteps := 999999) [-selQ_sel, hokQ_of, h_1, h_2, h_3, h_4, h_5, h_6, h_7, h_8, h_9, h_10, h_11, h_12, h_13, h_14, h_15, h_16, h_17, h_29]
          obtain ⟨⟨w36, w37⟩, h_30, H⟩ := HS.bnd H
          dsimp only at H
          have k_31 := impl_CreateNode_k v2.nodes ((TNode.mk 0 0 false (TMat.mk 0 0 0 0 0 0) (TPath.mk [] []) false 0 [] (TPaint.mk 0 (TColor.mk 0 0 0 0) (TColor.mk 0 0 0 0) (TPoint.mk 0 0) (TPoint.mk 0 0)) 0 0 (TPath.mk [] [])).id) ((TNode.mk 0 0 false (TMat.mk 0 0 0 0 0 0) (TPath.mk [] []) false 0 [] (TPaint.mk 0 (TColor.mk 0 0 0 0) (TColor.mk 0 0 0 0) (TPoint.mk 0 0) (TPoint.mk 0 0)) 0 0 (TPath.mk [] [])).parent) ((TNode.mk 0 0 false (TMat.mk 0 0 0 0 0 0) (TPath.mk [] []) false 0 [] (TPaint.mk 0 (TColor.mk 0 0 0 0) (TColor.mk 0 0 0 0) (TPoint.mk 0 0) (TPoint.mk 0 0)) 0 0 (TPath.mk [] [])).group) (((TNode.mk 0 0 false (TMat.mk 0 0 0 0 0 0) (TPath.mk [] []) false 0 [] (TPaint.mk 0 (TColor.mk 0 0 0 0) (TColor.mk 0 0 0 0) (TPoint.mk 0 0) (TPoint.mk 0 0)) 0 0 (TPath.mk [] [])).mat).a) (((TNode.mk 0 0 false (TMat.mk 0 0 0 0 0 0) (TPath.mk [] []) false 0 [] (TPaint.mk 0 (TColor.mk 0 0 0 0) (TColor.mk 0 0 0 0) (TPoint.mk 0 0) (TPoint.mk 0 0)) 0 0 (TPath.mk [] [])).mat).b) (((TNode.mk 0 0 false (TMat.mk 0 0 0 0 0 0) (TPath.mk [] []) false 0 [] (TPaint.mk 0 (TColor.mk 0 0 0 0) (TColor.mk 0 0 0 0) (TPoint.mk 0 0) (TPoint.mk 0 0)) 0 0 (TPath.mk [] [])).mat).c) (((TNode.mk 0 0 false (TMat.mk 0 0 0 0 0 0) (TPath.mk [] []) false 0 [] (TPaint.mk 0 (TColor.mk 0 0 0 0) (TColor.mk 0 0 0 0) (TPoint.mk 0 0) (TPoint.mk 0 0)) 0 0 (TPath.mk [] [])).mat).d) (((TNode.mk 0 0 false (TMat.mk 0 0 0 0 0 0) (TPath.mk [] []) false 0 [] (TPaint.mk 0 (TColor.mk 0 0 0 0) (TColor.mk 0 0 0 0) (TPoint.mk 0 0) (TPoint.mk 0 0)) 0 0 (TPath.mk [] [])).mat).e) (((TNode.mk 0 0 false (TMat.mk 0 0 0 0 0 0) (TPath.mk [] []) false 0 [] (TPaint.mk 0 (TColor.mk 0 0 0 0) (TColor.mk 0 0 0 0) (TPoint.mk 0 0) (TPoint.mk 0 0)) 0 0 (TPath.mk [] [])).mat).f) (((TNode.mk 0 0 false (TMat.mk 0 0 0 0 0 0) (TPath.mk [] []) false 0 [] (TPaint.mk 0 (TColor.mk 0 0 0 0) (TColor.mk 0 0 0 0) (TPoint.mk 0 0) (TPoint.mk 0 0)) 0 0 (TPath.mk [] [])).path).verbs) (((TNode.mk 0 0 false (TMat.mk 0 0 0 0 0 0) (TPath.mk [] []) false 0 [] (TPaint.mk 0 (TColor.mk 0 0 0 0) (TColor.mk 0 0 0 0) (TPoint.mk 0 0) (TPoint.mk 0 0)) 0 0 (TPath.mk [] [])).path).points) ((TNode.mk 0 0 false (TMat.mk 0 0 0 0 0 0) (TPath.mk [] []) false 0 [] (TPaint.mk 0 (TColor.mk 0 0 0 0) (TColor.mk 0 0 0 0) (TPoint.mk 0 0) (TPoint.mk 0 0)) 0 0 (TPath.mk [] [])).even) ((TNode.mk 0 0 false (TMat.mk 0 0 0 0 0 0) (TPath.mk [] []) false 0 [] (TPaint.mk 0 (TColor.mk 0 0 0 0) (TColor.mk 0 0 0 0) (TPoint.mk 0 0) (TPoint.mk 0 0)) 0 0 (TPath.mk [] [])).width) ((TNode.mk 0 0 false (TMat.mk 0 0 0 0 0 0) (TPath.mk [] []) false 0 [] (TPaint.mk 0 (TColor.mk 0 0 0 0) (TColor.mk 0 0 0 0) (TPoint.mk 0 0) (TPoint.mk 0 0)) 0 0 (TPath.mk [] [])).dashes) (((TNode.mk 0 0 false (TMat.mk 0 0 0 0 0 0) (TPath.mk [] []) false 0 [] (TPaint.mk 0 (TColor.mk 0 0 0 0) (TColor.mk 0 0 0 0) (TPoint.mk 0 0) (TPoint.mk 0 0)) 0 0 (TPath.mk [] [])).paint).kind) ((((TNode.mk 0 0 false (TMat.mk 0 0 0 0 0 0) (TPath.mk [] []) false 0 [] (TPaint.mk 0 (TColor.mk 0 0 0 0) (TColor.mk 0 0 0 0) (TPoint.mk 0 0) (TPoint.mk 0 0)) 0 0 (TPath.mk [] [])).paint).first).r) ((((TNode.mk 0 0 false (TMat.mk 0 0 0 0 0 0) (TPath.mk [] []) false 0 [] (TPaint.mk 0 (TColor.mk 0 0 0 0) (TColor.mk 0 0 0 0) (TPoint.mk 0 0) (TPoint.mk 0 0)) 0 0 (TPath.mk [] [])).paint).first).g) ((((TNode.mk 0 0 false (TMat.mk 0 0 0 0 0 0) (TPath.mk [] []) false 0 [] (TPaint.mk 0 (TColor.mk 0 0 0 0) (TColor.mk 0 0 0 0) (TPoint.mk 0 0) (TPoint.mk 0 0)) 0 0 (TPath.mk [] [])).paint).first).b) ((((TNode.mk 0 0 false (TMat.mk 0 0 0 0 0 0) (TPath.mk [] []) false 0 [] (TPaint.mk 0 (TColor.mk 0 0 0 0) (TColor.mk 0 0 0 0) (TPoint.mk 0 0) (TPoint.mk 0 0)) 0 0 (TPath.mk [] [])).paint).first).a) ((((TNode.mk 0 0 false (TMat.mk 0 0 0 0 0 0) (TPath.mk [] []) false 0 [] (TPaint.mk 0 (TColor.mk 0 0 0 0) (TColor.mk 0 0 0 0) (TPoint.mk 0 0) (TPoint.mk 0 0)) 0 0 (TPath.mk [] [])).paint).last).r) ((((TNode.mk 0 0 false (TMat.mk 0 0 0 0 0 0) (TPath.mk [] []) false 0 [] (TPaint.mk 0 (TColor.mk 0 0 0 0) (TColor.mk 0 0 0 0) (TPoint.mk 0 0) (TPoint.mk 0 0)) 0 0 (TPath.mk [] [])).paint).last).g) ((((TNode.mk 0 0 false (TMat.mk 0 0 0 0 0 0) (TPath.mk [] []) false 0 [] (TPaint.mk 0 (TColor.mk 0 0 0 0) (TColor.mk 0 0 0 0) (TPoint.mk 0 0) (TPoint.mk 0 0)) 0 0 (TPath.mk [] [])).paint).last).b) ((((TNode.mk 0 0 false (TMat.mk 0 0 0 0 0 0) (TPath.mk [] []) false 0 [] (TPaint.mk 0 (TColor.mk 0 0 0 0) (TColor.mk 0 0 0 0) (TPoint.mk 0 0) (TPoint.mk 0 0)) 0 0 (TPath.mk [] [])).paint).last).a) ((((TNode.mk 0 0 false (TMat.mk 0 0 0 0 0 0) (TPath.mk [] []) false 0 [] (TPaint.mk 0 (TColor.mk 0 0 0 0) (TColor.mk 0 0 0 0) (TPoint.mk 0 0) (TPoint.mk 0 0)) 0 0 (TPath.mk [] [])).paint).from_).x) ((((TNode.mk 0 0 false (TMat.mk 0 0 0 0 0 0) (TPath.mk [] []) false 0 [] (TPaint.mk 0 (TColor.mk 0 0 0 0) (TColor.mk 0 0 0 0) (TPoint.mk 0 0) (TPoint.mk 0 0)) 0 0 (TPath.mk [] [])).paint).from_).y) ((((TNode.mk 0 0 false (TMat.mk 0 0 0 0 0 0) (TPath.mk [] []) false 0 [] (TPaint.mk 0 (TColor.mk 0 0 0 0) (TColor.mk 0 0 0 0) (TPoint.mk 0 0) (TPoint.mk 0 0)) 0 0 (TPath.mk [] [])).paint).to).x) ((((TNode.mk 0 0 false (TMat.mk 0 0 0 0 0 0) (TPath.mk [] []) false 0 [] (TPaint.mk 0 (TColor.mk 0 0 0 0) (TColor.mk 0 0 0 0) (TPoint.mk 0 0) (TPoint.mk 0 0)) 0 0 (TPath.mk [] [])).paint).to).y) ((TNode.mk 0 0 false (TMat.mk 0 0 0 0 0 0) (TPath.mk [] []) false 0 [] (TPaint.mk 0 (TColor.mk 0 0 0 0) (TColor.mk 0 0 0 0) (TPoint.mk 0 0) (TPoint.mk 0 0)) 0 0 (TPath.mk [] [])).mode) ((TNode.mk 0 0 false (TMat.mk 0 0 0 0 0 0) (TPath.mk [] []) false 0 [] (TPaint.mk 0 (TColor.mk 0 0 0 0) (TColor.mk 0 0 0 0) (TPoint.mk 0 0) (TPoint.mk 0 0)) 0 0 (TPath.mk [] [])).fade) (((TNode.mk 0 0 false (TMat.mk 0 0 0 0 0 0) (TPath.mk [] []) false 0 [] (TPaint.mk 0 (TColor.mk 0 0 0 0) (TColor.mk 0 0 0 0) (TPoint.mk 0 0) (TPoint.mk 0 0)) 0 0 (TPath.mk [] [])).clip).verbs) (((TNode.mk 0 0 false (TMat.mk 0 0 0 0 0 0) (TPath.mk [] []) false 0 [] (TPaint.mk 0 (TColor.mk 0 0 0 0) (TColor.mk 0 0 0 0) (TPoint.mk 0 0) (TPoint.mk 0 0)) 0 0 (TPath.mk [] [])).clip).points)
          simp -implicitDefEqProofs [-impl_CreateNode_k] at k_31
          try simp -implicitDefEqProofs +decide (maxSteps := 999999) [-selQ_sel, hokQ_of, h_1, h_2, h_3, h_4, h_5, h_6, h_7, h_8, h_9, h_10, h_11, h_12, h_13, h_14, h_15, h_16, h_17, h_29, h_30, k_31]
          refine Hid.selQ (fun h_32 => ?_) (fun h_32 => ?_)
          ·replace H := HS.cnd_t h_32 H
           try simp -implicitDefEqProofs +decide (maxSteps := 999999) [-selQ_sel, hokQ_of, h_1, h_2, h_3, h_4, h_5, h_6, h_7, h_8, h_9, h_10, h_11, h_12, h_13, h_14, h_15, h_16, h_17, h_29, h_30, k_31, h_32]
           have hr := (HS.some H).symm; subst hr
           refine Hid.mk ⟨_, Wk.refl _, ?_⟩
           try simp -implicitDefEqProofs +decide (maxSteps := 999999) [-selQ_sel, hokQ_of, h_1, h_2, h_3, h_4, h_5, h_6, h_7, h_8, h_9, h_10, h_11, h_12, h_13, h_14, h_15, h_16, h_17, h_29, h_30, k_31, h_32]
          ·replace H := HS.cnd_f h_32 H
           try simp -implicitDefEqProofs +decide (maxSteps := 999999) [-selQ_sel, hokQ_of, h_1, h_2, h_3, h_4, h_5, h_6, h_7, h_8, h_9, h_10, h_11, h_12, h_13, h_14, h_15, h_16, h_17, h_29, h_30, k_31, h_32]
           have hr := (HS.some H).symm; subst hr
           refine Hid.mk ⟨_, Wk.refl _, ?_⟩
           try simp -implicitDefEqProofs +decide (maxSteps := 999999) [-selQ_sel, hokQ_of, h_1, h_2, h_3, h_4, h_5, h_6, h_7, h_8, h_9, h_10, h_11, h_12, h_13, h_14, h_15, h_16, h_17, h_29, h_30, k_31, h_32]
         ·dsimp only at H
          try simp -implicitDefEqProofs +decide (maxSteps := 999999) [-selQ_sel, hokQ_of, h_1, h_2, h_3, h_4, h_5, h_6, h_7, h_8, h_9, h_10, h_11, h_12, h_13, h_14, h_15, h_16, h_17, laws_FnCreates_l0_X]
          have hr := (HS.some H).symm; subst hr
          refine Hid.mk ⟨_, Wk.refl _, ?_⟩
          try simp -implicitDefEqProofs +decide (maxSteps := 999999) [-selQ_sel, hokQ_of, h_1, h_2, h_3, h_4, h_5, h_6, h_7, h_8, h_9, h_10, h_11, h_12, h_13, h_14, h_15, h_16, h_17]
       ·replace H := HS.cnd_f h_17 H
        try simp -implicitDefEqProofs +decide (maxSteps := 999999) [-selQ_sel, hokQ_of, h_1, h_2, h_3, h_4, h_5, h_6, h_7, h_8, h_9, h_10, h_11, h_12, h_13, h_14, h_15, h_16, h_17]
        have hr := (HS.some H).symm; subst hr
        refine Hid.mk ⟨_, Wk.refl _, ?_⟩
        try simp -implicitDefEqProofs +decide (maxSteps := 999999) [-selQ_sel, hokQ_of, h_1, h_2, h_3, h_4, h_5, h_6, h_7, h_8, h_9, h_10, h_11, h_12, h_13, h_14, h_15, h_16, h_17]
      ·replace H := HS.cnd_f h_15 H
       try simp -implicitDefEqProofs +decide (maxSteps := 999999) [-selQ_sel, hokQ_of, h_1, h_2, h_3, h_4, h_5, h_6, h_7, h_8, h_9, h_10, h_11, h_12, h_13, h_14, h_15]
       have hr := (HS.some H).symm; subst hr
       refine Hid.mk ⟨_, Wk.refl _, ?_⟩
       try simp -implicitDefEqProofs +decide (maxSteps := 999999) [-selQ_sel, hokQ_of, h_1, h_2, h_3, h_4, h_5, h_6, h_7, h_8, h_9, h_10, h_11, h_12, h_13, h_14, h_15]
     ·replace H := HS.cnd_f h_14 H
      try simp -implicitDefEqProofs +decide (maxSteps := 999999) [-selQ_sel, hokQ_of, h_1, h_2, h_3, h_4, h_5, h_6, h_7, h_8, h_9, h_10, h_11, h_12, h_13, h_14]
      have hr := (HS.some H).symm; subst hr
      refine Hid.mk ⟨_, Wk.refl _, ?_⟩
      try simp -implicitDefEqProofs +decide (maxSteps := 999999) [-selQ_sel, hokQ_of, h_1, h_2, h_3, h_4, h_5, h_6, h_7, h_8, h_9, h_10, h_11, h_12, h_13, h_14]
    ·replace H := HS.cnd_f h_10 H
     try simp -implicitDefEqProofs +decide (maxSteps := 999999) [-selQ_sel, hokQ_of, h_1, h_2, h_3, h_4, h_5, h_6, h_7, h_8, h_9, h_10]
     obtain ⟨v38, h_33, H⟩ := HS.bnd H
     try simp -implicitDefEqProofs +decide (maxSteps := 999999) [-selQ_sel, hokQ_of, h_1, h_2, h_3, h_4, h_5, h_6, h_7, h_8, h_9, h_10, h_33]
     refine Hid.brV (fun h_34 => ?_) (fun h_34 => ?_)
     ·replace H := HS.cnd_t h_34 H
      try simp -implicitDefEqProofs +decide (maxSteps := 999999) [-selQ_sel, hokQ_of, h_1, h_2, h_3, h_4, h_5, h_6, h_7, h_8, h_9, h_10, h_33, h_34]
      obtain ⟨q, h_35, H⟩ := HS.bnd H
      refine Hid.mk (Tr.weak (s' := (laws_FnCreates_l1_S v2) 0) (Wk.ofk [0] hk (by rfl) (by simp -implicitDefEqProofs [laws_FnCreates_l1_S, h_1, h_2, h_3, h_4, h_5, h_6, h_7, h_8, h_9, h_10, h_33, h_34]) (by simp -implicitDefEqProofs [laws_FnCreates_l1_S, h_1, h_2, h_3, h_4, h_5, h_6, h_7, h_8, h_9, h_10, h_33, h_34])) ?_)
      refine wp_loop_of (S := (laws_FnCreates_l1_S v2)) (f := (laws_FnCreates_l1 v2)) (xt := (laws_FnCreates_l1_X v2)) ?_ ?_ h_35 ?_
      ·intro q; rcases q with ⟨⟩ | ⟨⟩ <;> simp [laws_FnCreates_l1_X]
      ·clear H h_35 q
       rintro x46 o R hf hR
       have H : HS (laws_FnCreates_l1 v2 x46) o := hf
       clear hf; unfold laws_FnCreates_l1 at H
       try simp -implicitDefEqProofs at H
       refine Tr.of_vc (cl := tabC [(38, laws_big_x), (44, spec_DrawScene_x), (45, spec_DrawNode_x), (46, impl_CreateNode_x), (47, spec_CreateNode_x), (48, impl_SceneOk_x), (50, impl_DropNode_x), (51, laws_sameNode_x), (49, laws_sameScene_x), (52, spec_UnderOf_x), (53, impl_NodeAt_x)]) (E := E0) [] (tab_cons k_laws_big (tab_cons k_spec_DrawScene (tab_cons k_spec_DrawNode (tab_cons k_impl_CreateNode (tab_cons k_spec_CreateNode (tab_cons k_impl_SceneOk (tab_cons k_impl_DropNode (tab_cons k_laws_sameNode (tab_cons k_laws_sameScene (tab_cons k_spec_UnderOf (tab_cons k_impl_NodeAt tab_nil))))))))))) hm (by rw [hn]; decide +kernel) ?_
       try simp -implicitDefEqProofs +decide (maxSteps := 999999) [-selQ_sel, hokQ_of, laws_FnCreates_l1_S]
       refine Hid.brV (fun h_36 => ?_) (fun h_36 => ?_)
       ·replace H := HS.cnd_t h_36 H
        try simp -implicitDefEqProofs +decide (maxSteps := 999999) [-selQ_sel, hokQ_of, h_36]
        have hr := (HS.some H).symm; subst hr
        exact Hid.mk ⟨(laws_FnCreates_l1_X v2 (.inl ())).2, Wk.ofk [0] hk (by rfl) (by simp -implicitDefEqProofs [laws_FnCreates_l1_X, h_36]) (by simp -implicitDefEqProofs [laws_FnCreates_l1_X, h_36]), hR⟩
       ·replace H := HS.cnd_f h_36 H
        try simp -implicitDefEqProofs +decide (maxSteps := 999999) [-selQ_sel, hokQ_of, h_36]
        obtain ⟨v47, h_37, H⟩ := HS.bnd H
        try simp -implicitDefEqProofs +decide (maxSteps := 999999) [-selQ_sel, hokQ_of, h_36, h_37]
        obtain ⟨v48, h_38, H⟩ := HS.bnd H
        try simp -implicitDefEqProofs +decide (maxSteps := 999999) [-selQ_sel, hokQ_of, h_36, h_37, h_38]
        obtain ⟨⟨w50, w51⟩, h_39, H⟩ := HS.bnd H
        dsimp only at H
        try simp -implicitDefEqProofs +decide (maxSteps := 999999) [-selQ_sel, hokQ_of, h_36, h_37, h_38, h_39]
        refine Hid.selQ (fun h_40 => ?_) (fun h_40 => ?_)
        ·replace H := HS.cnd_t h_40 H
         try simp -implicitDefEqProofs +decide (maxSteps := 999999) [-selQ_sel, hokQ_of, h_36, h_37, h_38, h_39, h_40]
         obtain ⟨v52, h_41, H⟩ := HS.bnd H
         try simp -implicitDefEqProofs +decide (maxSteps := 999999) [-selQ_sel, hokQ_of, h_36, h_37, h_38, h_39, h_40, h_41]
         refine Hid.selQ (fun h_42 => ?_) (fun h_42 => ?_)
         ·replace H := HS.cnd_t h_42 H
          try simp -implicitDefEqProofs +decide (maxSteps := 999999) [-selQ_sel, hokQ_of, h_36, h_37, h_38, h_39, h_40, h_41, h_42]
          refine Hid.selQ (fun h_43 => ?_) (fun h_43 => ?_)
          ·replace H := HS.cnd_t h_43 H
           try simp -implicitDefEqProofs +decide (maxSteps := 999999) [-selQ_sel, hokQ_of, h_36, h_37, h_38, h_39, h_40, h_41, h_42, h_43]
           obtain ⟨v53, h_44, H⟩ := HS.bnd H
           try simp -implicitDefEqProofs +decide (maxSteps := 999999) [-selQ_sel, hokQ_of, h_36, h_37, h_38, h_39, h_40, h_41, h_42, h_43, h_44]
           refine Hid.brV (fun h_45 => ?_) (fun h_45 => ?_)
           ·replace H := HS.cnd_t h_45 H
            try simp -implicitDefEqProofs +decide (maxSteps := 999999) [-selQ_sel, hokQ_of, h_36, h_37, h_38, h_39, h_40, h_41, h_42, h_43, h_44, h_45]
            have hr := (HS.some H).symm; subst hr
            exact Hid.mk ⟨(laws_FnCreates_l1_X v2 (.inr ())).2, Wk.ofk [] hk (by rfl) (by simp -implicitDefEqProofs [laws_FnCreates_l1_X, h_36, h_37, h_38, h_39, h_40, h_41, h_42, h_43, h_44, h_45]) (by simp -implicitDefEqProofs [laws_FnCreates_l1_X, h_36, h_37, h_38, h_39, h_40, h_41, h_42, h_43, h_44, h_45]), hR⟩
           ·replace H := HS.cnd_f h_45 H
            try simp -implicitDefEqProofs +decide (maxSteps := 999999) [-selQ_sel, hokQ_of, h_36, h_37, h_38, h_39, h_40, h_41, h_42, h_43, h_44, h_45]
            have hr := (HS.some H).symm; subst hr
            exact Hid.mk ⟨laws_FnCreates_l1_S v2 (IntKind.i64.wrap (x46 + 1)), Wk.ofk [0] hk (by rfl) (by simp -implicitDefEqProofs [laws_FnCreates_l1_S, h_36, h_37, h_38, h_39, h_40, h_41, h_42, h_43, h_44, h_45]) (by simp -implicitDefEqProofs [laws_FnCreates_l1_S, h_36, h_37, h_38, h_39, h_40, h_41, h_42, h_43, h_44, h_45]), hR⟩
          ·replace H := HS.cnd_f h_43 H
           try simp -implicitDefEqProofs +decide (maxSteps := 999999) [-selQ_sel, hokQ_of, h_36, h_37, h_38, h_39, h_40, h_41, h_42, h_43]
           have hr := (HS.some H).symm; subst hr
           exact Hid.mk ⟨(laws_FnCreates_l1_X v2 (.inr ())).2, Wk.ofk [] hk (by rfl) (by simp -implicitDefEqProofs [laws_FnCreates_l1_X, h_36, h_37, h_38, h_39, h_40, h_41, h_42, h_43]) (by simp -implicitDefEqProofs [laws_FnCreates_l1_X, h_36, h_37, h_38, h_39, h_40, h_41, h_42, h_43]), hR⟩
         ·replace H := HS.cnd_f h_42 H
          try simp -implicitDefEqProofs +decide (maxSteps := 999999) [-selQ_sel, hokQ_of, h_36, h_37, h_38, h_39, h_40, h_41, h_42]
          have hr := (HS.some H).symm; subst hr
          exact Hid.mk ⟨(laws_FnCreates_l1_X v2 (.inr ())).2, Wk.ofk [] hk (by rfl) (by simp -implicitDefEqProofs [laws_FnCreates_l1_X, h_36, h_37, h_38, h_39, h_40, h_41, h_42]) (by simp -implicitDefEqProofs [laws_FnCreates_l1_X, h_36, h_37, h_38, h_39, h_40, h_41, h_42]), hR⟩
        ·replace H := HS.cnd_f h_40 H
         try simp -implicitDefEqProofs +decide (maxSteps := 999999) [-selQ_sel, hokQ_of, h_36, h_37, h_38, h_39, h_40]
         have hr := (HS.some H).symm; subst hr
         exact Hid.mk ⟨(laws_FnCreates_l1_X v2 (.inr ())).2, Wk.ofk [] hk (by rfl) (by simp -implicitDefEqProofs [laws_FnCreates_l1_X, h_36, h_37, h_38, h_39, h_40]) (by simp -implicitDefEqProofs [laws_FnCreates_l1_X, h_36, h_37, h_38, h_39, h_40]), hR⟩
      ·rcases q with ⟨⟩ | ⟨⟩
       ·dsimp only at H
        try simp -implicitDefEqProofs +decide (maxSteps := 999999) [-selQ_sel, hokQ_of, h_1, h_2, h_3, h_4, h_5, h_6, h_7, h_8, h_9, h_10, h_33, h_34, laws_FnCreates_l1_X]
        obtain ⟨⟨w55, w56⟩, h_46, H⟩ := HS.bnd H
        dsimp only at H
        try simp -implicitDefEqProofs +decide (maxSteps := 999999) [-selQ_sel, hokQ_of, h_1, h_2, h_3, h_4, h_5, h_6, h_7, h_8, h_9, h_10, h_33, h_34, h_46]
        obtain ⟨⟨w58, w59⟩, h_47, H⟩ := HS.bnd H
        dsimp only at H
        have k_48 := impl_CreateNode_k v2.nodes ((TNode.mk 0 0 false (TMat.mk 0 0 0 0 0 0) (TPath.mk [] []) false 0 [] (TPaint.mk 0 (TColor.mk 0 0 0 0) (TColor.mk 0 0 0 0) (TPoint.mk 0 0) (TPoint.mk 0 0)) 0 0 (TPath.mk [] [])).id) ((TNode.mk 0 0 false (TMat.mk 0 0 0 0 0 0) (TPath.mk [] []) false 0 [] (TPaint.mk 0 (TColor.mk 0 0 0 0) (TColor.mk 0 0 0 0) (TPoint.mk 0 0) (TPoint.mk 0 0)) 0 0 (TPath.mk [] [])).parent) ((TNode.mk 0 0 false (TMat.mk 0 0 0 0 0 0) (TPath.mk [] []) false 0 [] (TPaint.mk 0 (TColor.mk 0 0 0 0) (TColor.mk 0 0 0 0) (TPoint.mk 0 0) (TPoint.mk 0 0)) 0 0 (TPath.mk [] [])).group) (((TNode.mk 0 0 false (TMat.mk 0 0 0 0 0 0) (TPath.mk [] []) false 0 [] (TPaint.mk 0 (TColor.mk 0 0 0 0) (TColor.mk 0 0 0 0) (TPoint.mk 0 0) (TPoint.mk 0 0)) 0 0 (TPath.mk [] [])).mat).a) (((TNode.mk 0 0 false (TMat.mk 0 0 0 0 0 0) (TPath.mk [] []) false 0 [] (TPaint.mk 0 (TColor.mk 0 0 0 0) (TColor.mk 0 0 0 0) (TPoint.mk 0 0) (TPoint.mk 0 0)) 0 0 (TPath.mk [] [])).mat).b) (((TNode.mk 0 0 false (TMat.mk 0 0 0 0 0 0) (TPath.mk [] []) false 0 [] (TPaint.mk 0 (TColor.mk 0 0 0 0) (TColor.mk 0 0 0 0) (TPoint.mk 0 0) (TPoint.mk 0 0)) 0 0 (TPath.mk [] [])).mat).c) (((TNode.mk 0 0 false (TMat.mk 0 0 0 0 0 0) (TPath.mk [] []) false 0 [] (TPaint.mk 0 (TColor.mk 0 0 0 0) (TColor.mk 0 0 0 0) (TPoint.mk 0 0) (TPoint.mk 0 0)) 0 0 (TPath.mk [] [])).mat).d) (((TNode.mk 0 0 false (TMat.mk 0 0 0 0 0 0) (TPath.mk [] []) false 0 [] (TPaint.mk 0 (TColor.mk 0 0 0 0) (TColor.mk 0 0 0 0) (TPoint.mk 0 0) (TPoint.mk 0 0)) 0 0 (TPath.mk [] [])).mat).e) (((TNode.mk 0 0 false (TMat.mk 0 0 0 0 0 0) (TPath.mk [] []) false 0 [] (TPaint.mk 0 (TColor.mk 0 0 0 0) (TColor.mk 0 0 0 0) (TPoint.mk 0 0) (TPoint.mk 0 0)) 0 0 (TPath.mk [] [])).mat).f) (((TNode.mk 0 0 false (TMat.mk 0 0 0 0 0 0) (TPath.mk [] []) false 0 [] (TPaint.mk 0 (TColor.mk 0 0 0 0) (TColor.mk 0 0 0 0) (TPoint.mk 0 0) (TPoint.mk 0 0)) 0 0 (TPath.mk [] [])).path).verbs) (((TNode.mk 0 0 false (TMat.mk 0 0 0 0 0 0) (TPath.mk [] []) false 0 [] (TPaint.mk 0 (TColor.mk 0 0 0 0) (TColor.mk 0 0 0 0) (TPoint.mk 0 0) (TPoint.mk 0 0)) 0 0 (TPath.mk [] [])).path).points) ((TNode.mk 0 0 false (TMat.mk 0 0 0 0 0 0) (TPath.mk [] []) false 0 [] (TPaint.mk 0 (TColor.mk 0 0 0 0) (TColor.mk 0 0 0 0) (TPoint.mk 0 0) (TPoint.mk 0 0)) 0 0 (TPath.mk [] [])).even) ((TNode.mk 0 0 false (TMat.mk 0 0 0 0 0 0) (TPath.mk [] []) false 0 [] (TPaint.mk 0 (TColor.mk 0 0 0 0) (TColor.mk 0 0 0 0) (TPoint.mk 0 0) (TPoint.mk 0 0)) 0 0 (TPath.mk [] [])).width) ((TNode.mk 0 0 false (TMat.mk 0 0 0 0 0 0) (TPath.mk [] []) false 0 [] (TPaint.mk 0 (TColor.mk 0 0 0 0) (TColor.mk 0 0 0 0) (TPoint.mk 0 0) (TPoint.mk 0 0)) 0 0 (TPath.mk [] [])).dashes) (((TNode.mk 0 0 false (TMat.mk 0 0 0 0 0 0) (TPath.mk [] []) false 0 [] (TPaint.mk 0 (TColor.mk 0 0 0 0) (TColor.mk 0 0 0 0) (TPoint.mk 0 0) (TPoint.mk 0 0)) 0 0 (TPath.mk [] [])).paint).kind) ((((TNode.mk 0 0 false (TMat.mk 0 0 0 0 0 0) (TPath.mk [] []) false 0 [] (TPaint.mk 0 (TColor.mk 0 0 0 0) (TColor.mk 0 0 0 0) (TPoint.mk 0 0) (TPoint.mk 0 0)) 0 0 (TPath.mk [] [])).paint).first).r) ((((TNode.mk 0 0 false (TMat.mk 0 0 0 0 0 0) (TPath.mk [] []) false 0 [] (TPaint.mk 0 (TColor.mk 0 0 0 0) (TColor.mk 0 0 0 0) (TPoint.mk 0 0) (TPoint.mk 0 0)) 0 0 (TPath.mk [] [])).paint).first).g) ((((TNode.mk 0 0 false (TMat.mk 0 0 0 0 0 0) (TPath.mk [] []) false 0 [] (TPaint.mk 0 (TColor.mk 0 0 0 0) (TColor.mk 0 0 0 0) (TPoint.mk 0 0) (TPoint.mk 0 0)) 0 0 (TPath.mk [] [])).paint).first).b) ((((TNode.mk 0 0 false (TMat.mk 0 0 0 0 0 0) (TPath.mk [] []) false 0 [] (TPaint.mk 0 (TColor.mk 0 0 0 0) (TColor.mk 0 0 0 0) (TPoint.mk 0 0) (TPoint.mk 0 0)) 0 0 (TPath.mk [] [])).paint).first).a) ((((TNode.mk 0 0 false (TMat.mk 0 0 0 0 0 0) (TPath.mk [] []) false 0 [] (TPaint.mk 0 (TColor.mk 0 0 0 0) (TColor.mk 0 0 0 0) (TPoint.mk 0 0) (TPoint.mk 0 0)) 0 0 (TPath.mk [] [])).paint).last).r) ((((TNode.mk 0 0 false (TMat.mk 0 0 0 0 0 0) (TPath.mk [] []) false 0 [] (TPaint.mk 0 (TColor.mk 0 0 0 0) (TColor.mk 0 0 0 0) (TPoint.mk 0 0) (TPoint.mk 0 0)) 0 0 (TPath.mk [] [])).paint).last).g) ((((TNode.mk 0 0 false (TMat.mk 0 0 0 0 0 0) (TPath.mk [] []) false 0 [] (TPaint.mk 0 (TColor.mk 0 0 0 0) (TColor.mk 0 0 0 0) (TPoint.mk 0 0) (TPoint.mk 0 0)) 0 0 (TPath.mk [] [])).paint).last).b) ((((TNode.mk 0 0 false (TMat.mk 0 0 0 0 0 0) (TPath.mk [] []) false 0 [] (TPaint.mk 0 (TColor.mk 0 0 0 0) (TColor.mk 0 0 0 0) (TPoint.mk 0 0) (TPoint.mk 0 0)) 0 0 (TPath.mk [] [])).paint).last).a) ((((TNode.mk 0 0 false (TMat.mk 0 0 0 0 0 0) (TPath.mk [] []) false 0 [] (TPaint.mk 0 (TColor.mk 0 0 0 0) (TColor.mk 0 0 0 0) (TPoint.mk 0 0) (TPoint.mk 0 0)) 0 0 (TPath.mk [] [])).paint).from_).x) ((((TNode.mk 0 0 false (TMat.mk 0 0 0 0 0 0) (TPath.mk [] []) false 0 [] (TPaint.mk 0 (TColor.mk 0 0 0 0) (TColor.mk 0 0 0 0) (TPoint.mk 0 0) (TPoint.mk 0 0)) 0 0 (TPath.mk [] [])).paint).from_).y) ((((TNode.mk 0 0 false (TMat.mk 0 0 0 0 0 0) (TPath.mk [] []) false 0 [] (TPaint.mk 0 (TColor.mk 0 0 0 0) (TColor.mk 0 0 0 0) (TPoint.mk 0 0) (TPoint.mk 0 0)) 0 0 (TPath.mk [] [])).paint).to).x) ((((TNode.mk 0 0 false (TMat.mk 0 0 0 0 0 0) (TPath.mk [] []) false 0 [] (TPaint.mk 0 (TColor.mk 0 0 0 0) (TColor.mk 0 0 0 0) (TPoint.mk 0 0) (TPoint.mk 0 0)) 0 0 (TPath.mk [] [])).paint).to).y) ((TNode.mk 0 0 false (TMat.mk 0 0 0 0 0 0) (TPath.mk [] []) false 0 [] (TPaint.mk 0 (TColor.mk 0 0 0 0) (TColor.mk 0 0 0 0) (TPoint.mk 0 0) (TPoint.mk 0 0)) 0 0 (TPath.mk [] [])).mode) ((TNode.mk 0 0 false (TMat.mk 0 0 0 0 0 0) (TPath.mk [] []) false 0 [] (TPaint.mk 0 (TColor.mk 0 0 0 0) (TColor.mk 0 0 0 0) (TPoint.mk 0 0) (TPoint.mk 0 0)) 0 0 (TPath.mk [] [])).fade) (((TNode.mk 0 0 false (TMat.mk 0 0 0 0 0 0) (TPath.mk [] []) false 0 [] (TPaint.mk 0 (TColor.mk 0 0 0 0) (TColor.mk 0 0 0 0) (TPoint.mk 0 0) (TPoint.mk 0 0)) 0 0 (TPath.mk [] [])).clip).verbs) (((TNode.mk 0 0 false (TMat.mk 0 0 0 0 0 0) (TPath.mk [] []) false 0 [] (TPaint.mk 0 (TColor.mk 0 0 0 0) (TColor.mk 0 0 0 0) (TPoint.mk 0 0) (TPoint.mk 0 0)) 0 0 (TPath.mk [] [])).clip).points)
        simp -implicitDefEqProofs [-impl_CreateNode_k] at k_48
        try simp -implicitDefEqProofs +decide (maxSteps := 999999) [-selQ_sel, hokQ_of, h_1, h_2, h_3, h_4, h_5, h_6, h_7, h_8, h_9, h_10, h_33, h_34, h_46, h_47, k_48]
        refine Hid.selQ (fun h_49 => ?_) (fun h_49 => ?_)
        ·replace H := HS.cnd_t h_49 H
         try simp -implicitDefEqProofs +decide (maxSteps := 999999) [-selQ_sel, hokQ_of, h_1, h_2, h_3, h_4, h_5, h_6, h_7, h_8, h_9, h_10, h_33, h_34, h_46, h_47, k_48, h_49]
         have hr := (HS.some H).symm; subst hr
         refine Hid.mk ⟨_, Wk.refl _, ?_⟩
         try simp -implicitDefEqProofs +decide (maxSteps := 999999) [-selQ_sel, hokQ_of, h_1, h_2, h_3, h_4, h_5, h_6, h_7, h_8, h_9, h_10, h_33, h_34, h_46, h_47, k_48, h_49]
        ·replace H := HS.cnd_f h_49 H
         try simp -implicitDefEqProofs +decide (maxSteps := 999999) [-selQ_sel, hokQ_of, h_1, h_2, h_3, h_4, h_5, h_6, h_7, h_8, h_9, h_10, h_33, h_34, h_46, h_47, k_48, h_49]
         have hr := (HS.some H).symm; subst hr
         refine Hid.mk ⟨_, Wk.refl _, ?_⟩
         try simp -implicitDefEqProofs +decide (maxSteps := 999999) [-selQ_sel, hokQ_of, h_1, h_2, h_3, h_4, h_5, h_6, h_7, h_8, h_9, h_10, h_33, h_34, h_46, h_47, k_48, h_49]
       ·dsimp only at H
        try simp -implicitDefEqProofs +decide (maxSteps := 999999) [-selQ_sel, hokQ_of, h_1, h_2, h_3, h_4, h_5, h_6, h_7, h_8, h_9, h_10, h_33, h_34, laws_FnCreates_l1_X]
        have hr := (HS.some H).symm; subst hr
        refine Hid.mk ⟨_, Wk.refl _, ?_⟩
        try simp -implicitDefEqProofs +decide (maxSteps := 999999) [-selQ_sel, hokQ_of, h_1, h_2, h_3, h_4, h_5, h_6, h_7, h_8, h_9, h_10, h_33, h_34]
     ·replace H := HS.cnd_f h_34 H
      try simp -implicitDefEqProofs +decide (maxSteps := 999999) [-selQ_sel, hokQ_of, h_1, h_2, h_3, h_4, h_5, h_6, h_7, h_8, h_9, h_10, h_33, h_34]
      have hr := (HS.some H).symm; subst hr
      refine Hid.mk ⟨_, Wk.refl _, ?_⟩
      try simp -implicitDefEqProofs +decide (maxSteps := 999999) [-selQ_sel, hokQ_of, h_1, h_2, h_3, h_4, h_5, h_6, h_7, h_8, h_9, h_10, h_33, h_34]
   ·replace H := HS.cnd_f h_9 H
    try simp -implicitDefEqProofs +decide (maxSteps := 999999) [-selQ_sel, hokQ_of, h_1, h_2, h_3, h_4, h_5, h_6, h_7, h_8, h_9]
    have hr := (HS.some H).symm; subst hr
    refine Hid.mk ⟨_, Wk.refl _, ?_⟩
    try simp -implicitDefEqProofs +decide (maxSteps := 999999) [-selQ_sel, hokQ_of, h_1, h_2, h_3, h_4, h_5, h_6, h_7, h_8, h_9]
  ·replace H := HS.cnd_f h_7 H
   try simp -implicitDefEqProofs +decide (maxSteps := 999999) [-selQ_sel, hokQ_of, h_1, h_2, h_3, h_4, h_5, h_6, h_7]
   have hr := (HS.some H).symm; subst hr
   refine Hid.mk ⟨_, Wk.refl _, ?_⟩
   try simp -implicitDefEqProofs +decide (maxSteps := 999999) [-selQ_sel, hokQ_of, h_1, h_2, h_3, h_4, h_5, h_6, h_7]
theorem impl_CreateNode_ok0 (hm : Try.prog.follows .mixedOrders = true) (k_impl_copyScene : Sound Try.prog 111 impl_copyScene_x) (k_impl_NodeOk : Sound Try.prog 112 impl_NodeOk_x) (k_impl_SceneOk : Sound Try.prog 48 impl_SceneOk_x) (k_impl_NodeAt : Sound Try.prog 53 impl_NodeAt_x) (k_impl_Scene_isParent : Sound Try.prog 113 impl_Scene_isParent_x) (k_impl_copyNode : Sound Try.prog 115 impl_copyNode_x) (k_impl_DepthOf : Sound Try.prog 114 impl_DepthOf_x) : Sound Try.prog 46 impl_CreateNode_x := by
 refine xOf_sound fun q r h => ?_
 obtain ⟨a0, a1⟩ := q
 refine fn_ok E0 hm Try.func46 rfl (by decide +kernel) (by rfl) fun Γ hn hk => ?_
 dsimp only [impl_CreateNode_e, impl_CreateNode_v]
 replace hn : Γ.n = 58 := hn
 replace hk : Γ.k = 0 := hk
 have H : HS (impl_CreateNode a0 a1) r := h
 clear h; unfold impl_CreateNode at H
 try simp -implicitDefEqProofs at H
 refine Tr.of_vc (cl := tabC [(111, impl_copyScene_x), (112, impl_NodeOk_x), (48, impl_SceneOk_x), (53, impl_NodeAt_x), (113, impl_Scene_isParent_x), (115, impl_copyNode_x), (114, impl_DepthOf_x)]) (E := E0) [] (tab_cons k_impl_copyScene (tab_cons k_impl_NodeOk (tab_cons k_impl_SceneOk (tab_cons k_impl_NodeAt (tab_cons k_impl_Scene_isParent (tab_cons k_impl_copyNode (tab_cons k_impl_DepthOf tab_nil))))))) hm (by rw [hn]; decide +kernel) ?_
 try simp -implicitDefEqProofs +decide (maxSteps := 999999) [-selQ_sel, hokQ_of]
 obtain ⟨v1, h_1, H⟩ := HS.bnd H
 try simp -implicitDefEqProofs +decide (maxSteps := 999999) [-selQ_sel, hokQ_of, h_1]
 obtain ⟨v2, h_2, H⟩ := HS.bnd H
 try simp -implicitDefEqProofs +decide (maxSteps := 999999) [-selQ_sel, hokQ_of, h_1, h_2]
 refine Hid.selQ (fun h_3 => ?_) (fun h_3 => ?_)
 ·replace H := HS.cnd_t h_3 H
  try simp -implicitDefEqProofs +decide (maxSteps := 999999) [-selQ_sel, hokQ_of, h_1, h_2, h_3]
  obtain ⟨v3, h_4, H⟩ := HS.bnd H
  try simp -implicitDefEqProofs +decide (maxSteps := 999999) [-selQ_sel, hokQ_of, h_1, h_2, h_3, h_4]
  refine Hid.brV (fun h_5 => ?_) (fun h_5 => ?_)
  ·replace H := HS.cnd_t h_5 H
   try simp -implicitDefEqProofs +decide (maxSteps := 999999) [-selQ_sel, hokQ_of, h_1, h_2, h_3, h_4, h_5]
   obtain ⟨v4, h_6, H⟩ := HS.bnd H
   try simp -implicitDefEqProofs +decide (maxSteps := 999999) [-selQ_sel, hokQ_of, h_1, h_2, h_3, h_4, h_5, h_6]
   refine Hid.brV (fun h_7 => ?_) (fun h_7 => ?_)
   ·replace H := HS.cnd_t h_7 H
    try simp -implicitDefEqProofs +decide (maxSteps := 999999) [-selQ_sel, hokQ_of, h_1, h_2, h_3, h_4, h_5, h_6, h_7]
    have hr := (HS.some H).symm; subst hr
    refine Hid.mk ⟨_, Wk.refl _, ?_⟩
    try simp -implicitDefEqProofs +decide (maxSteps := 999999) [-selQ_sel, hokQ_of, h_1, h_2, h_3, h_4, h_5, h_6, h_7]
   ·replace H := HS.cnd_f h_7 H
    try simp -implicitDefEqProofs +decide (maxSteps := 999999) [-selQ_sel, hokQ_of, h_1, h_2, h_3, h_4, h_5, h_6, h_7]
    obtain ⟨v5, h_8, H⟩ := HS.bnd H
    try simp -implicitDefEqProofs +decide (maxSteps := 999999) [-selQ_sel, hokQ_of, h_1, h_2, h_3, h_4, h_5, h_6, h_7, h_8]
    refine Hid.brV (fun h_9 => ?_) (fun h_9 => ?_)
    ·replace H := HS.cnd_t h_9 H
     try simp -implicitDefEqProofs +decide (maxSteps := 999999) [-selQ_sel, hokQ_of, h_1, h_2, h_3, h_4, h_5, h_6, h_7, h_8, h_9]
     refine Hid.brV (fun h_10 => ?_) (fun h_10 => ?_)
     ·replace H := HS.cnd_t h_10 H
      try simp -implicitDefEqProofs +decide (maxSteps := 999999) [-selQ_sel, hokQ_of, h_1, h_2, h_3, h_4, h_5, h_6, h_7, h_8, h_9, h_10]
      have hr := (HS.some H).symm; subst hr
      refine Hid.mk ⟨_, Wk.refl _, ?_⟩
      try simp -implicitDefEqProofs +decide (maxSteps := 999999) [-selQ_sel, hokQ_of, h_1, h_2, h_3, h_4, h_5, h_6, h_7, h_8, h_9, h_10]
     ·replace H := HS.cnd_f h_10 H
      try simp -implicitDefEqProofs +decide (maxSteps := 999999) [-selQ_sel, hokQ_of, h_1, h_2, h_3, h_4, h_5, h_6, h_7, h_8, h_9, h_10]
      refine Hid.selQ (fun h_11 => ?_) (fun h_11 => ?_)
      ·replace H := HS.cnd_t h_11 H
       try simp -implicitDefEqProofs +decide (maxSteps := 999999) [-selQ_sel, hokQ_of, h_1, h_2, h_3, h_4, h_5, h_6, h_7, h_8, h_9, h_10, h_11]
       obtain ⟨v6, h_12, H⟩ := HS.bnd H
       try simp -implicitDefEqProofs +decide (maxSteps := 999999) [-selQ_sel, hokQ_of, h_1, h_2, h_3, h_4, h_5, h_6, h_7, h_8, h_9, h_10, h_11, h_12]
       obtain ⟨h_13, H⟩ := HS.chkP H
       try simp -implicitDefEqProofs +decide (maxSteps := 999999) [-selQ_sel, hokQ_of, h_1, h_2, h_3, h_4, h_5, h_6, h_7, h_8, h_9, h_10, h_11, h_12, h_13]
       obtain ⟨l7, h_14, H⟩ := HS.nam H
       have m_15 := congrArg (List.map eNode) h_14
       have q_16 := congrArg List.length h_14
       simp -implicitDefEqProofs at m_15 q_16
       try simp only [q_16] at m_15
       try simp only [q_16] at h_13
       try simp -implicitDefEqProofs +decide (maxSteps := 999999) [-selQ_sel, hokQ_of, h_1, h_2, h_3, h_4, h_5, h_6, h_7, h_8, h_9, h_10, h_11, h_12, h_13, m_15, q_16]
       have hr := (HS.some H).symm; subst hr
       refine Hid.mk ⟨_, Wk.refl _, ?_⟩
       try simp -implicitDefEqProofs +decide (maxSteps := 999999) [-selQ_sel, hokQ_of, h_1, h_2, h_3, h_4, h_5, h_6, h_7, h_8, h_9, h_10, h_11, h_12, h_13, m_15, q_16]
      ·replace H := HS.cnd_f h_11 H
       try simp -implicitDefEqProofs +decide (maxSteps := 999999) [-selQ_sel, hokQ_of, h_1, h_2, h_3, h_4, h_5, h_6, h_7, h_8, h_9, h_10, h_11]
       obtain ⟨v8, h_17, H⟩ := HS.bnd H
       try simp -implicitDefEqProofs +decide (maxSteps := 999999) [-selQ_sel, hokQ_of, h_1, h_2, h_3, h_4, h_5, h_6, h_7, h_8, h_9, h_10, h_11, h_17]
       refine Hid.brV (fun h_18 => ?_) (fun h_18 => ?_)
       ·replace H := HS.cnd_t h_18 H
        try simp -implicitDefEqProofs +decide (maxSteps := 999999) [-selQ_sel, hokQ_of, h_1, h_2, h_3, h_4, h_5, h_6, h_7, h_8, h_9, h_10, h_11, h_17, h_18]
        have hr := (HS.some H).symm; subst hr
        refine Hid.mk ⟨_, Wk.refl _, ?_⟩
        try simp -implicitDefEqProofs +decide (maxSteps := 999999) [-selQ_sel, hokQ_of, h_1, h_2, h_3, h_4, h_5, h_6, h_7, h_8, h_9, h_10, h_11, h_17, h_18]
       ·replace H := HS.cnd_f h_18 H
        try simp -implicitDefEqProofs +decide (maxSteps := 999999) [-selQ_sel, hokQ_of, h_1, h_2, h_3, h_4, h_5, h_6, h_7, h_8, h_9, h_10, h_11, h_17, h_18]
        obtain ⟨v9, h_19, H⟩ := HS.bnd H
        try simp -implicitDefEqProofs +decide (maxSteps := 999999) [-selQ_sel, hokQ_of, h_1, h_2, h_3, h_4, h_5, h_6, h_7, h_8, h_9, h_10, h_11, h_17, h_18, h_19]
        obtain ⟨h_20, H⟩ := HS.chkP H
        try simp -implicitDefEqProofs +decide (maxSteps := 999999) [-selQ_sel, hokQ_of, h_1, h_2, h_3, h_4, h_5, h_6, h_7, h_8, h_9, h_10, h_11, h_17, h_18, h_19, h_20]
        obtain ⟨l10, h_21, H⟩ := HS.nam H
        have m_22 := congrArg (List.map eNode) h_21
        have q_23 := congrArg List.length h_21
        simp -implicitDefEqProofs at m_22 q_23
        try simp only [q_23] at m_22
        try simp only [q_23] at h_20
        try simp -implicitDefEqProofs +decide (maxSteps := 999999) [-selQ_sel, hokQ_of, h_1, h_2, h_3, h_4, h_5, h_6, h_7, h_8, h_9, h_10, h_11, h_17, h_18, h_19, h_20, m_22, q_23]
        have hr := (HS.some H).symm; subst hr
        refine Hid.mk ⟨_, Wk.refl _, ?_⟩
        try simp -implicitDefEqProofs +decide (maxSteps := 999999) [-selQ_sel, hokQ_of, h_1, h_2, h_3, h_4, h_5, h_6, h_7, h_8, h_9, h_10, h_11, h_17, h_18, h_19, h_20, m_22, q_23]
    ·replace H := HS.cnd_f h_9 H
     try simp -implicitDefEqProofs +decide (maxSteps := 999999) [-selQ_sel, hokQ_of, h_1, h_2, h_3, h_4, h_5, h_6, h_7, h_8, h_9]
     have hr := (HS.some H).symm; subst hr
     refine Hid.mk ⟨_, Wk.refl _, ?_⟩
     try simp -implicitDefEqProofs +decide (maxSteps := 999999) [-selQ_sel, hokQ_of, h_1, h_2, h_3, h_4, h_5, h_6, h_7, h_8, h_9]
  ·replace H := HS.cnd_f h_5 H
   try simp -implicitDefEqProofs +decide (maxSteps := 999999) [-selQ_sel, hokQ_of, h_1, h_2, h_3, h_4, h_5]
   have hr := (HS.some H).symm; subst hr
   refine Hid.mk ⟨_, Wk.refl _, ?_⟩
   try simp -implicitDefEqProofs +decide (maxSteps := 999999) [-selQ_sel, hokQ_of, h_1, h_2, h_3, h_4, h_5]
 ·replace H := HS.cnd_f h_3 H
  try simp -implicitDefEqProofs +decide (maxSteps := 999999) [-selQ_sel, hokQ_of, h_1, h_2, h_3]
  have hr := (HS.some H).symm; subst hr
  refine Hid.mk ⟨_, Wk.refl _, ?_⟩
  try simp -implicitDefEqProofs +decide (maxSteps := 999999) [-selQ_sel, hokQ_of, h_1, h_2, h_3]
theorem spec_PaintOk_ok0 (hm : Try.prog.follows .mixedOrders = true) (k_spec_ColorOk : Sound Try.prog 202 spec_ColorOk_x) (k_spec_PointOk : Sound Try.prog 222 spec_PointOk_x) : Sound Try.prog 188 spec_PaintOk_x := by
 refine xOf_sound fun q r h => ?_
 revert h; revert r; revert q; intro a0 r h
 refine fn_ok E0 hm Try.func188 rfl (by decide +kernel) (by rfl) fun Γ hn hk => ?_
 dsimp only [spec_PaintOk_e, spec_PaintOk_v]
 replace hn : Γ.n = 55 := hn
 replace hk : Γ.k = 0 := hk
 have H : HS (spec_PaintOk a0) r := h
 clear h; unfold spec_PaintOk at H
 try simp -implicitDefEqProofs at H
 refine Tr.of_vc (cl := tabC [(202, spec_ColorOk_x), (222, spec_PointOk_x)]) (E := E0) [] (tab_cons k_spec_ColorOk (tab_cons k_spec_PointOk tab_nil)) hm (by rw [hn]; decide +kernel) ?_
 try simp -implicitDefEqProofs (maxSteps := 999999) [-selQ_sel]
 obtain ⟨v1, h_1, H⟩ := HS.bnd H
 try simp -implicitDefEqProofs (maxSteps := 999999) [-selQ_sel, h_1]
 refine Hid.brV (fun h_2 => ?_) (fun h_2 => ?_)
 ·replace H := HS.cnd_t h_2 H
  try simp -implicitDefEqProofs (maxSteps := 999999) [-selQ_sel, h_1, h_2]
  refine Hid.brV (fun h_3 => ?_) (fun h_3 => ?_)
  ·replace H := HS.cnd_t h_3 H
   try simp -implicitDefEqProofs (maxSteps := 999999) [-selQ_sel, h_1, h_2, h_3]
   refine Hid.selQ (fun h_4 => ?_) (fun h_4 => ?_)
   ·replace H := HS.cnd_t h_4 H
    try simp -implicitDefEqProofs (maxSteps := 999999) [-selQ_sel, h_1, h_2, h_3, h_4]
    refine Hid.selQ (fun h_5 => ?_) (fun h_5 => ?_)
    ·replace H := HS.cnd_t h_5 H
     try simp -implicitDefEqProofs (maxSteps := 999999) [-selQ_sel, h_1, h_2, h_3, h_4, h_5]
     have hr := (HS.some H).symm; subst hr
     refine Hid.mk ⟨_, Wk.refl _, ?_⟩
     try simp -implicitDefEqProofs (maxSteps := 999999) [-selQ_sel, h_1, h_2, h_3, h_4, h_5]
    ·replace H := HS.cnd_f h_5 H
     try simp -implicitDefEqProofs (maxSteps := 999999) [-selQ_sel, h_1, h_2, h_3, h_4, h_5]
     have hr := (HS.some H).symm; subst hr
     refine Hid.mk ⟨_, Wk.refl _, ?_⟩
     try simp -implicitDefEqProofs (maxSteps := 999999) [-selQ_sel, h_1, h_2, h_3, h_4, h_5]
   ·replace H := HS.cnd_f h_4 H
    try simp -implicitDefEqProofs (maxSteps := 999999) [-selQ_sel, h_1, h_2, h_3, h_4]
    have hr := (HS.some H).symm; subst hr
    refine Hid.mk ⟨_, Wk.refl _, ?_⟩
    try simp -implicitDefEqProofs (maxSteps := 999999) [-selQ_sel, h_1, h_2, h_3, h_4]
  ·replace H := HS.cnd_f h_3 H
   try simp -implicitDefEqProofs (maxSteps := 999999) [-selQ_sel, h_1, h_2, h_3]
   refine Hid.selQ (fun h_6 => ?_) (fun h_6 => ?_)
   ·replace H := HS.cnd_t h_6 H
    try simp -implicitDefEqProofs (maxSteps := 999999) [-selQ_sel, h_1, h_2, h_3, h_6]
    obtain ⟨v2, h_7, H⟩ := HS.bnd H
    try simp -implicitDefEqProofs (maxSteps := 999999) [-selQ_sel, h_1, h_2, h_3, h_6, h_7]
    refine Hid.selQ (fun h_8 => ?_) (fun h_8 => ?_)
    ·replace H := HS.cnd_t h_8 H
     try simp -implicitDefEqProofs (maxSteps := 999999) [-selQ_sel, h_1, h_2, h_3, h_6, h_7, h_8]
     obtain ⟨v3, h_9, H⟩ := HS.bnd H
     try simp -implicitDefEqProofs (maxSteps := 999999) [-selQ_sel, h_1, h_2, h_3, h_6, h_7, h_8, h_9]
     refine Hid.selQ (fun h_10 => ?_) (fun h_10 => ?_)
     ·replace H := HS.cnd_t h_10 H
      try simp -implicitDefEqProofs (maxSteps := 999999) [-selQ_sel, h_1, h_2, h_3, h_6, h_7, h_8, h_9, h_10]
      obtain ⟨v4, h_11, H⟩ := HS.bnd H
      try simp -implicitDefEqProofs (maxSteps := 999999) [-selQ_sel, h_1, h_2, h_3, h_6, h_7, h_8, h_9, h_10, h_11]
      refine Hid.selQ (fun h_12 => ?_) (fun h_12 => ?_)
      ·replace H := HS.cnd_t h_12 H
       try simp -implicitDefEqProofs (maxSteps := 999999) [-selQ_sel, h_1, h_2, h_3, h_6, h_7, h_8, h_9, h_10, h_11, h_12]
       have hr := (HS.some H).symm; subst hr
       refine Hid.mk ⟨_, Wk.refl _, ?_⟩
       try simp -implicitDefEqProofs (maxSteps := 999999) [-selQ_sel, h_1, h_2, h_3, h_6, h_7, h_8, h_9, h_10, h_11, h_12]
      ·replace H := HS.cnd_f h_12 H
       try simp -implicitDefEqProofs (maxSteps := 999999) [-selQ_sel, h_1, h_2, h_3, h_6, h_7, h_8, h_9, h_10, h_11, h_12]
       have hr := (HS.some H).symm; subst hr
       refine Hid.mk ⟨_, Wk.refl _, ?_⟩
       try simp -implicitDefEqProofs (maxSteps := 999999) [-selQ_sel, h_1, h_2, h_3, h_6, h_7, h_8, h_9, h_10, h_11, h_12]
     ·replace H := HS.cnd_f h_10 H
      try simp -implicitDefEqProofs (maxSteps := 999999) [-selQ_sel, h_1, h_2, h_3, h_6, h_7, h_8, h_9, h_10]
      have hr := (HS.some H).symm; subst hr
      refine Hid.mk ⟨_, Wk.refl _, ?_⟩
      try simp -implicitDefEqProofs (maxSteps := 999999) [-selQ_sel, h_1, h_2, h_3, h_6, h_7, h_8, h_9, h_10]
    ·replace H := HS.cnd_f h_8 H
     try simp -implicitDefEqProofs (maxSteps := 999999) [-selQ_sel, h_1, h_2, h_3, h_6, h_7, h_8]
     have hr := (HS.some H).symm; subst hr
     refine Hid.mk ⟨_, Wk.refl _, ?_⟩
     try simp -implicitDefEqProofs (maxSteps := 999999) [-selQ_sel, h_1, h_2, h_3, h_6, h_7, h_8]
   ·replace H := HS.cnd_f h_6 H
    try simp -implicitDefEqProofs (maxSteps := 999999) [-selQ_sel, h_1, h_2, h_3, h_6]
    have hr := (HS.some H).symm; subst hr
    refine Hid.mk ⟨_, Wk.refl _, ?_⟩
    try simp -implicitDefEqProofs (maxSteps := 999999) [-selQ_sel, h_1, h_2, h_3, h_6]
 ·replace H := HS.cnd_f h_2 H
  try simp -implicitDefEqProofs (maxSteps := 999999) [-selQ_sel, h_1, h_2]
  have hr := (HS.some H).symm; subst hr
  refine Hid.mk ⟨_, Wk.refl _, ?_⟩
  try simp -implicitDefEqProofs (maxSteps := 999999) [-selQ_sel, h_1, h_2]
theorem impl_UnderOf_ok0 (hm : Try.prog.follows .mixedOrders = true) (k_impl_NodeAt : Sound Try.prog 53 impl_NodeAt_x) (k_impl_Scene_comesTo : Sound Try.prog 190 impl_Scene_comesTo_x) : Sound Try.prog 122 impl_UnderOf_x := by
 refine xOf_sound fun q r h => ?_
 obtain ⟨a0, a1⟩ := q
 refine fn_ok E0 hm Try.func122 rfl (by decide +kernel) (by rfl) fun Γ hn hk => ?_
 dsimp only [impl_UnderOf_e, impl_UnderOf_v]
 replace hn : Γ.n = 30 := hn
 replace hk : Γ.k = 0 := hk
 have H : HS (impl_UnderOf a0 a1) r := h
 clear h; unfold impl_UnderOf at H
 try simp -implicitDefEqProofs at H
 refine Tr.of_vc (cl := tabC [(53, impl_NodeAt_x), (190, impl_Scene_comesTo_x)]) (E := E0) [] (tab_cons k_impl_NodeAt (tab_cons k_impl_Scene_comesTo tab_nil)) hm (by rw [hn]; decide +kernel) ?_
 try simp -implicitDefEqProofs (maxSteps := 999999) [-selQ_sel]
 obtain ⟨v1, h_1, H⟩ := HS.bnd H
 try simp -implicitDefEqProofs (maxSteps := 999999) [-selQ_sel, h_1]
 refine Hid.brV (fun h_2 => ?_) (fun h_2 => ?_)
 ·replace H := HS.cnd_t h_2 H
  try simp -implicitDefEqProofs (maxSteps := 999999) [-selQ_sel, h_1, h_2]
  obtain ⟨q, h_3, H⟩ := HS.bnd H
  refine Hid.mk (Tr.weak (s' := (impl_UnderOf_l0_S a0 a1) ([], 0)) (Wk.ofk [0, 1] hk (by rfl) (by simp -implicitDefEqProofs [impl_UnderOf_l0_S, h_1, h_2]) (by simp -implicitDefEqProofs [impl_UnderOf_l0_S, h_1, h_2])) ?_)
  refine wp_loop_of (S := (impl_UnderOf_l0_S a0 a1)) (f := (impl_UnderOf_l0 a0 a1)) (xt := (impl_UnderOf_l0_X a0 a1)) ?_ ?_ h_3 ?_
  ·intro q; simp [impl_UnderOf_l0_X]
  ·clear H h_3 q
   rintro ⟨x4, x5⟩ o R hf hR
   have H : HS (impl_UnderOf_l0 a0 a1 (x4, x5)) o := hf
   clear hf; unfold impl_UnderOf_l0 at H
   try simp -implicitDefEqProofs at H
   refine Tr.of_vc (cl := tabC [(53, impl_NodeAt_x), (190, impl_Scene_comesTo_x)]) (E := E0) [] (tab_cons k_impl_NodeAt (tab_cons k_impl_Scene_comesTo tab_nil)) hm (by rw [hn]; decide +kernel) ?_
   try simp -implicitDefEqProofs (maxSteps := 999999) [-selQ_sel, impl_UnderOf_l0_S]
   refine Hid.brV (fun h_4 => ?_) (fun h_4 => ?_)
   ·replace H := HS.cnd_t h_4 H
    try simp -implicitDefEqProofs (maxSteps := 999999) [-selQ_sel, h_4]
    have hr := (HS.some H).symm; subst hr
    exact Hid.mk ⟨(impl_UnderOf_l0_X a0 a1 x4).2, Wk.ofk [1] hk (by rfl) (by simp -implicitDefEqProofs [impl_UnderOf_l0_X, h_4]) (by simp -implicitDefEqProofs [impl_UnderOf_l0_X, h_4]), hR⟩
   ·replace H := HS.cnd_f h_4 H
    try simp -implicitDefEqProofs (maxSteps := 999999) [-selQ_sel, h_4]
    obtain ⟨v6, h_5, H⟩ := HS.bnd H
    try simp -implicitDefEqProofs (maxSteps := 999999) [-selQ_sel, h_4, h_5]
    obtain ⟨v7, h_6, H⟩ := HS.bnd H
    try simp -implicitDefEqProofs (maxSteps := 999999) [-selQ_sel, h_4, h_5, h_6]
    refine Hid.brV (fun h_7 => ?_) (fun h_7 => ?_)
    ·replace H := HS.cnd_t h_7 H
     try simp -implicitDefEqProofs (maxSteps := 999999) [-selQ_sel, h_4, h_5, h_6, h_7]
     obtain ⟨h_8, H⟩ := HS.chkP H
     try simp -implicitDefEqProofs (maxSteps := 999999) [-selQ_sel, h_4, h_5, h_6, h_7, h_8]
     obtain ⟨l8, h_9, H⟩ := HS.nam H
     have m_10 := congrArg (List.map (AV.int .i64)) h_9
     have q_11 := congrArg List.length h_9
     simp -implicitDefEqProofs at m_10 q_11
     try simp only [q_11] at m_10
     try simp only [q_11] at h_8
     try simp -implicitDefEqProofs (maxSteps := 999999) [-selQ_sel, h_4, h_5, h_6, h_7, h_8, m_10, q_11]
     have hr := (HS.some H).symm; subst hr
     exact Hid.mk ⟨impl_UnderOf_l0_S a0 a1 (l8, (IntKind.i64.wrap (x5 + 1))), Wk.ofk [0, 1] hk (by rfl) (by simp -implicitDefEqProofs [impl_UnderOf_l0_S, h_4, h_5, h_6, h_7, h_8, m_10, q_11]) (by simp -implicitDefEqProofs [impl_UnderOf_l0_S, h_4, h_5, h_6, h_7, h_8, m_10, q_11]), hR⟩
    ·replace H := HS.cnd_f h_7 H
     try simp -implicitDefEqProofs (maxSteps := 999999) [-selQ_sel, h_4, h_5, h_6, h_7]
     have hr := (HS.some H).symm; subst hr
     exact Hid.mk ⟨impl_UnderOf_l0_S a0 a1 (x4, (IntKind.i64.wrap (x5 + 1))), Wk.ofk [0, 1] hk (by rfl) (by simp -implicitDefEqProofs [impl_UnderOf_l0_S, h_4, h_5, h_6, h_7]) (by simp -implicitDefEqProofs [impl_UnderOf_l0_S, h_4, h_5, h_6, h_7]), hR⟩
  ·revert H h_3; revert q; intro y9 h_3 H
   try dsimp only at H
   try simp -implicitDefEqProofs (maxSteps := 999999) [-selQ_sel, h_1, h_2, impl_UnderOf_l0_X]
   have hr := (HS.some H).symm; subst hr
   refine Hid.mk ⟨_, Wk.refl _, ?_⟩
   try simp -implicitDefEqProofs (maxSteps := 999999) [-selQ_sel, h_1, h_2]
 ·replace H := HS.cnd_f h_2 H
  try simp -implicitDefEqProofs (maxSteps := 999999) [-selQ_sel, h_1, h_2]
  have hr := (HS.some H).symm; subst hr
  refine Hid.mk ⟨_, Wk.refl _, ?_⟩
  try simp -implicitDefEqProofs (maxSteps := 999999) [-selQ_sel, h_1, h_2]
theorem spec_l15Under_ok0 (hm : Try.prog.follows .mixedOrders = true) (k_spec_NodeAt : Sound Try.prog 119 spec_NodeAt_x) : Sound Try.prog 126 spec_l15Under_x := by
 refine xOf_sound fun q r h => ?_
 obtain ⟨a0, a1, a2⟩ := q
 refine fn_ok E0 hm Try.func126 rfl (by decide +kernel) (by rfl) fun Γ hn hk => ?_
 dsimp only [spec_l15Under_e, spec_l15Under_v]
 replace hn : Γ.n = 27 := hn
 replace hk : Γ.k = 0 := hk
 have H : HS (spec_l15Under a0 a1 a2) r := h
 clear h; unfold spec_l15Under at H
 try simp -implicitDefEqProofs at H
 refine Tr.of_vc (cl := tabC [(119, spec_NodeAt_x)]) (E := E0) [] (tab_cons k_spec_NodeAt tab_nil) hm (by rw [hn]; decide +kernel) ?_
 try simp -implicitDefEqProofs (maxSteps := 999999) [-selQ_sel]
 obtain ⟨q, h_1, H⟩ := HS.bnd H
 refine Hid.mk (Tr.weak (s' := (spec_l15Under_l0_S a0 a2) (a1, 0)) (Wk.ofk [0] hk (by rfl) (by simp -implicitDefEqProofs [spec_l15Under_l0_S]) (by simp -implicitDefEqProofs [spec_l15Under_l0_S])) ?_)
 refine wp_loop_of (S := (spec_l15Under_l0_S a0 a2)) (f := (spec_l15Under_l0 a0 a2)) (xt := (spec_l15Under_l0_X a0 a2)) ?_ ?_ h_1 ?_
 ·intro q; rcases q with y7 | ⟨⟩ <;> simp [spec_l15Under_l0_X]
 ·clear H h_1 q
  rintro ⟨x3, x4⟩ o R hf hR
  have H : HS (spec_l15Under_l0 a0 a2 (x3, x4)) o := hf
  clear hf; unfold spec_l15Under_l0 at H
  try simp -implicitDefEqProofs at H
  refine Tr.of_vc (cl := tabC [(119, spec_NodeAt_x)]) (E := E0) [] (tab_cons k_spec_NodeAt tab_nil) hm (by rw [hn]; decide +kernel) ?_
  try simp -implicitDefEqProofs (maxSteps := 999999) [-selQ_sel, spec_l15Under_l0_S]
  refine Hid.brV (fun h_2 => ?_) (fun h_2 => ?_)
  ·replace H := HS.cnd_t h_2 H
   try simp -implicitDefEqProofs (maxSteps := 999999) [-selQ_sel, h_2]
   refine Hid.brV (fun h_3 => ?_) (fun h_3 => ?_)
   ·replace H := HS.cnd_t h_3 H
    try simp -implicitDefEqProofs (maxSteps := 999999) [-selQ_sel, h_2, h_3]
    have hr := (HS.some H).symm; subst hr
    exact Hid.mk ⟨(spec_l15Under_l0_X a0 a2 (.inl true)).2, Wk.ofk [] hk (by rfl) (by simp -implicitDefEqProofs [spec_l15Under_l0_X, h_2, h_3]) (by simp -implicitDefEqProofs [spec_l15Under_l0_X, h_2, h_3]), hR⟩
   ·replace H := HS.cnd_f h_3 H
    try simp -implicitDefEqProofs (maxSteps := 999999) [-selQ_sel, h_2, h_3]
    obtain ⟨v5, h_4, H⟩ := HS.bnd H
    try simp -implicitDefEqProofs (maxSteps := 999999) [-selQ_sel, h_2, h_3, h_4]
    refine Hid.brV (fun h_5 => ?_) (fun h_5 => ?_)
    ·replace H := HS.cnd_t h_5 H
     try simp -implicitDefEqProofs (maxSteps := 999999) [-selQ_sel, h_2, h_3, h_4, h_5]
     obtain ⟨v6, h_6, H⟩ := HS.bnd H
     try simp -implicitDefEqProofs (maxSteps := 999999) [-selQ_sel, h_2, h_3, h_4, h_5, h_6]
     have hr := (HS.some H).symm; subst hr
     exact Hid.mk ⟨spec_l15Under_l0_S a0 a2 (v6.parent, (IntKind.i64.wrap (x4 + 1))), Wk.ofk [0] hk (by rfl) (by simp -implicitDefEqProofs [spec_l15Under_l0_S, h_2, h_3, h_4, h_5, h_6]) (by simp -implicitDefEqProofs [spec_l15Under_l0_S, h_2, h_3, h_4, h_5, h_6]), hR⟩
    ·replace H := HS.cnd_f h_5 H
     try simp -implicitDefEqProofs (maxSteps := 999999) [-selQ_sel, h_2, h_3, h_4, h_5]
     have hr := (HS.some H).symm; subst hr
     exact Hid.mk ⟨(spec_l15Under_l0_X a0 a2 (.inl false)).2, Wk.ofk [] hk (by rfl) (by simp -implicitDefEqProofs [spec_l15Under_l0_X, h_2, h_3, h_4, h_5]) (by simp -implicitDefEqProofs [spec_l15Under_l0_X, h_2, h_3, h_4, h_5]), hR⟩
  ·replace H := HS.cnd_f h_2 H
   try simp -implicitDefEqProofs (maxSteps := 999999) [-selQ_sel, h_2]
   have hr := (HS.some H).symm; subst hr
   exact Hid.mk ⟨(spec_l15Under_l0_X a0 a2 (.inr ())).2, Wk.ofk [] hk (by rfl) (by simp -implicitDefEqProofs [spec_l15Under_l0_X, h_2]) (by simp -implicitDefEqProofs [spec_l15Under_l0_X, h_2]), hR⟩
 ·rcases q with y7 | ⟨⟩
  ·dsimp only at H
   try simp -implicitDefEqProofs (maxSteps := 999999) [-selQ_sel, spec_l15Under_l0_X]
   have hr := (HS.some H).symm; subst hr
   refine Hid.mk ⟨_, Wk.refl _, ?_⟩
   try simp -implicitDefEqProofs (maxSteps := 999999) [-selQ_sel]
  ·dsimp only at H
   try simp -implicitDefEqProofs (maxSteps := 999999) [-selQ_sel, spec_l15Under_l0_X]
   have hr := (HS.some H).symm; subst hr
   refine Hid.mk ⟨_, Wk.refl _, ?_⟩
   try simp -implicitDefEqProofs (maxSteps := 999999) [-selQ_sel]
theorem slices_IndexFunc_Node_DropNode_1_ok0 (hm : Try.prog.follows .mixedOrders = true) (k_impl_DropNode_1 : Sound Try.prog 124 impl_DropNode_1_x) : Sound Try.prog 127 slices_IndexFunc_Node_DropNode_1_x := by
 refine xOf_sound fun q r h => ?_
 obtain ⟨a0, a1⟩ := q
 refine fn_ok E0 hm Try.func127 rfl (by decide +kernel) (by rfl) fun Γ hn hk => ?_
 dsimp only [slices_IndexFunc_Node_DropNode_1_e, slices_IndexFunc_Node_DropNode_1_v]
 replace hn : Γ.n = 19 := hn
 replace hk : Γ.k = 0 := hk
 have H : HS (slices_IndexFunc_Node_DropNode_1 a0 a1) r := h
 clear h; unfold slices_IndexFunc_Node_DropNode_1 at H
 try simp -implicitDefEqProofs at H
 refine Tr.of_vc (cl := tabC [(124, impl_DropNode_1_x)]) (E := E0) [] (tab_cons k_impl_DropNode_1 tab_nil) hm (by rw [hn]; decide +kernel) ?_
 try simp -implicitDefEqProofs (maxSteps := 999999) [-selQ_sel]
 obtain ⟨q, h_1, H⟩ := HS.bnd H
 refine Hid.mk (Tr.weak (s' := (slices_IndexFunc_Node_DropNode_1_l0_S a0 a1) 0) (Wk.ofk [] hk (by rfl) (by simp -implicitDefEqProofs [slices_IndexFunc_Node_DropNode_1_l0_S]) (by simp -implicitDefEqProofs [slices_IndexFunc_Node_DropNode_1_l0_S])) ?_)
 refine wp_loop_of (S := (slices_IndexFunc_Node_DropNode_1_l0_S a0 a1)) (f := (slices_IndexFunc_Node_DropNode_1_l0 a0 a1)) (xt := (slices_IndexFunc_Node_DropNode_1_l0_X a0 a1)) ?_ ?_ h_1 ?_
 ·intro q; rcases q with ⟨⟩ | y6 <;> simp [slices_IndexFunc_Node_DropNode_1_l0_X]
 ·clear H h_1 q
  rintro x3 o R hf hR
  have H : HS (slices_IndexFunc_Node_DropNode_1_l0 a0 a1 x3) o := hf
  clear hf; unfold slices_IndexFunc_Node_DropNode_1_l0 at H
  try simp -implicitDefEqProofs at H
  refine Tr.of_vc (cl := tabC [(124, impl_DropNode_1_x)]) (E := E0) [] (tab_cons k_impl_DropNode_1 tab_nil) hm (by rw [hn]; decide +kernel) ?_
  try simp -implicitDefEqProofs (maxSteps := 999999) [-selQ_sel, slices_IndexFunc_Node_DropNode_1_l0_S]
  refine Hid.brV (fun h_2 => ?_) (fun h_2 => ?_)
  ·replace H := HS.cnd_t h_2 H
   try simp -implicitDefEqProofs (maxSteps := 999999) [-selQ_sel, h_2]
   have hr := (HS.some H).symm; subst hr
   exact Hid.mk ⟨(slices_IndexFunc_Node_DropNode_1_l0_X a0 a1 (.inl ())).2, Wk.ofk [] hk (by rfl) (by simp -implicitDefEqProofs [slices_IndexFunc_Node_DropNode_1_l0_X, h_2]) (by simp -implicitDefEqProofs [slices_IndexFunc_Node_DropNode_1_l0_X, h_2]), hR⟩
  ·replace H := HS.cnd_f h_2 H
   try simp -implicitDefEqProofs (maxSteps := 999999) [-selQ_sel, h_2]
   obtain ⟨v4, h_3, H⟩ := HS.bnd H
   try simp -implicitDefEqProofs (maxSteps := 999999) [-selQ_sel, h_2, h_3]
   obtain ⟨v5, h_4, H⟩ := HS.bnd H
   try simp -implicitDefEqProofs (maxSteps := 999999) [-selQ_sel, h_2, h_3, h_4]
   refine Hid.brV (fun h_5 => ?_) (fun h_5 => ?_)
   ·replace H := HS.cnd_t h_5 H
    try simp -implicitDefEqProofs (maxSteps := 999999) [-selQ_sel, h_2, h_3, h_4, h_5]
    have hr := (HS.some H).symm; subst hr
    exact Hid.mk ⟨(slices_IndexFunc_Node_DropNode_1_l0_X a0 a1 (.inr x3)).2, Wk.ofk [] hk (by rfl) (by simp -implicitDefEqProofs [slices_IndexFunc_Node_DropNode_1_l0_X, h_2, h_3, h_4, h_5]) (by simp -implicitDefEqProofs [slices_IndexFunc_Node_DropNode_1_l0_X, h_2, h_3, h_4, h_5]), hR⟩
   ·replace H := HS.cnd_f h_5 H
    try simp -implicitDefEqProofs (maxSteps := 999999) [-selQ_sel, h_2, h_3, h_4, h_5]
    have hr := (HS.some H).symm; subst hr
    exact Hid.mk ⟨slices_IndexFunc_Node_DropNode_1_l0_S a0 a1 (IntKind.i64.wrap (x3 + 1)), Wk.ofk [] hk (by rfl) (by simp -implicitDefEqProofs [slices_IndexFunc_Node_DropNode_1_l0_S, h_2, h_3, h_4, h_5]) (by simp -implicitDefEqProofs [slices_IndexFunc_Node_DropNode_1_l0_S, h_2, h_3, h_4, h_5]), hR⟩
 ·rcases q with ⟨⟩ | y6
  ·dsimp only at H
   try simp -implicitDefEqProofs (maxSteps := 999999) [-selQ_sel, slices_IndexFunc_Node_DropNode_1_l0_X]
   have hr := (HS.some H).symm; subst hr
   refine Hid.mk ⟨_, Wk.refl _, ?_⟩
   try simp -implicitDefEqProofs (maxSteps := 999999) [-selQ_sel]
  ·dsimp only at H
   try simp -implicitDefEqProofs (maxSteps := 999999) [-selQ_sel, slices_IndexFunc_Node_DropNode_1_l0_X]
   have hr := (HS.some H).symm; subst hr
   refine Hid.mk ⟨_, Wk.refl _, ?_⟩
   try simp -implicitDefEqProofs (maxSteps := 999999) [-selQ_sel]
theorem spec_DashOk_ok0 (hm : Try.prog.follows .mixedOrders = true) (k_spec_l01In : Sound Try.prog 91 spec_l01In_x) : Sound Try.prog 185 spec_DashOk_x := by
 refine xOf_sound fun q r h => ?_
 revert h; revert r; revert q; intro a0 r h
 refine fn_ok E0 hm Try.func185 rfl (by decide +kernel) (by rfl) fun Γ hn hk => ?_
 dsimp only [spec_DashOk_e, spec_DashOk_v]
 replace hn : Γ.n = 25 := hn
 replace hk : Γ.k = 0 := hk
 have H : HS (spec_DashOk a0) r := h
 clear h; unfold spec_DashOk at H
 try simp -implicitDefEqProofs at H
 refine Tr.of_vc (cl := tabC [(91, spec_l01In_x)]) (E := E0) [] (tab_cons k_spec_l01In tab_nil) hm (by rw [hn]; decide +kernel) ?_
 try simp -implicitDefEqProofs (maxSteps := 999999) [-selQ_sel]
 obtain ⟨q, h_1, H⟩ := HS.bnd H
 refine Hid.mk (Tr.weak (s' := (spec_DashOk_l0_S a0) 0) (Wk.ofk [] hk (by rfl) (by simp -implicitDefEqProofs [spec_DashOk_l0_S]) (by simp -implicitDefEqProofs [spec_DashOk_l0_S])) ?_)
 refine wp_loop_of (S := (spec_DashOk_l0_S a0)) (f := (spec_DashOk_l0 a0)) (xt := (spec_DashOk_l0_X a0)) ?_ ?_ h_1 ?_
 ·intro q; rcases q with ⟨⟩ | ⟨⟩ <;> simp [spec_DashOk_l0_X]
 ·clear H h_1 q
  rintro x3 o R hf hR
  have H : HS (spec_DashOk_l0 a0 x3) o := hf
  clear hf; unfold spec_DashOk_l0 at H
  try simp -implicitDefEqProofs at H
  refine Tr.of_vc (cl := tabC [(91, spec_l01In_x)]) (E := E0) [] (tab_cons k_spec_l01In tab_nil) hm (by rw [hn]; decide +kernel) ?_
  try simp -implicitDefEqProofs (maxSteps := 999999) [-selQ_sel, spec_DashOk_l0_S]
  refine Hid.brV (fun h_2 => ?_) (fun h_2 => ?_)
  ·replace H := HS.cnd_t h_2 H
   try simp -implicitDefEqProofs (maxSteps := 999999) [-selQ_sel, h_2]
   have hr := (HS.some H).symm; subst hr
   exact Hid.mk ⟨(spec_DashOk_l0_X a0 (.inl ())).2, Wk.ofk [] hk (by rfl) (by simp -implicitDefEqProofs [spec_DashOk_l0_X, h_2]) (by simp -implicitDefEqProofs [spec_DashOk_l0_X, h_2]), hR⟩
  ·replace H := HS.cnd_f h_2 H
   try simp -implicitDefEqProofs (maxSteps := 999999) [-selQ_sel, h_2]
   obtain ⟨v4, h_3, H⟩ := HS.bnd H
   try simp -implicitDefEqProofs (maxSteps := 999999) [-selQ_sel, h_2, h_3]
   obtain ⟨v5, h_4, H⟩ := HS.bnd H
   try simp -implicitDefEqProofs (maxSteps := 999999) [-selQ_sel, h_2, h_3, h_4]
   refine Hid.brV (fun h_5 => ?_) (fun h_5 => ?_)
   ·replace H := HS.cnd_t h_5 H
    try simp -implicitDefEqProofs (maxSteps := 999999) [-selQ_sel, h_2, h_3, h_4, h_5]
    have hr := (HS.some H).symm; subst hr
    exact Hid.mk ⟨spec_DashOk_l0_S a0 (IntKind.i64.wrap (x3 + 1)), Wk.ofk [] hk (by rfl) (by simp -implicitDefEqProofs [spec_DashOk_l0_S, h_2, h_3, h_4, h_5]) (by simp -implicitDefEqProofs [spec_DashOk_l0_S, h_2, h_3, h_4, h_5]), hR⟩
   ·replace H := HS.cnd_f h_5 H
    try simp -implicitDefEqProofs (maxSteps := 999999) [-selQ_sel, h_2, h_3, h_4, h_5]
    have hr := (HS.some H).symm; subst hr
    exact Hid.mk ⟨(spec_DashOk_l0_X a0 (.inr ())).2, Wk.ofk [] hk (by rfl) (by simp -implicitDefEqProofs [spec_DashOk_l0_X, h_2, h_3, h_4, h_5]) (by simp -implicitDefEqProofs [spec_DashOk_l0_X, h_2, h_3, h_4, h_5]), hR⟩
 ·rcases q with ⟨⟩ | ⟨⟩
  ·dsimp only at H
   try simp -implicitDefEqProofs (maxSteps := 999999) [-selQ_sel, spec_DashOk_l0_X]
   refine Hid.selQ (fun h_6 => ?_) (fun h_6 => ?_)
   ·replace H := HS.cnd_t h_6 H
    try simp -implicitDefEqProofs (maxSteps := 999999) [-selQ_sel, h_6]
    have hr := (HS.some H).symm; subst hr
    refine Hid.mk ⟨_, Wk.refl _, ?_⟩
    try simp -implicitDefEqProofs (maxSteps := 999999) [-selQ_sel, h_6]
   ·replace H := HS.cnd_f h_6 H
    try simp -implicitDefEqProofs (maxSteps := 999999) [-selQ_sel, h_6]
    have hr := (HS.some H).symm; subst hr
    refine Hid.mk ⟨_, Wk.refl _, ?_⟩
    try simp -implicitDefEqProofs (maxSteps := 999999) [-selQ_sel, h_6]
  ·dsimp only at H
   try simp -implicitDefEqProofs (maxSteps := 999999) [-selQ_sel, spec_DashOk_l0_X]
   have hr := (HS.some H).symm; subst hr
   refine Hid.mk ⟨_, Wk.refl _, ?_⟩
   try simp -implicitDefEqProofs (maxSteps := 999999) [-selQ_sel]
theorem spec_l04Mat_ok0 (hm : Try.prog.follows .mixedOrders = true) (k_spec_l01Below : Sound Try.prog 107 spec_l01Below_x) (k_spec_Shift : Sound Try.prog 215 spec_Shift_x) : Sound Try.prog 173 spec_l04Mat_x := by
 refine xOf_sound fun q r h => ?_
 revert h; revert r; revert q; intro a0 r h
 refine fn_ok E0 hm Try.func173 rfl (by decide +kernel) (by rfl) fun Γ hn hk => ?_
 dsimp only [spec_l04Mat_e, spec_l04Mat_v]
 replace hn : Γ.n = 36 := hn
 replace hk : Γ.k = 1 := hk
 have H : HS (spec_l04Mat a0) r := h
 clear h; unfold spec_l04Mat at H
 try simp -implicitDefEqProofs at H
 refine Tr.of_vc (cl := tabC [(107, spec_l01Below_x), (215, spec_Shift_x)]) (E := E0) [] (tab_cons k_spec_l01Below (tab_cons k_spec_Shift tab_nil)) hm (by rw [hn]; decide +kernel) ?_
 try simp -implicitDefEqProofs (maxSteps := 999999) [-selQ_sel]
 obtain ⟨⟨w2, w3⟩, h_1, H⟩ := HS.bnd H
 dsimp only at H
 try simp -implicitDefEqProofs (maxSteps := 999999) [-selQ_sel, h_1]
 obtain ⟨⟨w5, w6⟩, h_2, H⟩ := HS.bnd H
 dsimp only at H
 try simp -implicitDefEqProofs (maxSteps := 999999) [-selQ_sel, h_1, h_2]
 obtain ⟨v7, h_3, H⟩ := HS.bnd H
 try simp -implicitDefEqProofs (maxSteps := 999999) [-selQ_sel, h_1, h_2, h_3]
 obtain ⟨⟨w9, w10⟩, h_4, H⟩ := HS.bnd H
 dsimp only at H
 try simp -implicitDefEqProofs (maxSteps := 999999) [-selQ_sel, h_1, h_2, h_3, h_4]
 refine Hid.brV (fun h_5 => ?_) (fun h_5 => ?_)
 ·replace H := HS.cnd_t h_5 H
  try simp -implicitDefEqProofs (maxSteps := 999999) [-selQ_sel, h_1, h_2, h_3, h_4, h_5]
  obtain ⟨⟨w12, w13⟩, h_6, H⟩ := HS.bnd H
  dsimp only at H
  try simp -implicitDefEqProofs (maxSteps := 999999) [-selQ_sel, h_1, h_2, h_3, h_4, h_5, h_6]
  obtain ⟨⟨w15, w16⟩, h_7, H⟩ := HS.bnd H
  dsimp only at H
  try simp -implicitDefEqProofs (maxSteps := 999999) [-selQ_sel, h_1, h_2, h_3, h_4, h_5, h_6, h_7]
  have hr := (HS.some H).symm; subst hr
  refine Hid.mk ⟨_, Wk.refl _, ?_⟩
  try simp -implicitDefEqProofs (maxSteps := 999999) [-selQ_sel, h_1, h_2, h_3, h_4, h_5, h_6, h_7]
 ·replace H := HS.cnd_f h_5 H
  try simp -implicitDefEqProofs (maxSteps := 999999) [-selQ_sel, h_1, h_2, h_3, h_4, h_5]
  refine Hid.brV (fun h_8 => ?_) (fun h_8 => ?_)
  ·replace H := HS.cnd_t h_8 H
   try simp -implicitDefEqProofs (maxSteps := 999999) [-selQ_sel, h_1, h_2, h_3, h_4, h_5, h_8]
   have hr := (HS.some H).symm; subst hr
   refine Hid.mk ⟨_, Wk.refl _, ?_⟩
   try simp -implicitDefEqProofs (maxSteps := 999999) [-selQ_sel, h_1, h_2, h_3, h_4, h_5, h_8]
  ·replace H := HS.cnd_f h_8 H
   try simp -implicitDefEqProofs (maxSteps := 999999) [-selQ_sel, h_1, h_2, h_3, h_4, h_5, h_8]
   refine Hid.brV (fun h_9 => ?_) (fun h_9 => ?_)
   ·replace H := HS.cnd_t h_9 H
    try simp -implicitDefEqProofs (maxSteps := 999999) [-selQ_sel, h_1, h_2, h_3, h_4, h_5, h_8, h_9]
    obtain ⟨⟨w18, w19⟩, h_10, H⟩ := HS.bnd H
    dsimp only at H
    try simp -implicitDefEqProofs (maxSteps := 999999) [-selQ_sel, h_1, h_2, h_3, h_4, h_5, h_8, h_9, h_10]
    have hr := (HS.some H).symm; subst hr
    refine Hid.mk ⟨_, Wk.refl _, ?_⟩
    try simp -implicitDefEqProofs (maxSteps := 999999) [-selQ_sel, h_1, h_2, h_3, h_4, h_5, h_8, h_9, h_10]
   ·replace H := HS.cnd_f h_9 H
    try simp -implicitDefEqProofs (maxSteps := 999999) [-selQ_sel, h_1, h_2, h_3, h_4, h_5, h_8, h_9]
    have hr := (HS.some H).symm; subst hr
    refine Hid.mk ⟨_, Wk.refl _, ?_⟩
    try simp -implicitDefEqProofs (maxSteps := 999999) [-selQ_sel, h_1, h_2, h_3, h_4, h_5, h_8, h_9]
theorem impl_DropNode_ok0 (hm : Try.prog.follows .mixedOrders = true) (k_impl_copyScene : Sound Try.prog 111 impl_copyScene_x) (k_impl_SceneOk : Sound Try.prog 48 impl_SceneOk_x) (k_impl_NodeAt : Sound Try.prog 53 impl_NodeAt_x) (k_impl_UnderOf : Sound Try.prog 122 impl_UnderOf_x) (k_slices_DeleteFunc_Node_DropNode_1 : Sound Try.prog 123 slices_DeleteFunc_Node_DropNode_1_x) : Sound Try.prog 50 impl_DropNode_x := by
 refine xOf_sound fun q r h => ?_
 obtain ⟨a0, a1⟩ := q
 refine fn_ok E0 hm Try.func50 rfl (by decide +kernel) (by rfl) fun Γ hn hk => ?_
 dsimp only [impl_DropNode_e, impl_DropNode_v]
 replace hn : Γ.n = 30 := hn
 replace hk : Γ.k = 0 := hk
 have H : HS (impl_DropNode a0 a1) r := h
 clear h; unfold impl_DropNode at H
 try simp -implicitDefEqProofs at H
 refine Tr.of_vc (cl := tabC [(111, impl_copyScene_x), (48, impl_SceneOk_x), (53, impl_NodeAt_x), (122, impl_UnderOf_x), (123, slices_DeleteFunc_Node_DropNode_1_x)]) (E := E0) [] (tab_cons k_impl_copyScene (tab_cons k_impl_SceneOk (tab_cons k_impl_NodeAt (tab_cons k_impl_UnderOf (tab_cons k_slices_DeleteFunc_Node_DropNode_1 tab_nil))))) hm (by rw [hn]; decide +kernel) ?_
 try simp -implicitDefEqProofs (maxSteps := 999999) [-selQ_sel]
 obtain ⟨v1, h_1, H⟩ := HS.bnd H
 try simp -implicitDefEqProofs (maxSteps := 999999) [-selQ_sel, h_1]
 obtain ⟨v2, h_2, H⟩ := HS.bnd H
 try simp -implicitDefEqProofs (maxSteps := 999999) [-selQ_sel, h_1, h_2]
 refine Hid.brV (fun h_3 => ?_) (fun h_3 => ?_)
 ·replace H := HS.cnd_t h_3 H
  try simp -implicitDefEqProofs (maxSteps := 999999) [-selQ_sel, h_1, h_2, h_3]
  obtain ⟨v3, h_4, H⟩ := HS.bnd H
  try simp -implicitDefEqProofs (maxSteps := 999999) [-selQ_sel, h_1, h_2, h_3, h_4]
  refine Hid.brV (fun h_5 => ?_) (fun h_5 => ?_)
  ·replace H := HS.cnd_t h_5 H
   try simp -implicitDefEqProofs (maxSteps := 999999) [-selQ_sel, h_1, h_2, h_3, h_4, h_5]
   obtain ⟨v4, h_6, H⟩ := HS.bnd H
   try simp -implicitDefEqProofs (maxSteps := 999999) [-selQ_sel, h_1, h_2, h_3, h_4, h_5, h_6]
   obtain ⟨⟨w6, w7⟩, h_7, H⟩ := HS.bnd H
   dsimp only at H
   try simp -implicitDefEqProofs (maxSteps := 999999) [-selQ_sel, h_1, h_2, h_3, h_4, h_5, h_6, h_7]
   obtain ⟨v8, h_8, H⟩ := HS.bnd H
   have s_9 := (slc_spec h_8).1
   have s_10 := slc_fit h_8
   have s_11 := slc_map (e := eNode) h_8
   have s_12 := (slc_spec h_8).2.1
   simp -implicitDefEqProofs at s_9 s_10 s_11 s_12
   try simp only [s_12] at s_10 s_11
   try simp -implicitDefEqProofs (maxSteps := 999999) [-selQ_sel, h_1, h_2, h_3, h_4, h_5, h_6, h_7, h_8, s_9, s_10, s_11, s_12]
   have hr := (HS.some H).symm; subst hr
   refine Hid.mk ⟨_, Wk.refl _, ?_⟩
   try simp -implicitDefEqProofs (maxSteps := 999999) [-selQ_sel, h_1, h_2, h_3, h_4, h_5, h_6, h_7, h_8, s_9, s_10, s_11, s_12]
  ·replace H := HS.cnd_f h_5 H
   try simp -implicitDefEqProofs (maxSteps := 999999) [-selQ_sel, h_1, h_2, h_3, h_4, h_5]
   have hr := (HS.some H).symm; subst hr
   refine Hid.mk ⟨_, Wk.refl _, ?_⟩
   try simp -implicitDefEqProofs (maxSteps := 999999) [-selQ_sel, h_1, h_2, h_3, h_4, h_5]
 ·replace H := HS.cnd_f h_3 H
  try simp -implicitDefEqProofs (maxSteps := 999999) [-selQ_sel, h_1, h_2, h_3]
  have hr := (HS.some H).symm; subst hr
  refine Hid.mk ⟨_, Wk.refl _, ?_⟩
  try simp -implicitDefEqProofs (maxSteps := 999999) [-selQ_sel, h_1, h_2, h_3]
theorem spec_ColorOk_ok0 (hm : Try.prog.follows .mixedOrders = true) (k_spec_l01In : Sound Try.prog 91 spec_l01In_x) : Sound Try.prog 202 spec_ColorOk_x := by
 refine xOf_sound fun q r h => ?_
 revert h; revert r; revert q; intro a0 r h
 refine fn_ok E0 hm Try.func202 rfl (by decide +kernel) (by rfl) fun Γ hn hk => ?_
 dsimp only [spec_ColorOk_e, spec_ColorOk_v]
 replace hn : Γ.n = 21 := hn
 replace hk : Γ.k = 0 := hk
 have H : HS (spec_ColorOk a0) r := h
 clear h; unfold spec_ColorOk at H
 try simp -implicitDefEqProofs at H
 refine Tr.of_vc (cl := tabC [(91, spec_l01In_x)]) (E := E0) [] (tab_cons k_spec_l01In tab_nil) hm (by rw [hn]; decide +kernel) ?_
 try simp -implicitDefEqProofs (maxSteps := 999999) [-selQ_sel]
 obtain ⟨v1, h_1, H⟩ := HS.bnd H
 try simp -implicitDefEqProofs (maxSteps := 999999) [-selQ_sel, h_1]
 refine Hid.selQ (fun h_2 => ?_) (fun h_2 => ?_)
 ·replace H := HS.cnd_t h_2 H
  try simp -implicitDefEqProofs (maxSteps := 999999) [-selQ_sel, h_1, h_2]
  obtain ⟨v2, h_3, H⟩ := HS.bnd H
  try simp -implicitDefEqProofs (maxSteps := 999999) [-selQ_sel, h_1, h_2, h_3]
  refine Hid.selQ (fun h_4 => ?_) (fun h_4 => ?_)
  ·replace H := HS.cnd_t h_4 H
   try simp -implicitDefEqProofs (maxSteps := 999999) [-selQ_sel, h_1, h_2, h_3, h_4]
   obtain ⟨v3, h_5, H⟩ := HS.bnd H
   try simp -implicitDefEqProofs (maxSteps := 999999) [-selQ_sel, h_1, h_2, h_3, h_4, h_5]
   refine Hid.selQ (fun h_6 => ?_) (fun h_6 => ?_)
   ·replace H := HS.cnd_t h_6 H
    try simp -implicitDefEqProofs (maxSteps := 999999) [-selQ_sel, h_1, h_2, h_3, h_4, h_5, h_6]
    obtain ⟨v4, h_7, H⟩ := HS.bnd H
    try simp -implicitDefEqProofs (maxSteps := 999999) [-selQ_sel, h_1, h_2, h_3, h_4, h_5, h_6, h_7]
    have hr := (HS.some H).symm; subst hr
    refine Hid.mk ⟨_, Wk.refl _, ?_⟩
    try simp -implicitDefEqProofs (maxSteps := 999999) [-selQ_sel, h_1, h_2, h_3, h_4, h_5, h_6, h_7]
   ·replace H := HS.cnd_f h_6 H
    try simp -implicitDefEqProofs (maxSteps := 999999) [-selQ_sel, h_1, h_2, h_3, h_4, h_5, h_6]
    have hr := (HS.some H).symm; subst hr
    refine Hid.mk ⟨_, Wk.refl _, ?_⟩
    try simp -implicitDefEqProofs (maxSteps := 999999) [-selQ_sel, h_1, h_2, h_3, h_4, h_5, h_6]
  ·replace H := HS.cnd_f h_4 H
   try simp -implicitDefEqProofs (maxSteps := 999999) [-selQ_sel, h_1, h_2, h_3, h_4]
   have hr := (HS.some H).symm; subst hr
   refine Hid.mk ⟨_, Wk.refl _, ?_⟩
   try simp -implicitDefEqProofs (maxSteps := 999999) [-selQ_sel, h_1, h_2, h_3, h_4]
 ·replace H := HS.cnd_f h_2 H
  try simp -implicitDefEqProofs (maxSteps := 999999) [-selQ_sel, h_1, h_2]
  have hr := (HS.some H).symm; subst hr
  refine Hid.mk ⟨_, Wk.refl _, ?_⟩
  try simp -implicitDefEqProofs (maxSteps := 999999) [-selQ_sel, h_1, h_2]
theorem impl_Scene_isParent_ok0 (hm : Try.prog.follows .mixedOrders = true) (k_impl_NodeAt : Sound Try.prog 53 impl_NodeAt_x) : Sound Try.prog 113 impl_Scene_isParent_x := by
 refine xOf_sound fun q r h => ?_
 obtain ⟨a0, a1⟩ := q
 refine fn_ok E0 hm Try.func113 rfl (by decide +kernel) (by rfl) fun Γ hn hk => ?_
 dsimp only [impl_Scene_isParent_e, impl_Scene_isParent_v]
 replace hn : Γ.n = 27 := hn
 replace hk : Γ.k = 0 := hk
 have H : HS (impl_Scene_isParent a0 a1) r := h
 clear h; unfold impl_Scene_isParent at H
 try simp -implicitDefEqProofs at H
 refine Tr.of_vc (cl := tabC [(53, impl_NodeAt_x)]) (E := E0) [] (tab_cons k_impl_NodeAt tab_nil) hm (by rw [hn]; decide +kernel) ?_
 try simp -implicitDefEqProofs (maxSteps := 999999) [-selQ_sel]
 obtain ⟨v1, h_1, H⟩ := HS.bnd H
 try simp -implicitDefEqProofs (maxSteps := 999999) [-selQ_sel, h_1]
 refine Hid.selQ (fun h_2 => ?_) (fun h_2 => ?_)
 ·replace H := HS.cnd_t h_2 H
  try simp -implicitDefEqProofs (maxSteps := 999999) [-selQ_sel, h_1, h_2]
  have hr := (HS.some H).symm; subst hr
  refine Hid.mk ⟨_, Wk.refl _, ?_⟩
  try simp -implicitDefEqProofs (maxSteps := 999999) [-selQ_sel, h_1, h_2]
 ·replace H := HS.cnd_f h_2 H
  try simp -implicitDefEqProofs (maxSteps := 999999) [-selQ_sel, h_1, h_2]
  refine Hid.selQ (fun h_3 => ?_) (fun h_3 => ?_)
  ·replace H := HS.cnd_t h_3 H
   try simp -implicitDefEqProofs (maxSteps := 999999) [-selQ_sel, h_1, h_2, h_3]
   obtain ⟨v2, h_4, H⟩ := HS.bnd H
   try simp -implicitDefEqProofs (maxSteps := 999999) [-selQ_sel, h_1, h_2, h_3, h_4]
   have hr := (HS.some H).symm; subst hr
   refine Hid.mk ⟨_, Wk.refl _, ?_⟩
   try simp -implicitDefEqProofs (maxSteps := 999999) [-selQ_sel, h_1, h_2, h_3, h_4]
  ·replace H := HS.cnd_f h_3 H
   try simp -implicitDefEqProofs (maxSteps := 999999) [-selQ_sel, h_1, h_2, h_3]
   have hr := (HS.some H).symm; subst hr
   refine Hid.mk ⟨_, Wk.refl _, ?_⟩
   try simp -implicitDefEqProofs (maxSteps := 999999) [-selQ_sel, h_1, h_2, h_3]
theorem spec_l15CopyNode_ok0 (hm : Try.prog.follows .mixedOrders = true) (k_spec_l15CopyPath : Sound Try.prog 189 spec_l15CopyPath_x) : Sound Try.prog 121 spec_l15CopyNode_x := by
 refine xOf_sound fun q r h => ?_
 revert h; revert r; revert q; intro a0 r h
 refine fn_ok E0 hm Try.func121 rfl (by decide +kernel) (by rfl) fun Γ hn hk => ?_
 dsimp only [spec_l15CopyNode_e, spec_l15CopyNode_v]
 replace hn : Γ.n = 17 := hn
 replace hk : Γ.k = 0 := hk
 have H : HS (spec_l15CopyNode a0) r := h
 clear h; unfold spec_l15CopyNode at H
 try simp -implicitDefEqProofs at H
 refine Tr.of_vc (cl := tabC [(189, spec_l15CopyPath_x)]) (E := E0) [] (tab_cons k_spec_l15CopyPath tab_nil) hm (by rw [hn]; decide +kernel) ?_
 try simp -implicitDefEqProofs (maxSteps := 999999) [-selQ_sel]
 obtain ⟨v1, h_1, H⟩ := HS.bnd H
 try simp -implicitDefEqProofs (maxSteps := 999999) [-selQ_sel, h_1]
 obtain ⟨v2, h_2, H⟩ := HS.bnd H
 try simp -implicitDefEqProofs (maxSteps := 999999) [-selQ_sel, h_1, h_2]
 obtain ⟨h_3, H⟩ := HS.chkP H
 try simp -implicitDefEqProofs (maxSteps := 999999) [-selQ_sel, h_1, h_2, h_3]
 obtain ⟨l3, h_4, H⟩ := HS.nam H
 have m_5 := congrArg (List.map (AV.int .i64)) h_4
 have q_6 := congrArg List.length h_4
 simp -implicitDefEqProofs at m_5 q_6
 try simp only [q_6] at m_5
 try simp only [q_6] at h_3
 try simp -implicitDefEqProofs (maxSteps := 999999) [-selQ_sel, h_1, h_2, h_3, m_5, q_6]
 have hr := (HS.some H).symm; subst hr
 refine Hid.mk ⟨_, Wk.refl _, ?_⟩
 try simp -implicitDefEqProofs (maxSteps := 999999) [-selQ_sel, h_1, h_2, h_3, m_5, q_6]
theorem slices_Clone_int_ok0 (hm : Try.prog.follows .mixedOrders = true) : Sound Try.prog 165 slices_Clone_int_x := by
 refine xOf_sound fun q r h => ?_
 revert h; revert r; revert q; intro a0 r h
 refine fn_ok E0 hm Try.func165 rfl (by decide +kernel) (by rfl) fun Γ hn hk => ?_
 dsimp only [slices_Clone_int_e, slices_Clone_int_v]
 replace hn : Γ.n = 8 := hn
 replace hk : Γ.k = 0 := hk
 have H : HS (slices_Clone_int a0) r := h
 clear h; unfold slices_Clone_int at H
 obtain ⟨h_1, H⟩ := HS.chkP H
 have hr := (HS.some H).symm; subst hr
 refine Tr.of_vc (cl := tabC []) (E := E0) [1] tab_nil hm (by rw [hn]; decide +kernel) ?_
 simp -implicitDefEqProofs [-selQ_sel]
 refine Hid.mk (Tr_nil (E := E0) tab_nil (h1 := rfl) (hd1 := fun d h => by cases h; rw [hn]; decide) (ho := rfl) (hg := rfl) (hd := rfl) (hdn := by rw [hn]; decide) (hu := elt_36) (hx := rfl) fun b hb => ?_)
 refine Tr.of_vc (cl := tabC []) (E := E0) [] tab_nil hm (by rw [hn]; decide +kernel) ?_
 simp -implicitDefEqProofs [-selQ_sel, aft, putT]
 refine Hid.brV (fun h_2 => ?_) (fun h_2 => ?_)
 ·simp -implicitDefEqProofs [-selQ_sel]
  have h_3 := hb h_2; simp at h_3; subst h_3
  refine Hid.mk ⟨_, Wk.refl _, ?_⟩
  simp -implicitDefEqProofs [-selQ_sel, h_1]
  refine ⟨_, Wk.refl _, ?_⟩
  simp -implicitDefEqProofs [-selQ_sel, h_1]
 ·simp -implicitDefEqProofs [-selQ_sel]
  refine Hid.mk ⟨_, Wk.refl _, ?_⟩
  simp -implicitDefEqProofs [-selQ_sel, h_1]
  refine ⟨_, Wk.refl _, ?_⟩
  simp -implicitDefEqProofs [-selQ_sel, h_1]
theorem impl_copyPath_ok0 (hm : Try.prog.follows .mixedOrders = true) (k_slices_Clone_int : Sound Try.prog 165 slices_Clone_int_x) (k_slices_Clone_Point : Sound Try.prog 221 slices_Clone_Point_x) : Sound Try.prog 182 impl_copyPath_x := by
 refine xOf_sound fun q r h => ?_
 revert h; revert r; revert q; intro a0 r h
 refine fn_ok E0 hm Try.func182 rfl (by decide +kernel) (by rfl) fun Γ hn hk => ?_
 dsimp only [impl_copyPath_e, impl_copyPath_v]
 replace hn : Γ.n = 10 := hn
 replace hk : Γ.k = 0 := hk
 have H : HS (impl_copyPath a0) r := h
 clear h; unfold impl_copyPath at H
 try simp -implicitDefEqProofs at H
 refine Tr.of_vc (cl := tabC [(165, slices_Clone_int_x), (221, slices_Clone_Point_x)]) (E := E0) [] (tab_cons k_slices_Clone_int (tab_cons k_slices_Clone_Point tab_nil)) hm (by rw [hn]; decide +kernel) ?_
 try simp -implicitDefEqProofs +decide (maxSteps := 999999) [-selQ_sel, hokQ_of]
 obtain ⟨v1, h_1, H⟩ := HS.bnd H
 try simp -implicitDefEqProofs +decide (maxSteps := 999999) [-selQ_sel, hokQ_of, h_1]
 obtain ⟨v2, h_2, H⟩ := HS.bnd H
 try simp -implicitDefEqProofs +decide (maxSteps := 999999) [-selQ_sel, hokQ_of, h_1, h_2]
 have hr := (HS.some H).symm; subst hr
 refine Hid.mk ⟨_, Wk.refl _, ?_⟩
 try simp -implicitDefEqProofs +decide (maxSteps := 999999) [-selQ_sel, hokQ_of, h_1, h_2]
theorem spec_Empty_ok0 (hm : Try.prog.follows .mixedOrders = true) : Sound Try.prog 205 spec_Empty_x := by
 refine xOf_sound fun q r h => ?_
 revert h; revert r; revert q; intro a0 r h
 refine fn_ok E0 hm Try.func205 rfl (by decide +kernel) (by rfl) fun Γ hn hk => ?_
 dsimp only [spec_Empty_e, spec_Empty_v]
 replace hn : Γ.n = 15 := hn
 replace hk : Γ.k = 0 := hk
 have H : HS (spec_Empty a0) r := h
 clear h; unfold spec_Empty at H
 try simp -implicitDefEqProofs at H
 refine Tr.of_vc (cl := tabC []) (E := E0) [] tab_nil hm (by rw [hn]; decide +kernel) ?_
 try simp -implicitDefEqProofs (maxSteps := 999999) [-selQ_sel]
 refine Hid.selQ (fun h_1 => ?_) (fun h_1 => ?_)
 ·replace H := HS.cnd_t h_1 H
  try simp -implicitDefEqProofs (maxSteps := 999999) [-selQ_sel, h_1]
  have hr := (HS.some H).symm; subst hr
  refine Hid.mk ⟨_, Wk.refl _, ?_⟩
  try simp -implicitDefEqProofs (maxSteps := 999999) [-selQ_sel, h_1]
 ·replace H := HS.cnd_f h_1 H
  try simp -implicitDefEqProofs (maxSteps := 999999) [-selQ_sel, h_1]
  have hr := (HS.some H).symm; subst hr
  refine Hid.mk ⟨_, Wk.refl _, ?_⟩
  try simp -implicitDefEqProofs (maxSteps := 999999) [-selQ_sel, h_1]
theorem spec_l04Point_ok0 (hm : Try.prog.follows .mixedOrders = true) (k_spec_l01Below : Sound Try.prog 107 spec_l01Below_x) : Sound Try.prog 214 spec_l04Point_x := by
 refine xOf_sound fun q r h => ?_
 revert h; revert r; revert q; intro a0 r h
 refine fn_ok E0 hm Try.func214 rfl (by decide +kernel) (by rfl) fun Γ hn hk => ?_
 dsimp only [spec_l04Point_e, spec_l04Point_v]
 replace hn : Γ.n = 10 := hn
 replace hk : Γ.k = 1 := hk
 have H : HS (spec_l04Point a0) r := h
 clear h; unfold spec_l04Point at H
 try simp -implicitDefEqProofs at H
 refine Tr.of_vc (cl := tabC [(107, spec_l01Below_x)]) (E := E0) [] (tab_cons k_spec_l01Below tab_nil) hm (by rw [hn]; decide +kernel) ?_
 try simp -implicitDefEqProofs (maxSteps := 999999) [-selQ_sel]
 obtain ⟨⟨w2, w3⟩, h_1, H⟩ := HS.bnd H
 dsimp only at H
 try simp -implicitDefEqProofs (maxSteps := 999999) [-selQ_sel, h_1]
 obtain ⟨⟨w5, w6⟩, h_2, H⟩ := HS.bnd H
 dsimp only at H
 try simp -implicitDefEqProofs (maxSteps := 999999) [-selQ_sel, h_1, h_2]
 have hr := (HS.some H).symm; subst hr
 refine Hid.mk ⟨_, Wk.refl _, ?_⟩
 try simp -implicitDefEqProofs (maxSteps := 999999) [-selQ_sel, h_1, h_2]
theorem spec_l01Once_ok0 (hm : Try.prog.follows .mixedOrders = true) (k_spec_l01Below : Sound Try.prog 107 spec_l01Below_x) : Sound Try.prog 170 spec_l01Once_x := by
 refine xOf_sound fun q r h => ?_
 obtain ⟨a0, a1⟩ := q
 refine fn_ok E0 hm Try.func170 rfl (by decide +kernel) (by rfl) fun Γ hn hk => ?_
 dsimp only [spec_l01Once_e, spec_l01Once_v]
 replace hn : Γ.n = 9 := hn
 replace hk : Γ.k = 1 := hk
 have H : HS (spec_l01Once a0 a1) r := h
 clear h; unfold spec_l01Once at H
 try simp -implicitDefEqProofs at H
 refine Tr.of_vc (cl := tabC [(107, spec_l01Below_x)]) (E := E0) [] (tab_cons k_spec_l01Below tab_nil) hm (by rw [hn]; decide +kernel) ?_
 try simp -implicitDefEqProofs (maxSteps := 999999) [-selQ_sel]
 obtain ⟨⟨w2, w3⟩, h_1, H⟩ := HS.bnd H
 dsimp only at H
 try simp -implicitDefEqProofs (maxSteps := 999999) [-selQ_sel, h_1]
 have hr := (HS.some H).symm; subst hr
 refine Hid.mk ⟨_, Wk.refl _, ?_⟩
 try simp -implicitDefEqProofs (maxSteps := 999999) [-selQ_sel, h_1]
theorem impl_isByte_ok0 (hm : Try.prog.follows .mixedOrders = true) (k_impl_inRange : Sound Try.prog 95 impl_inRange_x) : Sound Try.prog 179 impl_isByte_x := by
 refine xOf_sound fun q r h => ?_
 revert h; revert r; revert q; intro a0 r h
 refine fn_ok E0 hm Try.func179 rfl (by decide +kernel) (by rfl) fun Γ hn hk => ?_
 dsimp only [impl_isByte_e, impl_isByte_v]
 replace hn : Γ.n = 5 := hn
 replace hk : Γ.k = 0 := hk
 have H : HS (impl_isByte a0) r := h
 clear h; unfold impl_isByte at H
 try simp -implicitDefEqProofs at H
 refine Tr.of_vc (cl := tabC [(95, impl_inRange_x)]) (E := E0) [] (tab_cons k_impl_inRange tab_nil) hm (by rw [hn]; decide +kernel) ?_
 try simp -implicitDefEqProofs (maxSteps := 999999) [-selQ_sel]
 obtain ⟨v1, h_1, H⟩ := HS.bnd H
 try simp -implicitDefEqProofs (maxSteps := 999999) [-selQ_sel, h_1]
 have hr := (HS.some H).symm; subst hr
 refine Hid.mk ⟨_, Wk.refl _, ?_⟩
 try simp -implicitDefEqProofs (maxSteps := 999999) [-selQ_sel, h_1]
theorem spec_Still_ok0 (hm : Try.prog.follows .mixedOrders = true) : Sound Try.prog 172 spec_Still_x := by
 refine xOf_sound fun q r h => ?_
 refine fn_ok E0 hm Try.func172 rfl (by decide +kernel) (by rfl) fun Γ hn hk => ?_
 dsimp only [spec_Still_e, spec_Still_v]
 replace hn : Γ.n = 2 := hn
 replace hk : Γ.k = 0 := hk
 have H : HS (spec_Still) r := h
 clear h; unfold spec_Still at H
 try simp -implicitDefEqProofs at H
 refine Tr.of_vc (cl := tabC []) (E := E0) [] tab_nil hm (by rw [hn]; decide +kernel) ?_
 try simp -implicitDefEqProofs (maxSteps := 999999) [-selQ_sel]
 have hr := (HS.some H).symm; subst hr
 refine Hid.mk ⟨_, Wk.refl _, ?_⟩
 try simp -implicitDefEqProofs (maxSteps := 999999) [-selQ_sel]
end Go.Proofs.Ytafljhadfoaceaa.Am
