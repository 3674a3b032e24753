import Derived.Test.YtafljhadfoaceaaAmPlMo
set_option linter.unusedVariables false
set_option linter.unusedSimpArgs false
set_option linter.unusedSectionVars false
namespace Go.Proofs.Ytafljhadfoaceaa.Am
open Go Go.Proofs
set_option maxRecDepth 100000
set_option linter.unusedSimpArgs false
set_option linter.unusedVariables false
set_option maxHeartbeats 4000000
theorem laws_FnPlaces_ok0 (hm : Try.prog.follows .mixedOrders = true) (k_laws_big : Sound Try.prog 38 laws_big_x) (k_spec_DrawPlaceNode : Sound Try.prog 54 spec_DrawPlaceNode_x) (k_impl_PlaceNode : Sound Try.prog 55 impl_PlaceNode_x) (k_spec_PlaceNode : Sound Try.prog 56 spec_PlaceNode_x) (k_laws_sameScene : Sound Try.prog 49 laws_sameScene_x) (k_impl_NodeAt : Sound Try.prog 53 impl_NodeAt_x) (k_impl_SceneOk : Sound Try.prog 48 impl_SceneOk_x) (k_laws_sameNode : Sound Try.prog 51 laws_sameNode_x) : Sound Try.prog 9 laws_FnPlaces_x := by
 refine xOf_sound fun q r h => ?_
 revert h; revert r; revert q; intro a0 r h
 refine fn_ok E0 hm Try.func9 rfl (by decide +kernel) (by rfl) fun Γ hn hk => ?_
 dsimp only [laws_FnPlaces_e, laws_FnPlaces_v]
 replace hn : Γ.n = 142 := hn
 replace hk : Γ.k = 0 := hk
 have H : HS (laws_FnPlaces a0) r := h
 clear h; unfold laws_FnPlaces at H
 try simp -implicitDefEqProofs at H
 refine Tr.of_vc (cl := tabC [(38, laws_big_x), (54, spec_DrawPlaceNode_x), (55, impl_PlaceNode_x), (56, spec_PlaceNode_x), (49, laws_sameScene_x), (53, impl_NodeAt_x), (48, impl_SceneOk_x), (51, laws_sameNode_x)]) (E := E0) [] (tab_cons k_laws_big (tab_cons k_spec_DrawPlaceNode (tab_cons k_impl_PlaceNode (tab_cons k_spec_PlaceNode (tab_cons k_laws_sameScene (tab_cons k_impl_NodeAt (tab_cons k_impl_SceneOk (tab_cons k_laws_sameNode tab_nil)))))))) hm (by rw [hn]; decide +kernel) ?_
 try simp -implicitDefEqProofs +decide (maxSteps := 999999) [-selQ_sel, hokQ_of]
 obtain ⟨v1, h_1, H⟩ := HS.bnd H
 try simp -implicitDefEqProofs +decide (maxSteps := 999999) [-selQ_sel, hokQ_of, h_1]
 refine Hid.brV (fun h_2 => ?_) (fun h_2 => ?_)
 ·replace H := HS.cnd_t h_2 H
  try simp -implicitDefEqProofs +decide (maxSteps := 999999) [-selQ_sel, hokQ_of, h_1, h_2]
  have hr := (HS.some H).symm; subst hr
  refine Hid.mk ⟨_, Wk.refl _, ?_⟩
  try simp -implicitDefEqProofs +decide (maxSteps := 999999) [-selQ_sel, hokQ_of, h_1, h_2]
 ·replace H := HS.cnd_f h_2 H
  try simp -implicitDefEqProofs +decide (maxSteps := 999999) [-selQ_sel, hokQ_of, h_1, h_2]
  obtain ⟨⟨w3, w4, w5, w6⟩, h_3, H⟩ := HS.bnd H
  dsimp only at H
  try simp -implicitDefEqProofs +decide (maxSteps := 999999) [-selQ_sel, hokQ_of, h_1, h_2, h_3]
  obtain ⟨⟨w8, w9⟩, h_4, H⟩ := HS.bnd H
  dsimp only at H
  try simp -implicitDefEqProofs +decide (maxSteps := 999999) [-selQ_sel, hokQ_of, h_1, h_2, h_3, h_4]
  obtain ⟨⟨w11, w12⟩, h_5, H⟩ := HS.bnd H
  dsimp only at H
  try simp -implicitDefEqProofs +decide (maxSteps := 999999) [-selQ_sel, hokQ_of, h_1, h_2, h_3, h_4, h_5]
  refine Hid.selQ (fun h_6 => ?_) (fun h_6 => ?_)
  ·replace H := HS.cnd_t h_6 H
   try simp -implicitDefEqProofs +decide (maxSteps := 999999) [-selQ_sel, hokQ_of, h_1, h_2, h_3, h_4, h_5, h_6]
   obtain ⟨v13, h_7, H⟩ := HS.bnd H
   try simp -implicitDefEqProofs +decide (maxSteps := 999999) [-selQ_sel, hokQ_of, h_1, h_2, h_3, h_4, h_5, h_6, h_7]
   refine Hid.brV (fun h_8 => ?_) (fun h_8 => ?_)
   ·replace H := HS.cnd_t h_8 H
    try simp -implicitDefEqProofs +decide (maxSteps := 999999) [-selQ_sel, hokQ_of, h_1, h_2, h_3, h_4, h_5, h_6, h_7, h_8]
    refine Hid.brV (fun h_9 => ?_) (fun h_9 => ?_)
    ·replace H := HS.cnd_t h_9 H
     try simp -implicitDefEqProofs +decide (maxSteps := 999999) [-selQ_sel, hokQ_of, h_1, h_2, h_3, h_4, h_5, h_6, h_7, h_8, h_9]
     obtain ⟨v14, h_10, H⟩ := HS.bnd H
     try simp -implicitDefEqProofs +decide (maxSteps := 999999) [-selQ_sel, hokQ_of, h_1, h_2, h_3, h_4, h_5, h_6, h_7, h_8, h_9, h_10]
     obtain ⟨v15, h_11, H⟩ := HS.bnd H
     try simp -implicitDefEqProofs +decide (maxSteps := 999999) [-selQ_sel, hokQ_of, h_1, h_2, h_3, h_4, h_5, h_6, h_7, h_8, h_9, h_10, h_11]
     refine Hid.selQ (fun h_12 => ?_) (fun h_12 => ?_)
     ·replace H := HS.cnd_t h_12 H
      try simp -implicitDefEqProofs +decide (maxSteps := 999999) [-selQ_sel, hokQ_of, h_1, h_2, h_3, h_4, h_5, h_6, h_7, h_8, h_9, h_10, h_11, h_12]
      obtain ⟨v16, h_13, H⟩ := HS.bnd H
      try simp -implicitDefEqProofs +decide (maxSteps := 999999) [-selQ_sel, hokQ_of, h_1, h_2, h_3, h_4, h_5, h_6, h_7, h_8, h_9, h_10, h_11, h_12, h_13]
      refine Hid.selQ (fun h_14 => ?_) (fun h_14 => ?_)
      ·replace H := HS.cnd_t h_14 H
       try simp -implicitDefEqProofs +decide (maxSteps := 999999) [-selQ_sel, hokQ_of, h_1, h_2, h_3, h_4, h_5, h_6, h_7, h_8, h_9, h_10, h_11, h_12, h_13, h_14]
       refine Hid.selQ (fun h_15 => ?_) (fun h_15 => ?_)
       ·replace H := HS.cnd_t h_15 H
        try simp -implicitDefEqProofs +decide (maxSteps := 999999) [-selQ_sel, hokQ_of, h_1, h_2, h_3, h_4, h_5, h_6, h_7, h_8, h_9, h_10, h_11, h_12, h_13, h_14, h_15]
        refine Hid.selQ (fun h_16 => ?_) (fun h_16 => ?_)
        ·replace H := HS.cnd_t h_16 H
         try simp -implicitDefEqProofs +decide (maxSteps := 999999) [-selQ_sel, hokQ_of, h_1, h_2, h_3, h_4, h_5, h_6, h_7, h_8, h_9, h_10, h_11, h_12, h_13, h_14, h_15, h_16]
         obtain ⟨q, h_17, H⟩ := HS.bnd H
         refine Hid.mk (Tr.weak (s' := (laws_FnPlaces_l0_S w3 w4 w8) (0, 0)) (Wk.ofk [0, 1] hk (by rfl) (by simp -implicitDefEqProofs [laws_FnPlaces_l0_S, h_1, h_2, h_3, h_4, h_5, h_6, h_7, h_8, h_9, h_10, h_11, h_12, h_13, h_14, h_15, h_16]) (by simp -implicitDefEqProofs [laws_FnPlaces_l0_S, h_1, h_2, h_3, h_4, h_5, h_6, h_7, h_8, h_9, h_10, h_11, h_12, h_13, h_14, h_15, h_16])) ?_)
         refine wp_loop_of (S := (laws_FnPlaces_l0_S w3 w4 w8)) (f := (laws_FnPlaces_l0 w3 w4 w8)) (xt := (laws_FnPlaces_l0_X w3 w4 w8)) ?_ ?_ h_17 ?_
         ·intro q; rcases q with ⟨⟩ | ⟨⟩ <;> simp [laws_FnPlaces_l0_X]
         ·clear H h_17 q
          rintro ⟨x22, x23⟩ o R hf hR
          have H : HS (laws_FnPlaces_l0 w3 w4 w8 (x22, x23)) o := hf
          clear hf; unfold laws_FnPlaces_l0 at H
          try simp -implicitDefEqProofs at H
          refine Tr.of_vc (cl := tabC [(38, laws_big_x), (54, spec_DrawPlaceNode_x), (55, impl_PlaceNode_x), (56, spec_PlaceNode_x), (49, laws_sameScene_x), (53, impl_NodeAt_x), (48, impl_SceneOk_x), (51, laws_sameNode_x)]) (E := E0) [] (tab_cons k_laws_big (tab_cons k_spec_DrawPlaceNode (tab_cons k_impl_PlaceNode (tab_cons k_spec_PlaceNode (tab_cons k_laws_sameScene (tab_cons k_impl_NodeAt (tab_cons k_impl_SceneOk (tab_cons k_laws_sameNode tab_nil)))))))) hm (by rw [hn]; decide +kernel) ?_
          try simp -implicitDefEqProofs +decide (maxSteps := 999999) [-selQ_sel, hokQ_of, laws_FnPlaces_l0_S]
          refine Hid.brV (fun h_18 => ?_) (fun h_18 => ?_)
          ·replace H := HS.cnd_t h_18 H
           try simp -implicitDefEqProofs +decide (maxSteps := 999999) [-selQ_sel, hokQ_of, h_18]
           have hr := (HS.some H).symm; subst hr
           exact Hid.mk ⟨(laws_FnPlaces_l0_X w3 w4 w8 (.inl ())).2, Wk.ofk [0, 1] hk (by rfl) (by simp -implicitDefEqProofs [laws_FnPlaces_l0_X, h_18]) (by simp -implicitDefEqProofs [laws_FnPlaces_l0_X, h_18]), hR⟩
          ·replace H := HS.cnd_f h_18 H
           try simp -implicitDefEqProofs +decide (maxSteps := 999999) [-selQ_sel, hokQ_of, h_18]
           obtain ⟨v24, h_19, H⟩ := HS.bnd H
           try simp -implicitDefEqProofs +decide (maxSteps := 999999) [-selQ_sel, hokQ_of, h_18, h_19]
           refine Hid.brV (fun h_20 => ?_) (fun h_20 => ?_)
           ·replace H := HS.cnd_t h_20 H
            try simp -implicitDefEqProofs +decide (maxSteps := 999999) [-selQ_sel, hokQ_of, h_18, h_19, h_20]
            have hr := (HS.some H).symm; subst hr
            exact Hid.mk ⟨laws_FnPlaces_l0_S w3 w4 w8 ((IntKind.i64.wrap (x22 + 1)), x23), Wk.ofk [0, 1] hk (by rfl) (by simp -implicitDefEqProofs [laws_FnPlaces_l0_S, h_18, h_19, h_20]) (by simp -implicitDefEqProofs [laws_FnPlaces_l0_S, h_18, h_19, h_20]), hR⟩
           ·replace H := HS.cnd_f h_20 H
            try simp -implicitDefEqProofs +decide (maxSteps := 999999) [-selQ_sel, hokQ_of, h_18, h_19, h_20]
            obtain ⟨v25, h_21, H⟩ := HS.bnd H
            try simp -implicitDefEqProofs +decide (maxSteps := 999999) [-selQ_sel, hokQ_of, h_18, h_19, h_20, h_21]
            refine Hid.brV (fun h_22 => ?_) (fun h_22 => ?_)
            ·replace H := HS.cnd_t h_22 H
             try simp -implicitDefEqProofs +decide (maxSteps := 999999) [-selQ_sel, hokQ_of, h_18, h_19, h_20, h_21, h_22]
             obtain ⟨v26, h_23, H⟩ := HS.bnd H
             try simp -implicitDefEqProofs +decide (maxSteps := 999999) [-selQ_sel, hokQ_of, h_18, h_19, h_20, h_21, h_22, h_23]
             obtain ⟨v27, h_24, H⟩ := HS.bnd H
             try simp -implicitDefEqProofs +decide (maxSteps := 999999) [-selQ_sel, hokQ_of, h_18, h_19, h_20, h_21, h_22, h_23, h_24]
             refine Hid.brV (fun h_25 => ?_) (fun h_25 => ?_)
             ·replace H := HS.cnd_t h_25 H
              try simp -implicitDefEqProofs +decide (maxSteps := 999999) [-selQ_sel, hokQ_of, h_18, h_19, h_20, h_21, h_22, h_23, h_24, h_25]
              have hr := (HS.some H).symm; subst hr
              exact Hid.mk ⟨laws_FnPlaces_l0_S w3 w4 w8 ((IntKind.i64.wrap (x22 + 1)), (IntKind.i64.wrap ((IntKind.i64.wrap (x23 + 1)) + 1))), Wk.ofk [0, 1] hk (by rfl) (by simp -implicitDefEqProofs [laws_FnPlaces_l0_S, h_18, h_19, h_20, h_21, h_22, h_23, h_24, h_25]) (by simp -implicitDefEqProofs [laws_FnPlaces_l0_S, h_18, h_19, h_20, h_21, h_22, h_23, h_24, h_25]), hR⟩
             ·replace H := HS.cnd_f h_25 H
              try simp -implicitDefEqProofs +decide (maxSteps := 999999) [-selQ_sel, hokQ_of, h_18, h_19, h_20, h_21, h_22, h_23, h_24, h_25]
              have hr := (HS.some H).symm; subst hr
              exact Hid.mk ⟨(laws_FnPlaces_l0_X w3 w4 w8 (.inr ())).2, Wk.ofk [] hk (by rfl) (by simp -implicitDefEqProofs [laws_FnPlaces_l0_X, h_18, h_19, h_20, h_21, h_22, h_23, h_24, h_25]) (by simp -implicitDefEqProofs [laws_FnPlaces_l0_X, h_18, h_19, h_20, h_21, h_22, h_23, h_24, h_25]), hR⟩
            ·replace H := HS.cnd_f h_22 H
             try simp -implicitDefEqProofs +decide (maxSteps := 999999) [-selQ_sel, hokQ_of, h_18, h_19, h_20, h_21, h_22]
             obtain ⟨v28, h_26, H⟩ := HS.bnd H
             try simp -implicitDefEqProofs +decide (maxSteps := 999999) [-selQ_sel, hokQ_of, h_18, h_19, h_20, h_21, h_22, h_26]
             refine Hid.brV (fun h_27 => ?_) (fun h_27 => ?_)
             ·replace H := HS.cnd_t h_27 H
              try simp -implicitDefEqProofs +decide (maxSteps := 999999) [-selQ_sel, hokQ_of, h_18, h_19, h_20, h_21, h_22, h_26, h_27]
              have hr := (HS.some H).symm; subst hr
              exact Hid.mk ⟨laws_FnPlaces_l0_S w3 w4 w8 ((IntKind.i64.wrap (x22 + 1)), (IntKind.i64.wrap (x23 + 1))), Wk.ofk [0, 1] hk (by rfl) (by simp -implicitDefEqProofs [laws_FnPlaces_l0_S, h_18, h_19, h_20, h_21, h_22, h_26, h_27]) (by simp -implicitDefEqProofs [laws_FnPlaces_l0_S, h_18, h_19, h_20, h_21, h_22, h_26, h_27]), hR⟩
             ·replace H := HS.cnd_f h_27 H
              try simp -implicitDefEqProofs +decide (maxSteps := 999999) [-selQ_sel, hokQ_of, h_18, h_19, h_20, h_21, h_22, h_26, h_27]
              have hr := (HS.some H).symm; subst hr
              exact Hid.mk ⟨(laws_FnPlaces_l0_X w3 w4 w8 (.inr ())).2, Wk.ofk [] hk (by rfl) (by simp -implicitDefEqProofs [laws_FnPlaces_l0_X, h_18, h_19, h_20, h_21, h_22, h_26, h_27]) (by simp -implicitDefEqProofs [laws_FnPlaces_l0_X, h_18, h_19, h_20, h_21, h_22, h_26, h_27]), hR⟩
         ·rcases q with ⟨⟩ | ⟨⟩
          ·dsimp only at H
           try simp -implicitDefEqProofs +decide (maxSteps := 999999) [-selQ_sel, hokQ_of, h_1, h_2, h_3, h_4, h_5, h_6, h_7, h_8, h_9, h_10, h_11, h_12, h_13, h_14, h_15, h_16, laws_FnPlaces_l0_X]
           have hr := (HS.some H).symm; subst hr
           refine Hid.mk ⟨_, Wk.refl _, ?_⟩
           try simp -implicitDefEqProofs +decide (maxSteps := 999999) [-selQ_sel, hokQ_of, h_1, h_2, h_3, h_4, h_5, h_6, h_7, h_8, h_9, h_10, h_11, h_12, h_13, h_14, h_15, h_16]
          ·dsimp only at H
           try simp -implicitDefEqProofs +decide (maxSteps := 999999) [-selQ_sel, hokQ_of, h_1, h_2, h_3, h_4, h_5, h_6, h_7, h_8, h_9, h_10, h_11, h_12, h_13, h_14, h_15, h_16, laws_FnPlaces_l0_X]
           have hr := (HS.some H).symm; subst hr
           refine Hid.mk ⟨_, Wk.refl _, ?_⟩
           try simp -implicitDefEqProofs +decide (maxSteps := 999999) [-selQ_sel, hokQ_of, h_1, h_2, h_3, h_4, h_5, h_6, h_7, h_8, h_9, h_10, h_11, h_12, h_13, h_14, h_15, h_16]
        ·replace H := HS.cnd_f h_16 H
         try simp -implicitDefEqProofs +decide (maxSteps := 999999) [-selQ_sel, hokQ_of, h_1, h_2, h_3, h_4, h_5, h_6, h_7, h_8, h_9, h_10, h_11, h_12, h_13, h_14, h_15, h_16]
         have hr := (HS.some H).symm; subst hr
         refine Hid.mk ⟨_, Wk.refl _, ?_⟩
         try simp -implicitDefEqProofs +decide (maxSteps := 999999) [-selQ_sel, hokQ_of, h_1, h_2, h_3, h_4, h_5, h_6, h_7, h_8, h_9, h_10, h_11, h_12, h_13, h_14, h_15, h_16]
       ·replace H := HS.cnd_f h_15 H
        try simp -implicitDefEqProofs +decide (maxSteps := 999999) [-selQ_sel, hokQ_of, h_1, h_2, h_3, h_4, h_5, h_6, h_7, h_8, h_9, h_10, h_11, h_12, h_13, h_14, h_15]
        refine Hid.selQ (fun h_28 => ?_) (fun h_28 => ?_)
        ·replace H := HS.cnd_t h_28 H
         try simp -implicitDefEqProofs +decide (maxSteps := 999999) [-selQ_sel, hokQ_of, h_1, h_2, h_3, h_4, h_5, h_6, h_7, h_8, h_9, h_10, h_11, h_12, h_13, h_14, h_15, h_28]
         have hr := (HS.some H).symm; subst hr
         refine Hid.mk ⟨_, Wk.refl _, ?_⟩
         try simp -implicitDefEqProofs +decide (maxSteps := 999999) [-selQ_sel, hokQ_of, h_1, h_2, h_3, h_4, h_5, h_6, h_7, h_8, h_9, h_10, h_11, h_12, h_13, h_14, h_15, h_28]
        ·replace H := HS.cnd_f h_28 H
         try simp -implicitDefEqProofs +decide (maxSteps := 999999) [-selQ_sel, hokQ_of, h_1, h_2, h_3, h_4, h_5, h_6, h_7, h_8, h_9, h_10, h_11, h_12, h_13, h_14, h_15, h_28]
         obtain ⟨v29, h_29, H⟩ := HS.bnd H
         try simp -implicitDefEqProofs +decide (maxSteps := 999999) [-selQ_sel, hokQ_of, h_1, h_2, h_3, h_4, h_5, h_6, h_7, h_8, h_9, h_10, h_11, h_12, h_13, h_14, h_15, h_28, h_29]
         refine Hid.brV (fun h_30 => ?_) (fun h_30 => ?_)
         ·replace H := HS.cnd_t h_30 H
          try simp -implicitDefEqProofs +decide (maxSteps := 999999) [-selQ_sel, hokQ_of, h_1, h_2, h_3, h_4, h_5, h_6, h_7, h_8, h_9, h_10, h_11, h_12, h_13, h_14, h_15, h_28, h_29, h_30]
          obtain ⟨q, h_31, H⟩ := HS.bnd H
          refine Hid.mk (Tr.weak (s' := (laws_FnPlaces_l1_S w3 w4 w8) (0, 0)) (Wk.ofk [0, 1] hk (by rfl) (by simp -implicitDefEqProofs [laws_FnPlaces_l1_S, h_1, h_2, h_3, h_4, h_5, h_6, h_7, h_8, h_9, h_10, h_11, h_12, h_13, h_14, h_15, h_28, h_29, h_30]) (by simp -implicitDefEqProofs [laws_FnPlaces_l1_S, h_1, h_2, h_3, h_4, h_5, h_6, h_7, h_8, h_9, h_10, h_11, h_12, h_13, h_14, h_15, h_28, h_29, h_30])) ?_)
          refine wp_loop_of (S := (laws_FnPlaces_l1_S w3 w4 w8)) (f := (laws_FnPlaces_l1 w3 w4 w8)) (xt := (laws_FnPlaces_l1_X w3 w4 w8)) ?_ ?_ h_31 ?_
          ·intro q; rcases q with ⟨⟩ | ⟨⟩ <;> simp [laws_FnPlaces_l1_X]
          ·clear H h_31 q
           rintro ⟨x35, x36⟩ o R hf hR
           have H : HS (laws_FnPlaces_l1 w3 w4 w8 (x35, x36)) o := hf
           clear hf; unfold laws_FnPlaces_l1 at H
           try simp -implicitDefEqProofs at H
           refine Tr.of_vc (cl := tabC [(38, laws_big_x), (54, spec_DrawPlaceNode_x), (55, impl_PlaceNode_x), (56, spec_PlaceNode_x), (49, laws_sameScene_x), (53, impl_NodeAt_x), (48, impl_SceneOk_x), (51, laws_sameNode_x)]) (E := E0) [] (tab_cons k_laws_big (tab_cons k_spec_DrawPlaceNode (tab_cons k_impl_PlaceNode (tab_cons k_spec_PlaceNode (tab_cons k_laws_sameScene (tab_cons k_impl_NodeAt (tab_cons k_impl_SceneOk (tab_cons k_laws_sameNode tab_nil)))))))) hm (by rw [hn]; decide +kernel) ?_
           try simp -implicitDefEqProofs +decide (maxSteps := 999999) [-selQ_sel, hokQ_of, laws_FnPlaces_l1_S]
           refine Hid.brV (fun h_32 => ?_) (fun h_32 => ?_)
           ·replace H := HS.cnd_t h_32 H
            try simp -implicitDefEqProofs +decide (maxSteps := 999999) [-selQ_sel, hokQ_of, h_32]
            have hr := (HS.some H).symm; subst hr
            exact Hid.mk ⟨(laws_FnPlaces_l1_X w3 w4 w8 (.inl ())).2, Wk.ofk [0, 1] hk (by rfl) (by simp -implicitDefEqProofs [laws_FnPlaces_l1_X, h_32]) (by simp -implicitDefEqProofs [laws_FnPlaces_l1_X, h_32]), hR⟩
           ·replace H := HS.cnd_f h_32 H
            try simp -implicitDefEqProofs +decide (maxSteps := 999999) [-selQ_sel, hokQ_of, h_32]
            obtain ⟨v37, h_33, H⟩ := HS.bnd H
            try simp -implicitDefEqProofs +decide (maxSteps := 999999) [-selQ_sel, hokQ_of, h_32, h_33]
            refine Hid.brV (fun h_34 => ?_) (fun h_34 => ?_)
            ·replace H := HS.cnd_t h_34 H
             try simp -implicitDefEqProofs +decide (maxSteps := 999999) [-selQ_sel, hokQ_of, h_32, h_33, h_34]
             have hr := (HS.some H).symm; subst hr
             exact Hid.mk ⟨laws_FnPlaces_l1_S w3 w4 w8 ((IntKind.i64.wrap (x35 + 1)), x36), Wk.ofk [0, 1] hk (by rfl) (by simp -implicitDefEqProofs [laws_FnPlaces_l1_S, h_32, h_33, h_34]) (by simp -implicitDefEqProofs [laws_FnPlaces_l1_S, h_32, h_33, h_34]), hR⟩
            ·replace H := HS.cnd_f h_34 H
             try simp -implicitDefEqProofs +decide (maxSteps := 999999) [-selQ_sel, hokQ_of, h_32, h_33, h_34]
             obtain ⟨v38, h_35, H⟩ := HS.bnd H
             try simp -implicitDefEqProofs +decide (maxSteps := 999999) [-selQ_sel, hokQ_of, h_32, h_33, h_34, h_35]
             refine Hid.brV (fun h_36 => ?_) (fun h_36 => ?_)
             ·replace H := HS.cnd_t h_36 H
              try simp -implicitDefEqProofs +decide (maxSteps := 999999) [-selQ_sel, hokQ_of, h_32, h_33, h_34, h_35, h_36]
              obtain ⟨v39, h_37, H⟩ := HS.bnd H
              try simp -implicitDefEqProofs +decide (maxSteps := 999999) [-selQ_sel, hokQ_of, h_32, h_33, h_34, h_35, h_36, h_37]
              obtain ⟨v40, h_38, H⟩ := HS.bnd H
              try simp -implicitDefEqProofs +decide (maxSteps := 999999) [-selQ_sel, hokQ_of, h_32, h_33, h_34, h_35, h_36, h_37, h_38]
              refine Hid.brV (fun h_39 => ?_) (fun h_39 => ?_)
              ·replace H := HS.cnd_t h_39 H
               try simp -implicitDefEqProofs +decide (maxSteps := 999999) [-selQ_sel, hokQ_of, h_32, h_33, h_34, h_35, h_36, h_37, h_38, h_39]
               have hr := (HS.some H).symm; subst hr
               exact Hid.mk ⟨laws_FnPlaces_l1_S w3 w4 w8 ((IntKind.i64.wrap (x35 + 1)), (IntKind.i64.wrap ((IntKind.i64.wrap (x36 + 1)) + 1))), Wk.ofk [0, 1] hk (by rfl) (by simp -implicitDefEqProofs [laws_FnPlaces_l1_S, h_32, h_33, h_34, h_35, h_36, h_37, h_38, h_39]) (by simp -implicitDefEqProofs [laws_FnPlaces_l1_S, h_32, h_33, h_34, h_35, h_36, h_37, h_38, h_39]), hR⟩
              ·replace H := HS.cnd_f h_39 H
               try simp -implicitDefEqProofs +decide (maxSteps := 999999) [-selQ_sel, hokQ_of, h_32, h_33, h_34, h_35, h_36, h_37, h_38, h_39]
               have hr := (HS.some H).symm; subst hr
               exact Hid.mk ⟨(laws_FnPlaces_l1_X w3 w4 w8 (.inr ())).2, Wk.ofk [] hk (by rfl) (by simp -implicitDefEqProofs [laws_FnPlaces_l1_X, h_32, h_33, h_34, h_35, h_36, h_37, h_38, h_39]) (by simp -implicitDefEqProofs [laws_FnPlaces_l1_X, h_32, h_33, h_34, h_35, h_36, h_37, h_38, h_39]), hR⟩
             ·replace H := HS.cnd_f h_36 H
              try simp -implicitDefEqProofs +decide (maxSteps := 999999) [-selQ_sel, hokQ_of, h_32, h_33, h_34, h_35, h_36]
              obtain ⟨v41, h_40, H⟩ := HS.bnd H
              try simp -implicitDefEqProofs +decide (maxSteps := 999999) [-selQ_sel, hokQ_of, h_32, h_33, h_34, h_35, h_36, h_40]
              refine Hid.brV (fun h_41 => ?_) (fun h_41 => ?_)
              ·replace H := HS.cnd_t h_41 H
               try simp -implicitDefEqProofs +decide (maxSteps := 999999) [-selQ_sel, hokQ_of, h_32, h_33, h_34, h_35, h_36, h_40, h_41]
               have hr := (HS.some H).symm; subst hr
               exact Hid.mk ⟨laws_FnPlaces_l1_S w3 w4 w8 ((IntKind.i64.wrap (x35 + 1)), (IntKind.i64.wrap (x36 + 1))), Wk.ofk [0, 1] hk (by rfl) (by simp -implicitDefEqProofs [laws_FnPlaces_l1_S, h_32, h_33, h_34, h_35, h_36, h_40, h_41]) (by simp -implicitDefEqProofs [laws_FnPlaces_l1_S, h_32, h_33, h_34, h_35, h_36, h_40, h_41]), hR⟩
              ·replace H := HS.cnd_f h_41 H
               try simp -implicitDefEqProofs +decide (maxSteps := 999999) [-selQ_sel, hokQ_of, h_32, h_33, h_34, h_35, h_36, h_40, h_41]
               have hr := (HS.some H).symm; subst hr
               exact Hid.mk ⟨(laws_FnPlaces_l1_X w3 w4 w8 (.inr ())).2, Wk.ofk [] hk (by rfl) (by simp -implicitDefEqProofs [laws_FnPlaces_l1_X, h_32, h_33, h_34, h_35, h_36, h_40, h_41]) (by simp -implicitDefEqProofs [laws_FnPlaces_l1_X, h_32, h_33, h_34, h_35, h_36, h_40, h_41]), hR⟩
          ·rcases q with ⟨⟩ | ⟨⟩
           ·dsimp only at H
            try simp -implicitDefEqProofs +decide (maxSteps := 999999) [-selQ_sel, hokQ_of, h_1, h_2, h_3, h_4, h_5, h_6, h_7, h_8, h_9, h_10, h_11, h_12, h_13, h_14, h_15, h_28, h_29, h_30, laws_FnPlaces_l1_X]
            have hr := (HS.some H).symm; subst hr
            refine Hid.mk ⟨_, Wk.refl _, ?_⟩
            try simp -implicitDefEqProofs +decide (maxSteps := 999999) [-selQ_sel, hokQ_of, h_1, h_2, h_3, h_4, h_5, h_6, h_7, h_8, h_9, h_10, h_11, h_12, h_13, h_14, h_15, h_28, h_29, h_30]
           ·dsimp only at H
            try simp -implicitDefEqProofs +decide (maxSteps := 999999) [-selQ_sel, hokQ_of, h_1, h_2, h_3, h_4, h_5, h_6, h_7, h_8, h_9, h_10, h_11, h_12, h_13, h_14, h_15, h_28, h_29, h_30, laws_FnPlaces_l1_X]
            have hr := (HS.some H).symm; subst hr
            refine Hid.mk ⟨_, Wk.refl _, ?_⟩
            try simp -implicitDefEqProofs +decide (maxSteps := 999999) [-selQ_sel, hokQ_of, h_1, h_2, h_3, h_4, h_5, h_6, h_7, h_8, h_9, h_10, h_11, h_12, h_13, h_14, h_15, h_28, h_29, h_30]
         ·replace H := HS.cnd_f h_30 H
          try simp -implicitDefEqProofs +decide (maxSteps := 999999) [-selQ_sel, hokQ_of, h_1, h_2, h_3, h_4, h_5, h_6, h_7, h_8, h_9, h_10, h_11, h_12, h_13, h_14, h_15, h_28, h_29, h_30]
          have hr := (HS.some H).symm; subst hr
          refine Hid.mk ⟨_, Wk.refl _, ?_⟩
          try simp -implicitDefEqProofs +decide (maxSteps := 999999) [-selQ_sel, hokQ_of, h_1, h_2, h_3, h_4, h_5, h_6, h_7, h_8, h_9, h_10, h_11, h_12, h_13, h_14, h_15, h_28, h_29, h_30]
      ·replace H := HS.cnd_f h_14 H
       try simp -implicitDefEqProofs +decide (maxSteps := 999999) [-selQ_sel, hokQ_of, h_1, h_2, h_3, h_4, h_5, h_6, h_7, h_8, h_9, h_10, h_11, h_12, h_13, h_14]
       have hr := (HS.some H).symm; subst hr
       refine Hid.mk ⟨_, Wk.refl _, ?_⟩
       try simp -implicitDefEqProofs +decide (maxSteps := 999999) [-selQ_sel, hokQ_of, h_1, h_2, h_3, h_4, h_5, h_6, h_7, h_8, h_9, h_10, h_11, h_12, h_13, h_14]
     ·replace H := HS.cnd_f h_12 H
      try simp -implicitDefEqProofs +decide (maxSteps := 999999) [-selQ_sel, hokQ_of, h_1, h_2, h_3, h_4, h_5, h_6, h_7, h_8, h_9, h_10, h_11, h_12]
      have hr := (HS.some H).symm; subst hr
      refine Hid.mk ⟨_, Wk.refl _, ?_⟩
      try simp -implicitDefEqProofs +decide (maxSteps := 999999) [-selQ_sel, hokQ_of, h_1, h_2, h_3, h_4, h_5, h_6, h_7, h_8, h_9, h_10, h_11, h_12]
    ·replace H := HS.cnd_f h_9 H
     try simp -implicitDefEqProofs +decide (maxSteps := 999999) [-selQ_sel, hokQ_of, h_1, h_2, h_3, h_4, h_5, h_6, h_7, h_8, h_9]
     obtain ⟨v42, h_42, H⟩ := HS.bnd H
     try simp -implicitDefEqProofs +decide (maxSteps := 999999) [-selQ_sel, hokQ_of, h_1, h_2, h_3, h_4, h_5, h_6, h_7, h_8, h_9, h_42]
     have hr := (HS.some H).symm; subst hr
     refine Hid.mk ⟨_, Wk.refl _, ?_⟩
     try simp -implicitDefEqProofs +decide (maxSteps := 999999) [-selQ_sel, hokQ_of, h_1, h_2, h_3, h_4, h_5, h_6, h_7, h_8, h_9, h_42]
   ·replace H := HS.cnd_f h_8 H
    try simp -implicitDefEqProofs +decide (maxSteps := 999999) [-selQ_sel, hokQ_of, h_1, h_2, h_3, h_4, h_5, h_6, h_7, h_8]
    have hr := (HS.some H).symm; subst hr
    refine Hid.mk ⟨_, Wk.refl _, ?_⟩
    try simp -implicitDefEqProofs +decide (maxSteps := 999999) [-selQ_sel, hokQ_of, h_1, h_2, h_3, h_4, h_5, h_6, h_7, h_8]
  ·replace H := HS.cnd_f h_6 H
   try simp -implicitDefEqProofs +decide (maxSteps := 999999) [-selQ_sel, hokQ_of, h_1, h_2, h_3, h_4, h_5, h_6]
   have hr := (HS.some H).symm; subst hr
   refine Hid.mk ⟨_, Wk.refl _, ?_⟩
   try simp -implicitDefEqProofs +decide (maxSteps := 999999) [-selQ_sel, hokQ_of, h_1, h_2, h_3, h_4, h_5, h_6]
theorem spec_l15Node_ok0 (hm : Try.prog.follows .mixedOrders = true) (k_spec_Still : Sound Try.prog 172 spec_Still_x) (k_spec_l01PickInt : Sound Try.prog 171 spec_l01PickInt_x) (k_spec_l01Once : Sound Try.prog 170 spec_l01Once_x) (k_spec_l04Mat : Sound Try.prog 173 spec_l04Mat_x) (k_spec_l06Path : Sound Try.prog 169 spec_l06Path_x) (k_spec_l12Paint : Sound Try.prog 174 spec_l12Paint_x) (k_spec_l01Below : Sound Try.prog 107 spec_l01Below_x) : Sound Try.prog 110 spec_l15Node_x := by
 refine xOf_sound fun q r h => ?_
 obtain ⟨a0, a1, a2⟩ := q
 refine fn_ok E0 hm Try.func110 rfl (by decide +kernel) (by rfl) fun Γ hn hk => ?_
 dsimp only [spec_l15Node_e, spec_l15Node_v]
 replace hn : Γ.n = 58 := hn
 replace hk : Γ.k = 1 := hk
 have H : HS (spec_l15Node a0 a1 a2) r := h
 clear h; unfold spec_l15Node at H
 try simp -implicitDefEqProofs at H
 refine Tr.of_vc (cl := tabC [(172, spec_Still_x), (171, spec_l01PickInt_x), (170, spec_l01Once_x), (173, spec_l04Mat_x), (169, spec_l06Path_x), (174, spec_l12Paint_x), (107, spec_l01Below_x)]) (E := E0) [] (tab_cons k_spec_Still (tab_cons k_spec_l01PickInt (tab_cons k_spec_l01Once (tab_cons k_spec_l04Mat (tab_cons k_spec_l06Path (tab_cons k_spec_l12Paint (tab_cons k_spec_l01Below tab_nil))))))) hm (by rw [hn]; decide +kernel) ?_
 try simp -implicitDefEqProofs (maxSteps := 999999) [-selQ_sel]
 obtain ⟨v1, h_1, H⟩ := HS.bnd H
 try simp -implicitDefEqProofs (maxSteps := 999999) [-selQ_sel, h_1]
 obtain ⟨⟨w3, w4⟩, h_2, H⟩ := HS.bnd H
 dsimp only at H
 have k_3 := spec_l01PickInt_k a2.b a2.i a2.h [1, 1, 1, 2, 3, 4, 5]
 simp -implicitDefEqProofs [-spec_l01PickInt_k] at k_3
 try simp -implicitDefEqProofs (maxSteps := 999999) [-selQ_sel, h_1, h_2, k_3]
 obtain ⟨⟨w6, w7⟩, h_4, H⟩ := HS.bnd H
 dsimp only at H
 have k_5 := spec_l01PickInt_k w4.b w4.i w4.h [255, 255, 255, 128, 0]
 simp -implicitDefEqProofs [-spec_l01PickInt_k] at k_5
 try simp -implicitDefEqProofs (maxSteps := 999999) [-selQ_sel, h_1, h_2, k_3, h_4, k_5]
 obtain ⟨⟨w9, w10⟩, h_6, H⟩ := HS.bnd H
 dsimp only at H
 try simp -implicitDefEqProofs (maxSteps := 999999) [-selQ_sel, h_1, h_2, k_3, h_4, k_5, h_6]
 refine Hid.brV (fun h_7 => ?_) (fun h_7 => ?_)
 ·replace H := HS.cnd_t h_7 H
  try simp -implicitDefEqProofs (maxSteps := 999999) [-selQ_sel, h_1, h_2, k_3, h_4, k_5, h_6, h_7]
  obtain ⟨⟨w12, w13⟩, h_8, H⟩ := HS.bnd H
  dsimp only at H
  try simp -implicitDefEqProofs (maxSteps := 999999) [-selQ_sel, h_1, h_2, k_3, h_4, k_5, h_6, h_7, h_8]
  obtain ⟨⟨w15, w16⟩, h_9, H⟩ := HS.bnd H
  dsimp only at H
  try simp -implicitDefEqProofs (maxSteps := 999999) [-selQ_sel, h_1, h_2, k_3, h_4, k_5, h_6, h_7, h_8, h_9]
  refine Hid.brV (fun h_10 => ?_) (fun h_10 => ?_)
  ·replace H := HS.cnd_t h_10 H
   try simp -implicitDefEqProofs (maxSteps := 999999) [-selQ_sel, h_1, h_2, k_3, h_4, k_5, h_6, h_7, h_8, h_9, h_10]
   obtain ⟨⟨w18, w19, w20⟩, h_11, H⟩ := HS.bnd H
   dsimp only at H
   try simp -implicitDefEqProofs (maxSteps := 999999) [-selQ_sel, h_1, h_2, k_3, h_4, k_5, h_6, h_7, h_8, h_9, h_10, h_11]
   obtain ⟨⟨w22, w23⟩, h_12, H⟩ := HS.bnd H
   dsimp only at H
   try simp -implicitDefEqProofs (maxSteps := 999999) [-selQ_sel, h_1, h_2, k_3, h_4, k_5, h_6, h_7, h_8, h_9, h_10, h_11, h_12]
   refine Hid.brV (fun h_13 => ?_) (fun h_13 => ?_)
   ·replace H := HS.cnd_t h_13 H
    try simp -implicitDefEqProofs (maxSteps := 999999) [-selQ_sel, h_1, h_2, k_3, h_4, k_5, h_6, h_7, h_8, h_9, h_10, h_11, h_12, h_13]
    have hr := (HS.some H).symm; subst hr
    refine Hid.mk ⟨_, Wk.refl _, ?_⟩
    try simp -implicitDefEqProofs (maxSteps := 999999) [-selQ_sel, h_1, h_2, k_3, h_4, k_5, h_6, h_7, h_8, h_9, h_10, h_11, h_12, h_13]
   ·replace H := HS.cnd_f h_13 H
    try simp -implicitDefEqProofs (maxSteps := 999999) [-selQ_sel, h_1, h_2, k_3, h_4, k_5, h_6, h_7, h_8, h_9, h_10, h_11, h_12, h_13]
    obtain ⟨⟨w25, w26, w27⟩, h_14, H⟩ := HS.bnd H
    dsimp only at H
    try simp -implicitDefEqProofs (maxSteps := 999999) [-selQ_sel, h_1, h_2, k_3, h_4, k_5, h_6, h_7, h_8, h_9, h_10, h_11, h_12, h_13, h_14]
    obtain ⟨⟨w29, w30⟩, h_15, H⟩ := HS.bnd H
    dsimp only at H
    try simp -implicitDefEqProofs (maxSteps := 999999) [-selQ_sel, h_1, h_2, k_3, h_4, k_5, h_6, h_7, h_8, h_9, h_10, h_11, h_12, h_13, h_14, h_15]
    obtain ⟨⟨w32, w33⟩, h_16, H⟩ := HS.bnd H
    dsimp only at H
    try simp -implicitDefEqProofs (maxSteps := 999999) [-selQ_sel, h_1, h_2, k_3, h_4, k_5, h_6, h_7, h_8, h_9, h_10, h_11, h_12, h_13, h_14, h_15, h_16]
    obtain ⟨⟨w35, w36⟩, h_17, H⟩ := HS.bnd H
    dsimp only at H
    try simp -implicitDefEqProofs (maxSteps := 999999) [-selQ_sel, h_1, h_2, k_3, h_4, k_5, h_6, h_7, h_8, h_9, h_10, h_11, h_12, h_13, h_14, h_15, h_16, h_17]
    refine Hid.brV (fun h_18 => ?_) (fun h_18 => ?_)
    ·replace H := HS.cnd_t h_18 H
     try simp -implicitDefEqProofs (maxSteps := 999999) [-selQ_sel, h_1, h_2, k_3, h_4, k_5, h_6, h_7, h_8, h_9, h_10, h_11, h_12, h_13, h_14, h_15, h_16, h_17, h_18]
     obtain ⟨⟨w38, w39⟩, h_19, H⟩ := HS.bnd H
     dsimp only at H
     try simp -implicitDefEqProofs (maxSteps := 999999) [-selQ_sel, h_1, h_2, k_3, h_4, k_5, h_6, h_7, h_8, h_9, h_10, h_11, h_12, h_13, h_14, h_15, h_16, h_17, h_18, h_19]
     obtain ⟨⟨w41, w42⟩, h_20, H⟩ := HS.bnd H
     dsimp only at H
     try simp -implicitDefEqProofs (maxSteps := 999999) [-selQ_sel, h_1, h_2, k_3, h_4, k_5, h_6, h_7, h_8, h_9, h_10, h_11, h_12, h_13, h_14, h_15, h_16, h_17, h_18, h_19, h_20]
     refine Hid.brV (fun h_21 => ?_) (fun h_21 => ?_)
     ·replace H := HS.cnd_t h_21 H
      try simp -implicitDefEqProofs (maxSteps := 999999) [-selQ_sel, h_1, h_2, k_3, h_4, k_5, h_6, h_7, h_8, h_9, h_10, h_11, h_12, h_13, h_14, h_15, h_16, h_17, h_18, h_19, h_20, h_21]
      obtain ⟨⟨w44, w45⟩, h_22, H⟩ := HS.bnd H
      dsimp only at H
      try simp -implicitDefEqProofs (maxSteps := 999999) [-selQ_sel, h_1, h_2, k_3, h_4, k_5, h_6, h_7, h_8, h_9, h_10, h_11, h_12, h_13, h_14, h_15, h_16, h_17, h_18, h_19, h_20, h_21, h_22]
      obtain ⟨⟨w47, w48⟩, h_23, H⟩ := HS.bnd H
      dsimp only at H
      try simp -implicitDefEqProofs (maxSteps := 999999) [-selQ_sel, h_1, h_2, k_3, h_4, k_5, h_6, h_7, h_8, h_9, h_10, h_11, h_12, h_13, h_14, h_15, h_16, h_17, h_18, h_19, h_20, h_21, h_22, h_23]
      have hr := (HS.some H).symm; subst hr
      refine Hid.mk ⟨_, Wk.refl _, ?_⟩
      try simp -implicitDefEqProofs (maxSteps := 999999) [-selQ_sel, h_1, h_2, k_3, h_4, k_5, h_6, h_7, h_8, h_9, h_10, h_11, h_12, h_13, h_14, h_15, h_16, h_17, h_18, h_19, h_20, h_21, h_22, h_23]
     ·replace H := HS.cnd_f h_21 H
      try simp -implicitDefEqProofs (maxSteps := 999999) [-selQ_sel, h_1, h_2, k_3, h_4, k_5, h_6, h_7, h_8, h_9, h_10, h_11, h_12, h_13, h_14, h_15, h_16, h_17, h_18, h_19, h_20, h_21]
      have hr := (HS.some H).symm; subst hr
      refine Hid.mk ⟨_, Wk.refl _, ?_⟩
      try simp -implicitDefEqProofs (maxSteps := 999999) [-selQ_sel, h_1, h_2, k_3, h_4, k_5, h_6, h_7, h_8, h_9, h_10, h_11, h_12, h_13, h_14, h_15, h_16, h_17, h_18, h_19, h_20, h_21]
    ·replace H := HS.cnd_f h_18 H
     try simp -implicitDefEqProofs (maxSteps := 999999) [-selQ_sel, h_1, h_2, k_3, h_4, k_5, h_6, h_7, h_8, h_9, h_10, h_11, h_12, h_13, h_14, h_15, h_16, h_17, h_18]
     have hr := (HS.some H).symm; subst hr
     refine Hid.mk ⟨_, Wk.refl _, ?_⟩
     try simp -implicitDefEqProofs (maxSteps := 999999) [-selQ_sel, h_1, h_2, k_3, h_4, k_5, h_6, h_7, h_8, h_9, h_10, h_11, h_12, h_13, h_14, h_15, h_16, h_17, h_18]
  ·replace H := HS.cnd_f h_10 H
   try simp -implicitDefEqProofs (maxSteps := 999999) [-selQ_sel, h_1, h_2, k_3, h_4, k_5, h_6, h_7, h_8, h_9, h_10]
   obtain ⟨⟨w50, w51⟩, h_24, H⟩ := HS.bnd H
   dsimp only at H
   try simp -implicitDefEqProofs (maxSteps := 999999) [-selQ_sel, h_1, h_2, k_3, h_4, k_5, h_6, h_7, h_8, h_9, h_10, h_24]
   refine Hid.brV (fun h_25 => ?_) (fun h_25 => ?_)
   ·replace H := HS.cnd_t h_25 H
    try simp -implicitDefEqProofs (maxSteps := 999999) [-selQ_sel, h_1, h_2, k_3, h_4, k_5, h_6, h_7, h_8, h_9, h_10, h_24, h_25]
    have hr := (HS.some H).symm; subst hr
    refine Hid.mk ⟨_, Wk.refl _, ?_⟩
    try simp -implicitDefEqProofs (maxSteps := 999999) [-selQ_sel, h_1, h_2, k_3, h_4, k_5, h_6, h_7, h_8, h_9, h_10, h_24, h_25]
   ·replace H := HS.cnd_f h_25 H
    try simp -implicitDefEqProofs (maxSteps := 999999) [-selQ_sel, h_1, h_2, k_3, h_4, k_5, h_6, h_7, h_8, h_9, h_10, h_24, h_25]
    obtain ⟨⟨w53, w54, w55⟩, h_26, H⟩ := HS.bnd H
    dsimp only at H
    try simp -implicitDefEqProofs (maxSteps := 999999) [-selQ_sel, h_1, h_2, k_3, h_4, k_5, h_6, h_7, h_8, h_9, h_10, h_24, h_25, h_26]
    obtain ⟨⟨w57, w58⟩, h_27, H⟩ := HS.bnd H
    dsimp only at H
    try simp -implicitDefEqProofs (maxSteps := 999999) [-selQ_sel, h_1, h_2, k_3, h_4, k_5, h_6, h_7, h_8, h_9, h_10, h_24, h_25, h_26, h_27]
    obtain ⟨⟨w60, w61⟩, h_28, H⟩ := HS.bnd H
    dsimp only at H
    try simp -implicitDefEqProofs (maxSteps := 999999) [-selQ_sel, h_1, h_2, k_3, h_4, k_5, h_6, h_7, h_8, h_9, h_10, h_24, h_25, h_26, h_27, h_28]
    obtain ⟨⟨w63, w64⟩, h_29, H⟩ := HS.bnd H
    dsimp only at H
    try simp -implicitDefEqProofs (maxSteps := 999999) [-selQ_sel, h_1, h_2, k_3, h_4, k_5, h_6, h_7, h_8, h_9, h_10, h_24, h_25, h_26, h_27, h_28, h_29]
    refine Hid.brV (fun h_30 => ?_) (fun h_30 => ?_)
    ·replace H := HS.cnd_t h_30 H
     try simp -implicitDefEqProofs (maxSteps := 999999) [-selQ_sel, h_1, h_2, k_3, h_4, k_5, h_6, h_7, h_8, h_9, h_10, h_24, h_25, h_26, h_27, h_28, h_29, h_30]
     obtain ⟨⟨w66, w67⟩, h_31, H⟩ := HS.bnd H
     dsimp only at H
     try simp -implicitDefEqProofs (maxSteps := 999999) [-selQ_sel, h_1, h_2, k_3, h_4, k_5, h_6, h_7, h_8, h_9, h_10, h_24, h_25, h_26, h_27, h_28, h_29, h_30, h_31]
     obtain ⟨⟨w69, w70⟩, h_32, H⟩ := HS.bnd H
     dsimp only at H
     try simp -implicitDefEqProofs (maxSteps := 999999) [-selQ_sel, h_1, h_2, k_3, h_4, k_5, h_6, h_7, h_8, h_9, h_10, h_24, h_25, h_26, h_27, h_28, h_29, h_30, h_31, h_32]
     refine Hid.brV (fun h_33 => ?_) (fun h_33 => ?_)
     ·replace H := HS.cnd_t h_33 H
      try simp -implicitDefEqProofs (maxSteps := 999999) [-selQ_sel, h_1, h_2, k_3, h_4, k_5, h_6, h_7, h_8, h_9, h_10, h_24, h_25, h_26, h_27, h_28, h_29, h_30, h_31, h_32, h_33]
      obtain ⟨⟨w72, w73⟩, h_34, H⟩ := HS.bnd H
      dsimp only at H
      try simp -implicitDefEqProofs (maxSteps := 999999) [-selQ_sel, h_1, h_2, k_3, h_4, k_5, h_6, h_7, h_8, h_9, h_10, h_24, h_25, h_26, h_27, h_28, h_29, h_30, h_31, h_32, h_33, h_34]
      obtain ⟨⟨w75, w76⟩, h_35, H⟩ := HS.bnd H
      dsimp only at H
      try simp -implicitDefEqProofs (maxSteps := 999999) [-selQ_sel, h_1, h_2, k_3, h_4, k_5, h_6, h_7, h_8, h_9, h_10, h_24, h_25, h_26, h_27, h_28, h_29, h_30, h_31, h_32, h_33, h_34, h_35]
      have hr := (HS.some H).symm; subst hr
      refine Hid.mk ⟨_, Wk.refl _, ?_⟩
      try simp -implicitDefEqProofs (maxSteps := 999999) [-selQ_sel, h_1, h_2, k_3, h_4, k_5, h_6, h_7, h_8, h_9, h_10, h_24, h_25, h_26, h_27, h_28, h_29, h_30, h_31, h_32, h_33, h_34, h_35]
     ·replace H := HS.cnd_f h_33 H
      try simp -implicitDefEqProofs (maxSteps := 999999) [-selQ_sel, h_1, h_2, k_3, h_4, k_5, h_6, h_7, h_8, h_9, h_10, h_24, h_25, h_26, h_27, h_28, h_29, h_30, h_31, h_32, h_33]
      have hr := (HS.some H).symm; subst hr
      refine Hid.mk ⟨_, Wk.refl _, ?_⟩
      try simp -implicitDefEqProofs (maxSteps := 999999) [-selQ_sel, h_1, h_2, k_3, h_4, k_5, h_6, h_7, h_8, h_9, h_10, h_24, h_25, h_26, h_27, h_28, h_29, h_30, h_31, h_32, h_33]
    ·replace H := HS.cnd_f h_30 H
     try simp -implicitDefEqProofs (maxSteps := 999999) [-selQ_sel, h_1, h_2, k_3, h_4, k_5, h_6, h_7, h_8, h_9, h_10, h_24, h_25, h_26, h_27, h_28, h_29, h_30]
     have hr := (HS.some H).symm; subst hr
     refine Hid.mk ⟨_, Wk.refl _, ?_⟩
     try simp -implicitDefEqProofs (maxSteps := 999999) [-selQ_sel, h_1, h_2, k_3, h_4, k_5, h_6, h_7, h_8, h_9, h_10, h_24, h_25, h_26, h_27, h_28, h_29, h_30]
 ·replace H := HS.cnd_f h_7 H
  try simp -implicitDefEqProofs (maxSteps := 999999) [-selQ_sel, h_1, h_2, k_3, h_4, k_5, h_6, h_7]
  obtain ⟨⟨w78, w79⟩, h_36, H⟩ := HS.bnd H
  dsimp only at H
  try simp -implicitDefEqProofs (maxSteps := 999999) [-selQ_sel, h_1, h_2, k_3, h_4, k_5, h_6, h_7, h_36]
  refine Hid.brV (fun h_37 => ?_) (fun h_37 => ?_)
  ·replace H := HS.cnd_t h_37 H
   try simp -implicitDefEqProofs (maxSteps := 999999) [-selQ_sel, h_1, h_2, k_3, h_4, k_5, h_6, h_7, h_36, h_37]
   obtain ⟨⟨w81, w82, w83⟩, h_38, H⟩ := HS.bnd H
   dsimp only at H
   try simp -implicitDefEqProofs (maxSteps := 999999) [-selQ_sel, h_1, h_2, k_3, h_4, k_5, h_6, h_7, h_36, h_37, h_38]
   obtain ⟨⟨w85, w86⟩, h_39, H⟩ := HS.bnd H
   dsimp only at H
   try simp -implicitDefEqProofs (maxSteps := 999999) [-selQ_sel, h_1, h_2, k_3, h_4, k_5, h_6, h_7, h_36, h_37, h_38, h_39]
   refine Hid.brV (fun h_40 => ?_) (fun h_40 => ?_)
   ·replace H := HS.cnd_t h_40 H
    try simp -implicitDefEqProofs (maxSteps := 999999) [-selQ_sel, h_1, h_2, k_3, h_4, k_5, h_6, h_7, h_36, h_37, h_38, h_39, h_40]
    have hr := (HS.some H).symm; subst hr
    refine Hid.mk ⟨_, Wk.refl _, ?_⟩
    try simp -implicitDefEqProofs (maxSteps := 999999) [-selQ_sel, h_1, h_2, k_3, h_4, k_5, h_6, h_7, h_36, h_37, h_38, h_39, h_40]
   ·replace H := HS.cnd_f h_40 H
    try simp -implicitDefEqProofs (maxSteps := 999999) [-selQ_sel, h_1, h_2, k_3, h_4, k_5, h_6, h_7, h_36, h_37, h_38, h_39, h_40]
    obtain ⟨⟨w88, w89, w90⟩, h_41, H⟩ := HS.bnd H
    dsimp only at H
    try simp -implicitDefEqProofs (maxSteps := 999999) [-selQ_sel, h_1, h_2, k_3, h_4, k_5, h_6, h_7, h_36, h_37, h_38, h_39, h_40, h_41]
    obtain ⟨⟨w92, w93⟩, h_42, H⟩ := HS.bnd H
    dsimp only at H
    try simp -implicitDefEqProofs (maxSteps := 999999) [-selQ_sel, h_1, h_2, k_3, h_4, k_5, h_6, h_7, h_36, h_37, h_38, h_39, h_40, h_41, h_42]
    obtain ⟨⟨w95, w96⟩, h_43, H⟩ := HS.bnd H
    dsimp only at H
    try simp -implicitDefEqProofs (maxSteps := 999999) [-selQ_sel, h_1, h_2, k_3, h_4, k_5, h_6, h_7, h_36, h_37, h_38, h_39, h_40, h_41, h_42, h_43]
    obtain ⟨⟨w98, w99⟩, h_44, H⟩ := HS.bnd H
    dsimp only at H
    try simp -implicitDefEqProofs (maxSteps := 999999) [-selQ_sel, h_1, h_2, k_3, h_4, k_5, h_6, h_7, h_36, h_37, h_38, h_39, h_40, h_41, h_42, h_43, h_44]
    refine Hid.brV (fun h_45 => ?_) (fun h_45 => ?_)
    ·replace H := HS.cnd_t h_45 H
     try simp -implicitDefEqProofs (maxSteps := 999999) [-selQ_sel, h_1, h_2, k_3, h_4, k_5, h_6, h_7, h_36, h_37, h_38, h_39, h_40, h_41, h_42, h_43, h_44, h_45]
     obtain ⟨⟨w101, w102⟩, h_46, H⟩ := HS.bnd H
     dsimp only at H
     try simp -implicitDefEqProofs (maxSteps := 999999) [-selQ_sel, h_1, h_2, k_3, h_4, k_5, h_6, h_7, h_36, h_37, h_38, h_39, h_40, h_41, h_42, h_43, h_44, h_45, h_46]
     obtain ⟨⟨w104, w105⟩, h_47, H⟩ := HS.bnd H
     dsimp only at H
     try simp -implicitDefEqProofs (maxSteps := 999999) [-selQ_sel, h_1, h_2, k_3, h_4, k_5, h_6, h_7, h_36, h_37, h_38, h_39, h_40, h_41, h_42, h_43, h_44, h_45, h_46, h_47]
     refine Hid.brV (fun h_48 => ?_) (fun h_48 => ?_)
     ·replace H := HS.cnd_t h_48 H
      try simp -implicitDefEqProofs (maxSteps := 999999) [-selQ_sel, h_1, h_2, k_3, h_4, k_5, h_6, h_7, h_36, h_37, h_38, h_39, h_40, h_41, h_42, h_43, h_44, h_45, h_46, h_47, h_48]
      obtain ⟨⟨w107, w108⟩, h_49, H⟩ := HS.bnd H
      dsimp only at H
      try simp -implicitDefEqProofs (maxSteps := 999999) [-selQ_sel, h_1, h_2, k_3, h_4, k_5, h_6, h_7, h_36, h_37, h_38, h_39, h_40, h_41, h_42, h_43, h_44, h_45, h_46, h_47, h_48, h_49]
      obtain ⟨⟨w110, w111⟩, h_50, H⟩ := HS.bnd H
      dsimp only at H
      try simp -implicitDefEqProofs (maxSteps := 999999) [-selQ_sel, h_1, h_2, k_3, h_4, k_5, h_6, h_7, h_36, h_37, h_38, h_39, h_40, h_41, h_42, h_43, h_44, h_45, h_46, h_47, h_48, h_49, h_50]
      have hr := (HS.some H).symm; subst hr
      refine Hid.mk ⟨_, Wk.refl _, ?_⟩
      try simp -implicitDefEqProofs (maxSteps := 999999) [-selQ_sel, h_1, h_2, k_3, h_4, k_5, h_6, h_7, h_36, h_37, h_38, h_39, h_40, h_41, h_42, h_43, h_44, h_45, h_46, h_47, h_48, h_49, h_50]
     ·replace H := HS.cnd_f h_48 H
      try simp -implicitDefEqProofs (maxSteps := 999999) [-selQ_sel, h_1, h_2, k_3, h_4, k_5, h_6, h_7, h_36, h_37, h_38, h_39, h_40, h_41, h_42, h_43, h_44, h_45, h_46, h_47, h_48]
      have hr := (HS.some H).symm; subst hr
      refine Hid.mk ⟨_, Wk.refl _, ?_⟩
      try simp -implicitDefEqProofs (maxSteps := 999999) [-selQ_sel, h_1, h_2, k_3, h_4, k_5, h_6, h_7, h_36, h_37, h_38, h_39, h_40, h_41, h_42, h_43, h_44, h_45, h_46, h_47, h_48]
    ·replace H := HS.cnd_f h_45 H
     try simp -implicitDefEqProofs (maxSteps := 999999) [-selQ_sel, h_1, h_2, k_3, h_4, k_5, h_6, h_7, h_36, h_37, h_38, h_39, h_40, h_41, h_42, h_43, h_44, h_45]
     have hr := (HS.some H).symm; subst hr
     refine Hid.mk ⟨_, Wk.refl _, ?_⟩
     try simp -implicitDefEqProofs (maxSteps := 999999) [-selQ_sel, h_1, h_2, k_3, h_4, k_5, h_6, h_7, h_36, h_37, h_38, h_39, h_40, h_41, h_42, h_43, h_44, h_45]
  ·replace H := HS.cnd_f h_37 H
   try simp -implicitDefEqProofs (maxSteps := 999999) [-selQ_sel, h_1, h_2, k_3, h_4, k_5, h_6, h_7, h_36, h_37]
   obtain ⟨⟨w113, w114⟩, h_51, H⟩ := HS.bnd H
   dsimp only at H
   try simp -implicitDefEqProofs (maxSteps := 999999) [-selQ_sel, h_1, h_2, k_3, h_4, k_5, h_6, h_7, h_36, h_37, h_51]
   refine Hid.brV (fun h_52 => ?_) (fun h_52 => ?_)
   ·replace H := HS.cnd_t h_52 H
    try simp -implicitDefEqProofs (maxSteps := 999999) [-selQ_sel, h_1, h_2, k_3, h_4, k_5, h_6, h_7, h_36, h_37, h_51, h_52]
    have hr := (HS.some H).symm; subst hr
    refine Hid.mk ⟨_, Wk.refl _, ?_⟩
    try simp -implicitDefEqProofs (maxSteps := 999999) [-selQ_sel, h_1, h_2, k_3, h_4, k_5, h_6, h_7, h_36, h_37, h_51, h_52]
   ·replace H := HS.cnd_f h_52 H
    try simp -implicitDefEqProofs (maxSteps := 999999) [-selQ_sel, h_1, h_2, k_3, h_4, k_5, h_6, h_7, h_36, h_37, h_51, h_52]
    obtain ⟨⟨w116, w117, w118⟩, h_53, H⟩ := HS.bnd H
    dsimp only at H
    try simp -implicitDefEqProofs (maxSteps := 999999) [-selQ_sel, h_1, h_2, k_3, h_4, k_5, h_6, h_7, h_36, h_37, h_51, h_52, h_53]
    obtain ⟨⟨w120, w121⟩, h_54, H⟩ := HS.bnd H
    dsimp only at H
    try simp -implicitDefEqProofs (maxSteps := 999999) [-selQ_sel, h_1, h_2, k_3, h_4, k_5, h_6, h_7, h_36, h_37, h_51, h_52, h_53, h_54]
    obtain ⟨⟨w123, w124⟩, h_55, H⟩ := HS.bnd H
    dsimp only at H
    try simp -implicitDefEqProofs (maxSteps := 999999) [-selQ_sel, h_1, h_2, k_3, h_4, k_5, h_6, h_7, h_36, h_37, h_51, h_52, h_53, h_54, h_55]
    obtain ⟨⟨w126, w127⟩, h_56, H⟩ := HS.bnd H
    dsimp only at H
    try simp -implicitDefEqProofs (maxSteps := 999999) [-selQ_sel, h_1, h_2, k_3, h_4, k_5, h_6, h_7, h_36, h_37, h_51, h_52, h_53, h_54, h_55, h_56]
    refine Hid.brV (fun h_57 => ?_) (fun h_57 => ?_)
    ·replace H := HS.cnd_t h_57 H
     try simp -implicitDefEqProofs (maxSteps := 999999) [-selQ_sel, h_1, h_2, k_3, h_4, k_5, h_6, h_7, h_36, h_37, h_51, h_52, h_53, h_54, h_55, h_56, h_57]
     obtain ⟨⟨w129, w130⟩, h_58, H⟩ := HS.bnd H
     dsimp only at H
     try simp -implicitDefEqProofs (maxSteps := 999999) [-selQ_sel, h_1, h_2, k_3, h_4, k_5, h_6, h_7, h_36, h_37, h_51, h_52, h_53, h_54, h_55, h_56, h_57, h_58]
     obtain ⟨⟨w132, w133⟩, h_59, H⟩ := HS.bnd H
     dsimp only at H
     try simp -implicitDefEqProofs (maxSteps := 999999) [-selQ_sel, h_1, h_2, k_3, h_4, k_5, h_6, h_7, h_36, h_37, h_51, h_52, h_53, h_54, h_55, h_56, h_57, h_58, h_59]
     refine Hid.brV (fun h_60 => ?_) (fun h_60 => ?_)
     ·replace H := HS.cnd_t h_60 H
      try simp -implicitDefEqProofs (maxSteps := 999999) [-selQ_sel, h_1, h_2, k_3, h_4, k_5, h_6, h_7, h_36, h_37, h_51, h_52, h_53, h_54, h_55, h_56, h_57, h_58, h_59, h_60]
      obtain ⟨⟨w135, w136⟩, h_61, H⟩ := HS.bnd H
      dsimp only at H
      try simp -implicitDefEqProofs (maxSteps := 999999) [-selQ_sel, h_1, h_2, k_3, h_4, k_5, h_6, h_7, h_36, h_37, h_51, h_52, h_53, h_54, h_55, h_56, h_57, h_58, h_59, h_60, h_61]
      obtain ⟨⟨w138, w139⟩, h_62, H⟩ := HS.bnd H
      dsimp only at H
      try simp -implicitDefEqProofs (maxSteps := 999999) [-selQ_sel, h_1, h_2, k_3, h_4, k_5, h_6, h_7, h_36, h_37, h_51, h_52, h_53, h_54, h_55, h_56, h_57, h_58, h_59, h_60, h_61, h_62]
      have hr := (HS.some H).symm; subst hr
      refine Hid.mk ⟨_, Wk.refl _, ?_⟩
      try simp -implicitDefEqProofs (maxSteps := 999999) [-selQ_sel, h_1, h_2, k_3, h_4, k_5, h_6, h_7, h_36, h_37, h_51, h_52, h_53, h_54, h_55, h_56, h_57, h_58, h_59, h_60, h_61, h_62]
     ·replace H := HS.cnd_f h_60 H
      try simp -implicitDefEqProofs (maxSteps := 999999) [-selQ_sel, h_1, h_2, k_3, h_4, k_5, h_6, h_7, h_36, h_37, h_51, h_52, h_53, h_54, h_55, h_56, h_57, h_58, h_59, h_60]
      have hr := (HS.some H).symm; subst hr
      refine Hid.mk ⟨_, Wk.refl _, ?_⟩
      try simp -implicitDefEqProofs (maxSteps := 999999) [-selQ_sel, h_1, h_2, k_3, h_4, k_5, h_6, h_7, h_36, h_37, h_51, h_52, h_53, h_54, h_55, h_56, h_57, h_58, h_59, h_60]
    ·replace H := HS.cnd_f h_57 H
     try simp -implicitDefEqProofs (maxSteps := 999999) [-selQ_sel, h_1, h_2, k_3, h_4, k_5, h_6, h_7, h_36, h_37, h_51, h_52, h_53, h_54, h_55, h_56, h_57]
     have hr := (HS.some H).symm; subst hr
     refine Hid.mk ⟨_, Wk.refl _, ?_⟩
     try simp -implicitDefEqProofs (maxSteps := 999999) [-selQ_sel, h_1, h_2, k_3, h_4, k_5, h_6, h_7, h_36, h_37, h_51, h_52, h_53, h_54, h_55, h_56, h_57]
theorem impl_NodeOk_ok0 (hm : Try.prog.follows .mixedOrders = true) (k_impl_inRange : Sound Try.prog 95 impl_inRange_x) (k_impl_MatOk : Sound Try.prog 175 impl_MatOk_x) (k_impl_PathOk : Sound Try.prog 176 impl_PathOk_x) (k_impl_DashOk : Sound Try.prog 177 impl_DashOk_x) (k_impl_isMode : Sound Try.prog 178 impl_isMode_x) (k_impl_isByte : Sound Try.prog 179 impl_isByte_x) (k_impl_Path_isNone : Sound Try.prog 180 impl_Path_isNone_x) (k_impl_PaintOk : Sound Try.prog 181 impl_PaintOk_x) : Sound Try.prog 112 impl_NodeOk_x := by
 refine xOf_sound fun q r h => ?_
 revert h; revert r; revert q; intro a0 r h
 refine fn_ok E0 hm Try.func112 rfl (by decide +kernel) (by rfl) fun Γ hn hk => ?_
 dsimp only [impl_NodeOk_e, impl_NodeOk_v]
 replace hn : Γ.n = 90 := hn
 replace hk : Γ.k = 0 := hk
 have H : HS (impl_NodeOk a0) r := h
 clear h; unfold impl_NodeOk at H
 try simp -implicitDefEqProofs at H
 refine Tr.of_vc (cl := tabC [(95, impl_inRange_x), (175, impl_MatOk_x), (176, impl_PathOk_x), (177, impl_DashOk_x), (178, impl_isMode_x), (179, impl_isByte_x), (180, impl_Path_isNone_x), (181, impl_PaintOk_x)]) (E := E0) [] (tab_cons k_impl_inRange (tab_cons k_impl_MatOk (tab_cons k_impl_PathOk (tab_cons k_impl_DashOk (tab_cons k_impl_isMode (tab_cons k_impl_isByte (tab_cons k_impl_Path_isNone (tab_cons k_impl_PaintOk tab_nil)))))))) hm (by rw [hn]; decide +kernel) ?_
 try simp -implicitDefEqProofs (maxSteps := 999999) [-selQ_sel]
 obtain ⟨v1, h_1, H⟩ := HS.bnd H
 try simp -implicitDefEqProofs (maxSteps := 999999) [-selQ_sel, h_1]
 refine Hid.selQ (fun h_2 => ?_) (fun h_2 => ?_)
 ·replace H := HS.cnd_t h_2 H
  try simp -implicitDefEqProofs (maxSteps := 999999) [-selQ_sel, h_1, h_2]
  obtain ⟨v2, h_3, H⟩ := HS.bnd H
  try simp -implicitDefEqProofs (maxSteps := 999999) [-selQ_sel, h_1, h_2, h_3]
  refine Hid.selQ (fun h_4 => ?_) (fun h_4 => ?_)
  ·replace H := HS.cnd_t h_4 H
   try simp -implicitDefEqProofs (maxSteps := 999999) [-selQ_sel, h_1, h_2, h_3, h_4]
   refine Hid.selQ (fun h_5 => ?_) (fun h_5 => ?_)
   ·replace H := HS.cnd_t h_5 H
    try simp -implicitDefEqProofs (maxSteps := 999999) [-selQ_sel, h_1, h_2, h_3, h_4, h_5]
    have hr := (HS.some H).symm; subst hr
    refine Hid.mk ⟨_, Wk.refl _, ?_⟩
    try simp -implicitDefEqProofs (maxSteps := 999999) [-selQ_sel, h_1, h_2, h_3, h_4, h_5]
   ·replace H := HS.cnd_f h_5 H
    try simp -implicitDefEqProofs (maxSteps := 999999) [-selQ_sel, h_1, h_2, h_3, h_4, h_5]
    obtain ⟨v3, h_6, H⟩ := HS.bnd H
    try simp -implicitDefEqProofs (maxSteps := 999999) [-selQ_sel, h_1, h_2, h_3, h_4, h_5, h_6]
    refine Hid.selQ (fun h_7 => ?_) (fun h_7 => ?_)
    ·replace H := HS.cnd_t h_7 H
     try simp -implicitDefEqProofs (maxSteps := 999999) [-selQ_sel, h_1, h_2, h_3, h_4, h_5, h_6, h_7]
     obtain ⟨v4, h_8, H⟩ := HS.bnd H
     try simp -implicitDefEqProofs (maxSteps := 999999) [-selQ_sel, h_1, h_2, h_3, h_4, h_5, h_6, h_7, h_8]
     refine Hid.selQ (fun h_9 => ?_) (fun h_9 => ?_)
     ·replace H := HS.cnd_t h_9 H
      try simp -implicitDefEqProofs (maxSteps := 999999) [-selQ_sel, h_1, h_2, h_3, h_4, h_5, h_6, h_7, h_8, h_9]
      obtain ⟨v5, h_10, H⟩ := HS.bnd H
      try simp -implicitDefEqProofs (maxSteps := 999999) [-selQ_sel, h_1, h_2, h_3, h_4, h_5, h_6, h_7, h_8, h_9, h_10]
      refine Hid.brV (fun h_11 => ?_) (fun h_11 => ?_)
      ·replace H := HS.cnd_t h_11 H
       try simp -implicitDefEqProofs (maxSteps := 999999) [-selQ_sel, h_1, h_2, h_3, h_4, h_5, h_6, h_7, h_8, h_9, h_10, h_11]
       obtain ⟨v6, h_12, H⟩ := HS.bnd H
       try simp -implicitDefEqProofs (maxSteps := 999999) [-selQ_sel, h_1, h_2, h_3, h_4, h_5, h_6, h_7, h_8, h_9, h_10, h_11, h_12]
       refine Hid.selQ (fun h_13 => ?_) (fun h_13 => ?_)
       ·replace H := HS.cnd_t h_13 H
        try simp -implicitDefEqProofs (maxSteps := 999999) [-selQ_sel, h_1, h_2, h_3, h_4, h_5, h_6, h_7, h_8, h_9, h_10, h_11, h_12, h_13]
        obtain ⟨v7, h_14, H⟩ := HS.bnd H
        try simp -implicitDefEqProofs (maxSteps := 999999) [-selQ_sel, h_1, h_2, h_3, h_4, h_5, h_6, h_7, h_8, h_9, h_10, h_11, h_12, h_13, h_14]
        refine Hid.selQ (fun h_15 => ?_) (fun h_15 => ?_)
        ·replace H := HS.cnd_t h_15 H
         try simp -implicitDefEqProofs (maxSteps := 999999) [-selQ_sel, h_1, h_2, h_3, h_4, h_5, h_6, h_7, h_8, h_9, h_10, h_11, h_12, h_13, h_14, h_15]
         obtain ⟨v8, h_16, H⟩ := HS.bnd H
         try simp -implicitDefEqProofs (maxSteps := 999999) [-selQ_sel, h_1, h_2, h_3, h_4, h_5, h_6, h_7, h_8, h_9, h_10, h_11, h_12, h_13, h_14, h_15, h_16]
         refine Hid.selQ (fun h_17 => ?_) (fun h_17 => ?_)
         ·replace H := HS.cnd_t h_17 H
          try simp -implicitDefEqProofs (maxSteps := 999999) [-selQ_sel, h_1, h_2, h_3, h_4, h_5, h_6, h_7, h_8, h_9, h_10, h_11, h_12, h_13, h_14, h_15, h_16, h_17]
          obtain ⟨v9, h_18, H⟩ := HS.bnd H
          try simp -implicitDefEqProofs (maxSteps := 999999) [-selQ_sel, h_1, h_2, h_3, h_4, h_5, h_6, h_7, h_8, h_9, h_10, h_11, h_12, h_13, h_14, h_15, h_16, h_17, h_18]
          refine Hid.brV (fun h_19 => ?_) (fun h_19 => ?_)
          ·replace H := HS.cnd_t h_19 H
           try simp -implicitDefEqProofs (maxSteps := 999999) [-selQ_sel, h_1, h_2, h_3, h_4, h_5, h_6, h_7, h_8, h_9, h_10, h_11, h_12, h_13, h_14, h_15, h_16, h_17, h_18, h_19]
           refine Hid.brV (fun h_20 => ?_) (fun h_20 => ?_)
           ·replace H := HS.cnd_t h_20 H
            try simp -implicitDefEqProofs (maxSteps := 999999) [-selQ_sel, h_1, h_2, h_3, h_4, h_5, h_6, h_7, h_8, h_9, h_10, h_11, h_12, h_13, h_14, h_15, h_16, h_17, h_18, h_19, h_20]
            refine Hid.selQ (fun h_21 => ?_) (fun h_21 => ?_)
            ·replace H := HS.cnd_t h_21 H
             try simp -implicitDefEqProofs (maxSteps := 999999) [-selQ_sel, h_1, h_2, h_3, h_4, h_5, h_6, h_7, h_8, h_9, h_10, h_11, h_12, h_13, h_14, h_15, h_16, h_17, h_18, h_19, h_20, h_21]
             obtain ⟨v10, h_22, H⟩ := HS.bnd H
             try simp -implicitDefEqProofs (maxSteps := 999999) [-selQ_sel, h_1, h_2, h_3, h_4, h_5, h_6, h_7, h_8, h_9, h_10, h_11, h_12, h_13, h_14, h_15, h_16, h_17, h_18, h_19, h_20, h_21, h_22]
             refine Hid.selQ (fun h_23 => ?_) (fun h_23 => ?_)
             ·replace H := HS.cnd_t h_23 H
              try simp -implicitDefEqProofs (maxSteps := 999999) [-selQ_sel, h_1, h_2, h_3, h_4, h_5, h_6, h_7, h_8, h_9, h_10, h_11, h_12, h_13, h_14, h_15, h_16, h_17, h_18, h_19, h_20, h_21, h_22, h_23]
              refine Hid.selQ (fun h_24 => ?_) (fun h_24 => ?_)
              ·replace H := HS.cnd_t h_24 H
               try simp -implicitDefEqProofs (maxSteps := 999999) [-selQ_sel, h_1, h_2, h_3, h_4, h_5, h_6, h_7, h_8, h_9, h_10, h_11, h_12, h_13, h_14, h_15, h_16, h_17, h_18, h_19, h_20, h_21, h_22, h_23, h_24]
               refine Hid.selQ (fun h_25 => ?_) (fun h_25 => ?_)
               ·replace H := HS.cnd_t h_25 H
                try simp -implicitDefEqProofs (maxSteps := 999999) [-selQ_sel, h_1, h_2, h_3, h_4, h_5, h_6, h_7, h_8, h_9, h_10, h_11, h_12, h_13, h_14, h_15, h_16, h_17, h_18, h_19, h_20, h_21, h_22, h_23, h_24, h_25]
                have hr := (HS.some H).symm; subst hr
                refine Hid.mk ⟨_, Wk.refl _, ?_⟩
                try simp -implicitDefEqProofs (maxSteps := 999999) [-selQ_sel, h_1, h_2, h_3, h_4, h_5, h_6, h_7, h_8, h_9, h_10, h_11, h_12, h_13, h_14, h_15, h_16, h_17, h_18, h_19, h_20, h_21, h_22, h_23, h_24, h_25]
               ·replace H := HS.cnd_f h_25 H
                try simp -implicitDefEqProofs (maxSteps := 999999) [-selQ_sel, h_1, h_2, h_3, h_4, h_5, h_6, h_7, h_8, h_9, h_10, h_11, h_12, h_13, h_14, h_15, h_16, h_17, h_18, h_19, h_20, h_21, h_22, h_23, h_24, h_25]
                have hr := (HS.some H).symm; subst hr
                refine Hid.mk ⟨_, Wk.refl _, ?_⟩
                try simp -implicitDefEqProofs (maxSteps := 999999) [-selQ_sel, h_1, h_2, h_3, h_4, h_5, h_6, h_7, h_8, h_9, h_10, h_11, h_12, h_13, h_14, h_15, h_16, h_17, h_18, h_19, h_20, h_21, h_22, h_23, h_24, h_25]
              ·replace H := HS.cnd_f h_24 H
               try simp -implicitDefEqProofs (maxSteps := 999999) [-selQ_sel, h_1, h_2, h_3, h_4, h_5, h_6, h_7, h_8, h_9, h_10, h_11, h_12, h_13, h_14, h_15, h_16, h_17, h_18, h_19, h_20, h_21, h_22, h_23, h_24]
               have hr := (HS.some H).symm; subst hr
               refine Hid.mk ⟨_, Wk.refl _, ?_⟩
               try simp -implicitDefEqProofs (maxSteps := 999999) [-selQ_sel, h_1, h_2, h_3, h_4, h_5, h_6, h_7, h_8, h_9, h_10, h_11, h_12, h_13, h_14, h_15, h_16, h_17, h_18, h_19, h_20, h_21, h_22, h_23, h_24]
             ·replace H := HS.cnd_f h_23 H
              try simp -implicitDefEqProofs (maxSteps := 999999) [-selQ_sel, h_1, h_2, h_3, h_4, h_5, h_6, h_7, h_8, h_9, h_10, h_11, h_12, h_13, h_14, h_15, h_16, h_17, h_18, h_19, h_20, h_21, h_22, h_23]
              have hr := (HS.some H).symm; subst hr
              refine Hid.mk ⟨_, Wk.refl _, ?_⟩
              try simp -implicitDefEqProofs (maxSteps := 999999) [-selQ_sel, h_1, h_2, h_3, h_4, h_5, h_6, h_7, h_8, h_9, h_10, h_11, h_12, h_13, h_14, h_15, h_16, h_17, h_18, h_19, h_20, h_21, h_22, h_23]
            ·replace H := HS.cnd_f h_21 H
             try simp -implicitDefEqProofs (maxSteps := 999999) [-selQ_sel, h_1, h_2, h_3, h_4, h_5, h_6, h_7, h_8, h_9, h_10, h_11, h_12, h_13, h_14, h_15, h_16, h_17, h_18, h_19, h_20, h_21]
             have hr := (HS.some H).symm; subst hr
             refine Hid.mk ⟨_, Wk.refl _, ?_⟩
             try simp -implicitDefEqProofs (maxSteps := 999999) [-selQ_sel, h_1, h_2, h_3, h_4, h_5, h_6, h_7, h_8, h_9, h_10, h_11, h_12, h_13, h_14, h_15, h_16, h_17, h_18, h_19, h_20, h_21]
           ·replace H := HS.cnd_f h_20 H
            try simp -implicitDefEqProofs (maxSteps := 999999) [-selQ_sel, h_1, h_2, h_3, h_4, h_5, h_6, h_7, h_8, h_9, h_10, h_11, h_12, h_13, h_14, h_15, h_16, h_17, h_18, h_19, h_20]
            obtain ⟨v11, h_26, H⟩ := HS.bnd H
            try simp -implicitDefEqProofs (maxSteps := 999999) [-selQ_sel, h_1, h_2, h_3, h_4, h_5, h_6, h_7, h_8, h_9, h_10, h_11, h_12, h_13, h_14, h_15, h_16, h_17, h_18, h_19, h_20, h_26]
            have hr := (HS.some H).symm; subst hr
            refine Hid.mk ⟨_, Wk.refl _, ?_⟩
            try simp -implicitDefEqProofs (maxSteps := 999999) [-selQ_sel, h_1, h_2, h_3, h_4, h_5, h_6, h_7, h_8, h_9, h_10, h_11, h_12, h_13, h_14, h_15, h_16, h_17, h_18, h_19, h_20, h_26]
          ·replace H := HS.cnd_f h_19 H
           try simp -implicitDefEqProofs (maxSteps := 999999) [-selQ_sel, h_1, h_2, h_3, h_4, h_5, h_6, h_7, h_8, h_9, h_10, h_11, h_12, h_13, h_14, h_15, h_16, h_17, h_18, h_19]
           have hr := (HS.some H).symm; subst hr
           refine Hid.mk ⟨_, Wk.refl _, ?_⟩
           try simp -implicitDefEqProofs (maxSteps := 999999) [-selQ_sel, h_1, h_2, h_3, h_4, h_5, h_6, h_7, h_8, h_9, h_10, h_11, h_12, h_13, h_14, h_15, h_16, h_17, h_18, h_19]
         ·replace H := HS.cnd_f h_17 H
          try simp -implicitDefEqProofs (maxSteps := 999999) [-selQ_sel, h_1, h_2, h_3, h_4, h_5, h_6, h_7, h_8, h_9, h_10, h_11, h_12, h_13, h_14, h_15, h_16, h_17]
          have hr := (HS.some H).symm; subst hr
          refine Hid.mk ⟨_, Wk.refl _, ?_⟩
          try simp -implicitDefEqProofs (maxSteps := 999999) [-selQ_sel, h_1, h_2, h_3, h_4, h_5, h_6, h_7, h_8, h_9, h_10, h_11, h_12, h_13, h_14, h_15, h_16, h_17]
        ·replace H := HS.cnd_f h_15 H
         try simp -implicitDefEqProofs (maxSteps := 999999) [-selQ_sel, h_1, h_2, h_3, h_4, h_5, h_6, h_7, h_8, h_9, h_10, h_11, h_12, h_13, h_14, h_15]
         have hr := (HS.some H).symm; subst hr
         refine Hid.mk ⟨_, Wk.refl _, ?_⟩
         try simp -implicitDefEqProofs (maxSteps := 999999) [-selQ_sel, h_1, h_2, h_3, h_4, h_5, h_6, h_7, h_8, h_9, h_10, h_11, h_12, h_13, h_14, h_15]
       ·replace H := HS.cnd_f h_13 H
        try simp -implicitDefEqProofs (maxSteps := 999999) [-selQ_sel, h_1, h_2, h_3, h_4, h_5, h_6, h_7, h_8, h_9, h_10, h_11, h_12, h_13]
        have hr := (HS.some H).symm; subst hr
        refine Hid.mk ⟨_, Wk.refl _, ?_⟩
        try simp -implicitDefEqProofs (maxSteps := 999999) [-selQ_sel, h_1, h_2, h_3, h_4, h_5, h_6, h_7, h_8, h_9, h_10, h_11, h_12, h_13]
      ·replace H := HS.cnd_f h_11 H
       try simp -implicitDefEqProofs (maxSteps := 999999) [-selQ_sel, h_1, h_2, h_3, h_4, h_5, h_6, h_7, h_8, h_9, h_10, h_11]
       have hr := (HS.some H).symm; subst hr
       refine Hid.mk ⟨_, Wk.refl _, ?_⟩
       try simp -implicitDefEqProofs (maxSteps := 999999) [-selQ_sel, h_1, h_2, h_3, h_4, h_5, h_6, h_7, h_8, h_9, h_10, h_11]
     ·replace H := HS.cnd_f h_9 H
      try simp -implicitDefEqProofs (maxSteps := 999999) [-selQ_sel, h_1, h_2, h_3, h_4, h_5, h_6, h_7, h_8, h_9]
      have hr := (HS.some H).symm; subst hr
      refine Hid.mk ⟨_, Wk.refl _, ?_⟩
      try simp -implicitDefEqProofs (maxSteps := 999999) [-selQ_sel, h_1, h_2, h_3, h_4, h_5, h_6, h_7, h_8, h_9]
    ·replace H := HS.cnd_f h_7 H
     try simp -implicitDefEqProofs (maxSteps := 999999) [-selQ_sel, h_1, h_2, h_3, h_4, h_5, h_6, h_7]
     have hr := (HS.some H).symm; subst hr
     refine Hid.mk ⟨_, Wk.refl _, ?_⟩
     try simp -implicitDefEqProofs (maxSteps := 999999) [-selQ_sel, h_1, h_2, h_3, h_4, h_5, h_6, h_7]
  ·replace H := HS.cnd_f h_4 H
   try simp -implicitDefEqProofs (maxSteps := 999999) [-selQ_sel, h_1, h_2, h_3, h_4]
   have hr := (HS.some H).symm; subst hr
   refine Hid.mk ⟨_, Wk.refl _, ?_⟩
   try simp -implicitDefEqProofs (maxSteps := 999999) [-selQ_sel, h_1, h_2, h_3, h_4]
 ·replace H := HS.cnd_f h_2 H
  try simp -implicitDefEqProofs (maxSteps := 999999) [-selQ_sel, h_1, h_2]
  have hr := (HS.some H).symm; subst hr
  refine Hid.mk ⟨_, Wk.refl _, ?_⟩
  try simp -implicitDefEqProofs (maxSteps := 999999) [-selQ_sel, h_1, h_2]
theorem spec_PathOk_ok0 (hm : Try.prog.follows .mixedOrders = true) (k_spec_NeedOf : Sound Try.prog 212 spec_NeedOf_x) (k_spec_PointOk : Sound Try.prog 222 spec_PointOk_x) : Sound Try.prog 184 spec_PathOk_x := by
 refine xOf_sound fun q r h => ?_
 revert h; revert r; revert q; intro a0 r h
 refine fn_ok E0 hm Try.func184 rfl (by decide +kernel) (by rfl) fun Γ hn hk => ?_
 dsimp only [spec_PathOk_e, spec_PathOk_v]
 replace hn : Γ.n = 75 := hn
 replace hk : Γ.k = 0 := hk
 have H : HS (spec_PathOk a0) r := h
 clear h; unfold spec_PathOk at H
 try simp -implicitDefEqProofs at H
 refine Tr.of_vc (cl := tabC [(212, spec_NeedOf_x), (222, spec_PointOk_x)]) (E := E0) [] (tab_cons k_spec_NeedOf (tab_cons k_spec_PointOk tab_nil)) hm (by rw [hn]; decide +kernel) ?_
 try simp -implicitDefEqProofs (maxSteps := 999999) [-selQ_sel]
 refine Hid.selQ (fun h_1 => ?_) (fun h_1 => ?_)
 ·replace H := HS.cnd_t h_1 H
  try simp -implicitDefEqProofs (maxSteps := 999999) [-selQ_sel, h_1]
  refine Hid.brV (fun h_2 => ?_) (fun h_2 => ?_)
  ·replace H := HS.cnd_t h_2 H
   try simp -implicitDefEqProofs (maxSteps := 999999) [-selQ_sel, h_1, h_2]
   obtain ⟨q, h_3, H⟩ := HS.bnd H
   refine Hid.mk (Tr.weak (s' := (spec_PathOk_l0_S a0) (0, 0)) (Wk.ofk [0] hk (by rfl) (by simp -implicitDefEqProofs [spec_PathOk_l0_S, h_1, h_2]) (by simp -implicitDefEqProofs [spec_PathOk_l0_S, h_1, h_2])) ?_)
   refine wp_loop_of (S := (spec_PathOk_l0_S a0)) (f := (spec_PathOk_l0 a0)) (xt := (spec_PathOk_l0_X a0)) ?_ ?_ h_3 ?_
   ·intro q; rcases q with y8 | ⟨⟩ <;> simp [spec_PathOk_l0_X]
   ·clear H h_3 q
    rintro ⟨x3, x4⟩ o R hf hR
    have H : HS (spec_PathOk_l0 a0 (x3, x4)) o := hf
    clear hf; unfold spec_PathOk_l0 at H
    try simp -implicitDefEqProofs at H
    refine Tr.of_vc (cl := tabC [(212, spec_NeedOf_x), (222, spec_PointOk_x)]) (E := E0) [] (tab_cons k_spec_NeedOf (tab_cons k_spec_PointOk tab_nil)) hm (by rw [hn]; decide +kernel) ?_
    try simp -implicitDefEqProofs (maxSteps := 999999) [-selQ_sel, spec_PathOk_l0_S]
    refine Hid.brV (fun h_4 => ?_) (fun h_4 => ?_)
    ·replace H := HS.cnd_t h_4 H
     try simp -implicitDefEqProofs (maxSteps := 999999) [-selQ_sel, h_4]
     have hr := (HS.some H).symm; subst hr
     exact Hid.mk ⟨(spec_PathOk_l0_X a0 (.inl x3)).2, Wk.ofk [0] hk (by rfl) (by simp -implicitDefEqProofs [spec_PathOk_l0_X, h_4]) (by simp -implicitDefEqProofs [spec_PathOk_l0_X, h_4]), hR⟩
    ·replace H := HS.cnd_f h_4 H
     try simp -implicitDefEqProofs (maxSteps := 999999) [-selQ_sel, h_4]
     obtain ⟨v5, h_5, H⟩ := HS.bnd H
     try simp -implicitDefEqProofs (maxSteps := 999999) [-selQ_sel, h_4, h_5]
     obtain ⟨v6, h_6, H⟩ := HS.bnd H
     try simp -implicitDefEqProofs (maxSteps := 999999) [-selQ_sel, h_4, h_5, h_6]
     refine Hid.selQ (fun h_7 => ?_) (fun h_7 => ?_)
     ·replace H := HS.cnd_t h_7 H
      try simp -implicitDefEqProofs (maxSteps := 999999) [-selQ_sel, h_4, h_5, h_6, h_7]
      refine Hid.selQ (fun h_8 => ?_) (fun h_8 => ?_)
      ·replace H := HS.cnd_t h_8 H
       try simp -implicitDefEqProofs (maxSteps := 999999) [-selQ_sel, h_4, h_5, h_6, h_7, h_8]
       refine Hid.brV (fun h_9 => ?_) (fun h_9 => ?_)
       ·replace H := HS.cnd_t h_9 H
        try simp -implicitDefEqProofs (maxSteps := 999999) [-selQ_sel, h_4, h_5, h_6, h_7, h_8, h_9]
        have hr := (HS.some H).symm; subst hr
        exact Hid.mk ⟨spec_PathOk_l0_S a0 ((IntKind.i64.wrap (x3 + v6)), (IntKind.i64.wrap (x4 + 1))), Wk.ofk [0] hk (by rfl) (by simp -implicitDefEqProofs [spec_PathOk_l0_S, h_4, h_5, h_6, h_7, h_8, h_9]) (by simp -implicitDefEqProofs [spec_PathOk_l0_S, h_4, h_5, h_6, h_7, h_8, h_9]), hR⟩
       ·replace H := HS.cnd_f h_9 H
        try simp -implicitDefEqProofs (maxSteps := 999999) [-selQ_sel, h_4, h_5, h_6, h_7, h_8, h_9]
        have hr := (HS.some H).symm; subst hr
        exact Hid.mk ⟨(spec_PathOk_l0_X a0 (.inr ())).2, Wk.ofk [] hk (by rfl) (by simp -implicitDefEqProofs [spec_PathOk_l0_X, h_4, h_5, h_6, h_7, h_8, h_9]) (by simp -implicitDefEqProofs [spec_PathOk_l0_X, h_4, h_5, h_6, h_7, h_8, h_9]), hR⟩
      ·replace H := HS.cnd_f h_8 H
       try simp -implicitDefEqProofs (maxSteps := 999999) [-selQ_sel, h_4, h_5, h_6, h_7, h_8]
       obtain ⟨v7, h_10, H⟩ := HS.bnd H
       try simp -implicitDefEqProofs (maxSteps := 999999) [-selQ_sel, h_4, h_5, h_6, h_7, h_8, h_10]
       refine Hid.selQ (fun h_11 => ?_) (fun h_11 => ?_)
       ·replace H := HS.cnd_t h_11 H
        try simp -implicitDefEqProofs (maxSteps := 999999) [-selQ_sel, h_4, h_5, h_6, h_7, h_8, h_10, h_11]
        refine Hid.brV (fun h_12 => ?_) (fun h_12 => ?_)
        ·replace H := HS.cnd_t h_12 H
         try simp -implicitDefEqProofs (maxSteps := 999999) [-selQ_sel, h_4, h_5, h_6, h_7, h_8, h_10, h_11, h_12]
         have hr := (HS.some H).symm; subst hr
         exact Hid.mk ⟨spec_PathOk_l0_S a0 ((IntKind.i64.wrap (x3 + v6)), (IntKind.i64.wrap (x4 + 1))), Wk.ofk [0] hk (by rfl) (by simp -implicitDefEqProofs [spec_PathOk_l0_S, h_4, h_5, h_6, h_7, h_8, h_10, h_11, h_12]) (by simp -implicitDefEqProofs [spec_PathOk_l0_S, h_4, h_5, h_6, h_7, h_8, h_10, h_11, h_12]), hR⟩
        ·replace H := HS.cnd_f h_12 H
         try simp -implicitDefEqProofs (maxSteps := 999999) [-selQ_sel, h_4, h_5, h_6, h_7, h_8, h_10, h_11, h_12]
         have hr := (HS.some H).symm; subst hr
         exact Hid.mk ⟨(spec_PathOk_l0_X a0 (.inr ())).2, Wk.ofk [] hk (by rfl) (by simp -implicitDefEqProofs [spec_PathOk_l0_X, h_4, h_5, h_6, h_7, h_8, h_10, h_11, h_12]) (by simp -implicitDefEqProofs [spec_PathOk_l0_X, h_4, h_5, h_6, h_7, h_8, h_10, h_11, h_12]), hR⟩
       ·replace H := HS.cnd_f h_11 H
        try simp -implicitDefEqProofs (maxSteps := 999999) [-selQ_sel, h_4, h_5, h_6, h_7, h_8, h_10, h_11]
        have hr := (HS.some H).symm; subst hr
        exact Hid.mk ⟨spec_PathOk_l0_S a0 ((IntKind.i64.wrap (x3 + v6)), (IntKind.i64.wrap (x4 + 1))), Wk.ofk [0] hk (by rfl) (by simp -implicitDefEqProofs [spec_PathOk_l0_S, h_4, h_5, h_6, h_7, h_8, h_10, h_11]) (by simp -implicitDefEqProofs [spec_PathOk_l0_S, h_4, h_5, h_6, h_7, h_8, h_10, h_11]), hR⟩
     ·replace H := HS.cnd_f h_7 H
      try simp -implicitDefEqProofs (maxSteps := 999999) [-selQ_sel, h_4, h_5, h_6, h_7]
      have hr := (HS.some H).symm; subst hr
      exact Hid.mk ⟨(spec_PathOk_l0_X a0 (.inr ())).2, Wk.ofk [] hk (by rfl) (by simp -implicitDefEqProofs [spec_PathOk_l0_X, h_4, h_5, h_6, h_7]) (by simp -implicitDefEqProofs [spec_PathOk_l0_X, h_4, h_5, h_6, h_7]), hR⟩
   ·rcases q with y8 | ⟨⟩
    ·dsimp only at H
     try simp -implicitDefEqProofs (maxSteps := 999999) [-selQ_sel, h_1, h_2, spec_PathOk_l0_X]
     obtain ⟨q, h_13, H⟩ := HS.bnd H
     refine Hid.mk (Tr.weak (s' := (spec_PathOk_l1_S a0 y8) 0) (Wk.ofk [0] hk (by rfl) (by simp -implicitDefEqProofs [spec_PathOk_l1_S, h_1, h_2]) (by simp -implicitDefEqProofs [spec_PathOk_l1_S, h_1, h_2])) ?_)
     refine wp_loop_of (S := (spec_PathOk_l1_S a0 y8)) (f := (spec_PathOk_l1 a0 y8)) (xt := (spec_PathOk_l1_X a0 y8)) ?_ ?_ h_13 ?_
     ·intro q; rcases q with ⟨⟩ | ⟨⟩ <;> simp [spec_PathOk_l1_X]
     ·clear H h_13 q
      rintro x11 o R hf hR
      have H : HS (spec_PathOk_l1 a0 y8 x11) o := hf
      clear hf; unfold spec_PathOk_l1 at H
      try simp -implicitDefEqProofs at H
      refine Tr.of_vc (cl := tabC [(212, spec_NeedOf_x), (222, spec_PointOk_x)]) (E := E0) [] (tab_cons k_spec_NeedOf (tab_cons k_spec_PointOk tab_nil)) hm (by rw [hn]; decide +kernel) ?_
      try simp -implicitDefEqProofs (maxSteps := 999999) [-selQ_sel, spec_PathOk_l1_S]
      refine Hid.brV (fun h_14 => ?_) (fun h_14 => ?_)
      ·replace H := HS.cnd_t h_14 H
       try simp -implicitDefEqProofs (maxSteps := 999999) [-selQ_sel, h_14]
       have hr := (HS.some H).symm; subst hr
       exact Hid.mk ⟨(spec_PathOk_l1_X a0 y8 (.inl ())).2, Wk.ofk [0] hk (by rfl) (by simp -implicitDefEqProofs [spec_PathOk_l1_X, h_14]) (by simp -implicitDefEqProofs [spec_PathOk_l1_X, h_14]), hR⟩
      ·replace H := HS.cnd_f h_14 H
       try simp -implicitDefEqProofs (maxSteps := 999999) [-selQ_sel, h_14]
       obtain ⟨v12, h_15, H⟩ := HS.bnd H
       try simp -implicitDefEqProofs (maxSteps := 999999) [-selQ_sel, h_14, h_15]
       obtain ⟨v13, h_16, H⟩ := HS.bnd H
       try simp -implicitDefEqProofs (maxSteps := 999999) [-selQ_sel, h_14, h_15, h_16]
       refine Hid.brV (fun h_17 => ?_) (fun h_17 => ?_)
       ·replace H := HS.cnd_t h_17 H
        try simp -implicitDefEqProofs (maxSteps := 999999) [-selQ_sel, h_14, h_15, h_16, h_17]
        have hr := (HS.some H).symm; subst hr
        exact Hid.mk ⟨spec_PathOk_l1_S a0 y8 (IntKind.i64.wrap (x11 + 1)), Wk.ofk [0] hk (by rfl) (by simp -implicitDefEqProofs [spec_PathOk_l1_S, h_14, h_15, h_16, h_17]) (by simp -implicitDefEqProofs [spec_PathOk_l1_S, h_14, h_15, h_16, h_17]), hR⟩
       ·replace H := HS.cnd_f h_17 H
        try simp -implicitDefEqProofs (maxSteps := 999999) [-selQ_sel, h_14, h_15, h_16, h_17]
        have hr := (HS.some H).symm; subst hr
        exact Hid.mk ⟨(spec_PathOk_l1_X a0 y8 (.inr ())).2, Wk.ofk [] hk (by rfl) (by simp -implicitDefEqProofs [spec_PathOk_l1_X, h_14, h_15, h_16, h_17]) (by simp -implicitDefEqProofs [spec_PathOk_l1_X, h_14, h_15, h_16, h_17]), hR⟩
     ·rcases q with ⟨⟩ | ⟨⟩
      ·dsimp only at H
       try simp -implicitDefEqProofs (maxSteps := 999999) [-selQ_sel, h_1, h_2, spec_PathOk_l1_X]
       have hr := (HS.some H).symm; subst hr
       refine Hid.mk ⟨_, Wk.refl _, ?_⟩
       try simp -implicitDefEqProofs (maxSteps := 999999) [-selQ_sel, h_1, h_2]
      ·dsimp only at H
       try simp -implicitDefEqProofs (maxSteps := 999999) [-selQ_sel, h_1, h_2, spec_PathOk_l1_X]
       have hr := (HS.some H).symm; subst hr
       refine Hid.mk ⟨_, Wk.refl _, ?_⟩
       try simp -implicitDefEqProofs (maxSteps := 999999) [-selQ_sel, h_1, h_2]
    ·dsimp only at H
     try simp -implicitDefEqProofs (maxSteps := 999999) [-selQ_sel, h_1, h_2, spec_PathOk_l0_X]
     have hr := (HS.some H).symm; subst hr
     refine Hid.mk ⟨_, Wk.refl _, ?_⟩
     try simp -implicitDefEqProofs (maxSteps := 999999) [-selQ_sel, h_1, h_2]
  ·replace H := HS.cnd_f h_2 H
   try simp -implicitDefEqProofs (maxSteps := 999999) [-selQ_sel, h_1, h_2]
   have hr := (HS.some H).symm; subst hr
   refine Hid.mk ⟨_, Wk.refl _, ?_⟩
   try simp -implicitDefEqProofs (maxSteps := 999999) [-selQ_sel, h_1, h_2]
 ·replace H := HS.cnd_f h_1 H
  try simp -implicitDefEqProofs (maxSteps := 999999) [-selQ_sel, h_1]
  have hr := (HS.some H).symm; subst hr
  refine Hid.mk ⟨_, Wk.refl _, ?_⟩
  try simp -implicitDefEqProofs (maxSteps := 999999) [-selQ_sel, h_1]
theorem impl_PathOk_ok0 (hm : Try.prog.follows .mixedOrders = true) (k_impl_pointsOk : Sound Try.prog 218 impl_pointsOk_x) (k_impl_NeedOf : Sound Try.prog 219 impl_NeedOf_x) : Sound Try.prog 176 impl_PathOk_x := by
 refine xOf_sound fun q r h => ?_
 revert h; revert r; revert q; intro a0 r h
 refine fn_ok E0 hm Try.func176 rfl (by decide +kernel) (by rfl) fun Γ hn hk => ?_
 dsimp only [impl_PathOk_e, impl_PathOk_v]
 replace hn : Γ.n = 63 := hn
 replace hk : Γ.k = 0 := hk
 have H : HS (impl_PathOk a0) r := h
 clear h; unfold impl_PathOk at H
 try simp -implicitDefEqProofs at H
 refine Tr.of_vc (cl := tabC [(218, impl_pointsOk_x), (219, impl_NeedOf_x)]) (E := E0) [] (tab_cons k_impl_pointsOk (tab_cons k_impl_NeedOf tab_nil)) hm (by rw [hn]; decide +kernel) ?_
 try simp -implicitDefEqProofs (maxSteps := 999999) [-selQ_sel]
 refine Hid.selQ (fun h_1 => ?_) (fun h_1 => ?_)
 ·replace H := HS.cnd_t h_1 H
  try simp -implicitDefEqProofs (maxSteps := 999999) [-selQ_sel, h_1]
  refine Hid.selQ (fun h_2 => ?_) (fun h_2 => ?_)
  ·replace H := HS.cnd_t h_2 H
   try simp -implicitDefEqProofs (maxSteps := 999999) [-selQ_sel, h_1, h_2]
   obtain ⟨v1, h_3, H⟩ := HS.bnd H
   try simp -implicitDefEqProofs (maxSteps := 999999) [-selQ_sel, h_1, h_2, h_3]
   refine Hid.brV (fun h_4 => ?_) (fun h_4 => ?_)
   ·replace H := HS.cnd_t h_4 H
    try simp -implicitDefEqProofs (maxSteps := 999999) [-selQ_sel, h_1, h_2, h_3, h_4]
    obtain ⟨q, h_5, H⟩ := HS.bnd H
    refine Hid.mk (Tr.weak (s' := (impl_PathOk_l0_S a0) (0, 0)) (Wk.ofk [0] hk (by rfl) (by simp -implicitDefEqProofs [impl_PathOk_l0_S, h_1, h_2, h_3, h_4]) (by simp -implicitDefEqProofs [impl_PathOk_l0_S, h_1, h_2, h_3, h_4])) ?_)
    refine wp_loop_of (S := (impl_PathOk_l0_S a0)) (f := (impl_PathOk_l0 a0)) (xt := (impl_PathOk_l0_X a0)) ?_ ?_ h_5 ?_
    ·intro q; rcases q with y9 | ⟨⟩ <;> simp [impl_PathOk_l0_X]
    ·clear H h_5 q
     rintro ⟨x4, x5⟩ o R hf hR
     have H : HS (impl_PathOk_l0 a0 (x4, x5)) o := hf
     clear hf; unfold impl_PathOk_l0 at H
     try simp -implicitDefEqProofs at H
     refine Tr.of_vc (cl := tabC [(218, impl_pointsOk_x), (219, impl_NeedOf_x)]) (E := E0) [] (tab_cons k_impl_pointsOk (tab_cons k_impl_NeedOf tab_nil)) hm (by rw [hn]; decide +kernel) ?_
     try simp -implicitDefEqProofs (maxSteps := 999999) [-selQ_sel, impl_PathOk_l0_S]
     refine Hid.brV (fun h_6 => ?_) (fun h_6 => ?_)
     ·replace H := HS.cnd_t h_6 H
      try simp -implicitDefEqProofs (maxSteps := 999999) [-selQ_sel, h_6]
      have hr := (HS.some H).symm; subst hr
      exact Hid.mk ⟨(impl_PathOk_l0_X a0 (.inl x4)).2, Wk.ofk [0] hk (by rfl) (by simp -implicitDefEqProofs [impl_PathOk_l0_X, h_6]) (by simp -implicitDefEqProofs [impl_PathOk_l0_X, h_6]), hR⟩
     ·replace H := HS.cnd_f h_6 H
      try simp -implicitDefEqProofs (maxSteps := 999999) [-selQ_sel, h_6]
      obtain ⟨v6, h_7, H⟩ := HS.bnd H
      try simp -implicitDefEqProofs (maxSteps := 999999) [-selQ_sel, h_6, h_7]
      obtain ⟨v7, h_8, H⟩ := HS.bnd H
      try simp -implicitDefEqProofs (maxSteps := 999999) [-selQ_sel, h_6, h_7, h_8]
      refine Hid.selQ (fun h_9 => ?_) (fun h_9 => ?_)
      ·replace H := HS.cnd_t h_9 H
       try simp -implicitDefEqProofs (maxSteps := 999999) [-selQ_sel, h_6, h_7, h_8, h_9]
       refine Hid.selQ (fun h_10 => ?_) (fun h_10 => ?_)
       ·replace H := HS.cnd_t h_10 H
        try simp -implicitDefEqProofs (maxSteps := 999999) [-selQ_sel, h_6, h_7, h_8, h_9, h_10]
        refine Hid.brV (fun h_11 => ?_) (fun h_11 => ?_)
        ·replace H := HS.cnd_t h_11 H
         try simp -implicitDefEqProofs (maxSteps := 999999) [-selQ_sel, h_6, h_7, h_8, h_9, h_10, h_11]
         have hr := (HS.some H).symm; subst hr
         exact Hid.mk ⟨impl_PathOk_l0_S a0 ((IntKind.i64.wrap (x4 + v7)), (IntKind.i64.wrap (x5 + 1))), Wk.ofk [0] hk (by rfl) (by simp -implicitDefEqProofs [impl_PathOk_l0_S, h_6, h_7, h_8, h_9, h_10, h_11]) (by simp -implicitDefEqProofs [impl_PathOk_l0_S, h_6, h_7, h_8, h_9, h_10, h_11]), hR⟩
        ·replace H := HS.cnd_f h_11 H
         try simp -implicitDefEqProofs (maxSteps := 999999) [-selQ_sel, h_6, h_7, h_8, h_9, h_10, h_11]
         have hr := (HS.some H).symm; subst hr
         exact Hid.mk ⟨(impl_PathOk_l0_X a0 (.inr ())).2, Wk.ofk [] hk (by rfl) (by simp -implicitDefEqProofs [impl_PathOk_l0_X, h_6, h_7, h_8, h_9, h_10, h_11]) (by simp -implicitDefEqProofs [impl_PathOk_l0_X, h_6, h_7, h_8, h_9, h_10, h_11]), hR⟩
       ·replace H := HS.cnd_f h_10 H
        try simp -implicitDefEqProofs (maxSteps := 999999) [-selQ_sel, h_6, h_7, h_8, h_9, h_10]
        have hr := (HS.some H).symm; subst hr
        exact Hid.mk ⟨(impl_PathOk_l0_X a0 (.inr ())).2, Wk.ofk [] hk (by rfl) (by simp -implicitDefEqProofs [impl_PathOk_l0_X, h_6, h_7, h_8, h_9, h_10]) (by simp -implicitDefEqProofs [impl_PathOk_l0_X, h_6, h_7, h_8, h_9, h_10]), hR⟩
      ·replace H := HS.cnd_f h_9 H
       try simp -implicitDefEqProofs (maxSteps := 999999) [-selQ_sel, h_6, h_7, h_8, h_9]
       obtain ⟨v8, h_12, H⟩ := HS.bnd H
       try simp -implicitDefEqProofs (maxSteps := 999999) [-selQ_sel, h_6, h_7, h_8, h_9, h_12]
       refine Hid.selQ (fun h_13 => ?_) (fun h_13 => ?_)
       ·replace H := HS.cnd_t h_13 H
        try simp -implicitDefEqProofs (maxSteps := 999999) [-selQ_sel, h_6, h_7, h_8, h_9, h_12, h_13]
        refine Hid.selQ (fun h_14 => ?_) (fun h_14 => ?_)
        ·replace H := HS.cnd_t h_14 H
         try simp -implicitDefEqProofs (maxSteps := 999999) [-selQ_sel, h_6, h_7, h_8, h_9, h_12, h_13, h_14]
         refine Hid.brV (fun h_15 => ?_) (fun h_15 => ?_)
         ·replace H := HS.cnd_t h_15 H
          try simp -implicitDefEqProofs (maxSteps := 999999) [-selQ_sel, h_6, h_7, h_8, h_9, h_12, h_13, h_14, h_15]
          have hr := (HS.some H).symm; subst hr
          exact Hid.mk ⟨impl_PathOk_l0_S a0 ((IntKind.i64.wrap (x4 + v7)), (IntKind.i64.wrap (x5 + 1))), Wk.ofk [0] hk (by rfl) (by simp -implicitDefEqProofs [impl_PathOk_l0_S, h_6, h_7, h_8, h_9, h_12, h_13, h_14, h_15]) (by simp -implicitDefEqProofs [impl_PathOk_l0_S, h_6, h_7, h_8, h_9, h_12, h_13, h_14, h_15]), hR⟩
         ·replace H := HS.cnd_f h_15 H
          try simp -implicitDefEqProofs (maxSteps := 999999) [-selQ_sel, h_6, h_7, h_8, h_9, h_12, h_13, h_14, h_15]
          have hr := (HS.some H).symm; subst hr
          exact Hid.mk ⟨(impl_PathOk_l0_X a0 (.inr ())).2, Wk.ofk [] hk (by rfl) (by simp -implicitDefEqProofs [impl_PathOk_l0_X, h_6, h_7, h_8, h_9, h_12, h_13, h_14, h_15]) (by simp -implicitDefEqProofs [impl_PathOk_l0_X, h_6, h_7, h_8, h_9, h_12, h_13, h_14, h_15]), hR⟩
        ·replace H := HS.cnd_f h_14 H
         try simp -implicitDefEqProofs (maxSteps := 999999) [-selQ_sel, h_6, h_7, h_8, h_9, h_12, h_13, h_14]
         have hr := (HS.some H).symm; subst hr
         exact Hid.mk ⟨impl_PathOk_l0_S a0 ((IntKind.i64.wrap (x4 + v7)), (IntKind.i64.wrap (x5 + 1))), Wk.ofk [0] hk (by rfl) (by simp -implicitDefEqProofs [impl_PathOk_l0_S, h_6, h_7, h_8, h_9, h_12, h_13, h_14]) (by simp -implicitDefEqProofs [impl_PathOk_l0_S, h_6, h_7, h_8, h_9, h_12, h_13, h_14]), hR⟩
       ·replace H := HS.cnd_f h_13 H
        try simp -implicitDefEqProofs (maxSteps := 999999) [-selQ_sel, h_6, h_7, h_8, h_9, h_12, h_13]
        have hr := (HS.some H).symm; subst hr
        exact Hid.mk ⟨(impl_PathOk_l0_X a0 (.inr ())).2, Wk.ofk [] hk (by rfl) (by simp -implicitDefEqProofs [impl_PathOk_l0_X, h_6, h_7, h_8, h_9, h_12, h_13]) (by simp -implicitDefEqProofs [impl_PathOk_l0_X, h_6, h_7, h_8, h_9, h_12, h_13]), hR⟩
    ·rcases q with y9 | ⟨⟩
     ·dsimp only at H
      try simp -implicitDefEqProofs (maxSteps := 999999) [-selQ_sel, h_1, h_2, h_3, h_4, impl_PathOk_l0_X]
      have hr := (HS.some H).symm; subst hr
      refine Hid.mk ⟨_, Wk.refl _, ?_⟩
      try simp -implicitDefEqProofs (maxSteps := 999999) [-selQ_sel, h_1, h_2, h_3, h_4]
     ·dsimp only at H
      try simp -implicitDefEqProofs (maxSteps := 999999) [-selQ_sel, h_1, h_2, h_3, h_4, impl_PathOk_l0_X]
      have hr := (HS.some H).symm; subst hr
      refine Hid.mk ⟨_, Wk.refl _, ?_⟩
      try simp -implicitDefEqProofs (maxSteps := 999999) [-selQ_sel, h_1, h_2, h_3, h_4]
   ·replace H := HS.cnd_f h_4 H
    try simp -implicitDefEqProofs (maxSteps := 999999) [-selQ_sel, h_1, h_2, h_3, h_4]
    have hr := (HS.some H).symm; subst hr
    refine Hid.mk ⟨_, Wk.refl _, ?_⟩
    try simp -implicitDefEqProofs (maxSteps := 999999) [-selQ_sel, h_1, h_2, h_3, h_4]
  ·replace H := HS.cnd_f h_2 H
   try simp -implicitDefEqProofs (maxSteps := 999999) [-selQ_sel, h_1, h_2]
   have hr := (HS.some H).symm; subst hr
   refine Hid.mk ⟨_, Wk.refl _, ?_⟩
   try simp -implicitDefEqProofs (maxSteps := 999999) [-selQ_sel, h_1, h_2]
 ·replace H := HS.cnd_f h_1 H
  try simp -implicitDefEqProofs (maxSteps := 999999) [-selQ_sel, h_1]
  have hr := (HS.some H).symm; subst hr
  refine Hid.mk ⟨_, Wk.refl _, ?_⟩
  try simp -implicitDefEqProofs (maxSteps := 999999) [-selQ_sel, h_1]
theorem laws_sameNode_ok0 (hm : Try.prog.follows .mixedOrders = true) (k_laws_samePath : Sound Try.prog 125 laws_samePath_x) (k_laws_sameInts : Sound Try.prog 108 laws_sameInts_x) : Sound Try.prog 51 laws_sameNode_x := by
 refine xOf_sound fun q r h => ?_
 obtain ⟨a0, a1⟩ := q
 refine fn_ok E0 hm Try.func51 rfl (by decide +kernel) (by rfl) fun Γ hn hk => ?_
 dsimp only [laws_sameNode_e, laws_sameNode_v]
 replace hn : Γ.n = 87 := hn
 replace hk : Γ.k = 0 := hk
 have H : HS (laws_sameNode a0 a1) r := h
 clear h; unfold laws_sameNode at H
 try simp -implicitDefEqProofs at H
 refine Tr.of_vc (cl := tabC [(125, laws_samePath_x), (108, laws_sameInts_x)]) (E := E0) [] (tab_cons k_laws_samePath (tab_cons k_laws_sameInts tab_nil)) hm (by rw [hn]; decide +kernel) ?_
 try simp -implicitDefEqProofs (maxSteps := 999999) [-selQ_sel]
 refine Hid.selQ (fun h_1 => ?_) (fun h_1 => ?_)
 ·replace H := HS.cnd_t h_1 H
  try simp -implicitDefEqProofs (maxSteps := 999999) [-selQ_sel, h_1]
  refine Hid.selQ (fun h_2 => ?_) (fun h_2 => ?_)
  ·replace H := HS.cnd_t h_2 H
   try simp -implicitDefEqProofs (maxSteps := 999999) [-selQ_sel, h_1, h_2]
   refine Hid.selQ (fun h_3 => ?_) (fun h_3 => ?_)
   ·replace H := HS.cnd_t h_3 H
    try simp -implicitDefEqProofs (maxSteps := 999999) [-selQ_sel, h_1, h_2, h_3]
    refine Hid.selQ (fun h_4 => ?_) (fun h_4 => ?_)
    ·replace H := HS.cnd_t h_4 H
     try simp -implicitDefEqProofs (maxSteps := 999999) [-selQ_sel, h_1, h_2, h_3, h_4]
     obtain ⟨v1, h_5, H⟩ := HS.bnd H
     try simp -implicitDefEqProofs (maxSteps := 999999) [-selQ_sel, h_1, h_2, h_3, h_4, h_5]
     refine Hid.selQ (fun h_6 => ?_) (fun h_6 => ?_)
     ·replace H := HS.cnd_t h_6 H
      try simp -implicitDefEqProofs (maxSteps := 999999) [-selQ_sel, h_1, h_2, h_3, h_4, h_5, h_6]
      refine Hid.selQ (fun h_7 => ?_) (fun h_7 => ?_)
      ·replace H := HS.cnd_t h_7 H
       try simp -implicitDefEqProofs (maxSteps := 999999) [-selQ_sel, h_1, h_2, h_3, h_4, h_5, h_6, h_7]
       refine Hid.selQ (fun h_8 => ?_) (fun h_8 => ?_)
       ·replace H := HS.cnd_t h_8 H
        try simp -implicitDefEqProofs (maxSteps := 999999) [-selQ_sel, h_1, h_2, h_3, h_4, h_5, h_6, h_7, h_8]
        obtain ⟨v2, h_9, H⟩ := HS.bnd H
        try simp -implicitDefEqProofs (maxSteps := 999999) [-selQ_sel, h_1, h_2, h_3, h_4, h_5, h_6, h_7, h_8, h_9]
        refine Hid.selQ (fun h_10 => ?_) (fun h_10 => ?_)
        ·replace H := HS.cnd_t h_10 H
         try simp -implicitDefEqProofs (maxSteps := 999999) [-selQ_sel, h_1, h_2, h_3, h_4, h_5, h_6, h_7, h_8, h_9, h_10]
         refine Hid.selQ (fun h_11 => ?_) (fun h_11 => ?_)
         ·replace H := HS.cnd_t h_11 H
          try simp -implicitDefEqProofs (maxSteps := 999999) [-selQ_sel, h_1, h_2, h_3, h_4, h_5, h_6, h_7, h_8, h_9, h_10, h_11]
          refine Hid.selQ (fun h_12 => ?_) (fun h_12 => ?_)
          ·replace H := HS.cnd_t h_12 H
           try simp -implicitDefEqProofs (maxSteps := 999999) [-selQ_sel, h_1, h_2, h_3, h_4, h_5, h_6, h_7, h_8, h_9, h_10, h_11, h_12]
           refine Hid.selQ (fun h_13 => ?_) (fun h_13 => ?_)
           ·replace H := HS.cnd_t h_13 H
            try simp -implicitDefEqProofs (maxSteps := 999999) [-selQ_sel, h_1, h_2, h_3, h_4, h_5, h_6, h_7, h_8, h_9, h_10, h_11, h_12, h_13]
            obtain ⟨v3, h_14, H⟩ := HS.bnd H
            try simp -implicitDefEqProofs (maxSteps := 999999) [-selQ_sel, h_1, h_2, h_3, h_4, h_5, h_6, h_7, h_8, h_9, h_10, h_11, h_12, h_13, h_14]
            have hr := (HS.some H).symm; subst hr
            refine Hid.mk ⟨_, Wk.refl _, ?_⟩
            try simp -implicitDefEqProofs (maxSteps := 999999) [-selQ_sel, h_1, h_2, h_3, h_4, h_5, h_6, h_7, h_8, h_9, h_10, h_11, h_12, h_13, h_14]
           ·replace H := HS.cnd_f h_13 H
            try simp -implicitDefEqProofs (maxSteps := 999999) [-selQ_sel, h_1, h_2, h_3, h_4, h_5, h_6, h_7, h_8, h_9, h_10, h_11, h_12, h_13]
            have hr := (HS.some H).symm; subst hr
            refine Hid.mk ⟨_, Wk.refl _, ?_⟩
            try simp -implicitDefEqProofs (maxSteps := 999999) [-selQ_sel, h_1, h_2, h_3, h_4, h_5, h_6, h_7, h_8, h_9, h_10, h_11, h_12, h_13]
          ·replace H := HS.cnd_f h_12 H
           try simp -implicitDefEqProofs (maxSteps := 999999) [-selQ_sel, h_1, h_2, h_3, h_4, h_5, h_6, h_7, h_8, h_9, h_10, h_11, h_12]
           have hr := (HS.some H).symm; subst hr
           refine Hid.mk ⟨_, Wk.refl _, ?_⟩
           try simp -implicitDefEqProofs (maxSteps := 999999) [-selQ_sel, h_1, h_2, h_3, h_4, h_5, h_6, h_7, h_8, h_9, h_10, h_11, h_12]
         ·replace H := HS.cnd_f h_11 H
          try simp -implicitDefEqProofs (maxSteps := 999999) [-selQ_sel, h_1, h_2, h_3, h_4, h_5, h_6, h_7, h_8, h_9, h_10, h_11]
          have hr := (HS.some H).symm; subst hr
          refine Hid.mk ⟨_, Wk.refl _, ?_⟩
          try simp -implicitDefEqProofs (maxSteps := 999999) [-selQ_sel, h_1, h_2, h_3, h_4, h_5, h_6, h_7, h_8, h_9, h_10, h_11]
        ·replace H := HS.cnd_f h_10 H
         try simp -implicitDefEqProofs (maxSteps := 999999) [-selQ_sel, h_1, h_2, h_3, h_4, h_5, h_6, h_7, h_8, h_9, h_10]
         have hr := (HS.some H).symm; subst hr
         refine Hid.mk ⟨_, Wk.refl _, ?_⟩
         try simp -implicitDefEqProofs (maxSteps := 999999) [-selQ_sel, h_1, h_2, h_3, h_4, h_5, h_6, h_7, h_8, h_9, h_10]
       ·replace H := HS.cnd_f h_8 H
        try simp -implicitDefEqProofs (maxSteps := 999999) [-selQ_sel, h_1, h_2, h_3, h_4, h_5, h_6, h_7, h_8]
        have hr := (HS.some H).symm; subst hr
        refine Hid.mk ⟨_, Wk.refl _, ?_⟩
        try simp -implicitDefEqProofs (maxSteps := 999999) [-selQ_sel, h_1, h_2, h_3, h_4, h_5, h_6, h_7, h_8]
      ·replace H := HS.cnd_f h_7 H
       try simp -implicitDefEqProofs (maxSteps := 999999) [-selQ_sel, h_1, h_2, h_3, h_4, h_5, h_6, h_7]
       have hr := (HS.some H).symm; subst hr
       refine Hid.mk ⟨_, Wk.refl _, ?_⟩
       try simp -implicitDefEqProofs (maxSteps := 999999) [-selQ_sel, h_1, h_2, h_3, h_4, h_5, h_6, h_7]
     ·replace H := HS.cnd_f h_6 H
      try simp -implicitDefEqProofs (maxSteps := 999999) [-selQ_sel, h_1, h_2, h_3, h_4, h_5, h_6]
      have hr := (HS.some H).symm; subst hr
      refine Hid.mk ⟨_, Wk.refl _, ?_⟩
      try simp -implicitDefEqProofs (maxSteps := 999999) [-selQ_sel, h_1, h_2, h_3, h_4, h_5, h_6]
    ·replace H := HS.cnd_f h_4 H
     try simp -implicitDefEqProofs (maxSteps := 999999) [-selQ_sel, h_1, h_2, h_3, h_4]
     have hr := (HS.some H).symm; subst hr
     refine Hid.mk ⟨_, Wk.refl _, ?_⟩
     try simp -implicitDefEqProofs (maxSteps := 999999) [-selQ_sel, h_1, h_2, h_3, h_4]
   ·replace H := HS.cnd_f h_3 H
    try simp -implicitDefEqProofs (maxSteps := 999999) [-selQ_sel, h_1, h_2, h_3]
    have hr := (HS.some H).symm; subst hr
    refine Hid.mk ⟨_, Wk.refl _, ?_⟩
    try simp -implicitDefEqProofs (maxSteps := 999999) [-selQ_sel, h_1, h_2, h_3]
  ·replace H := HS.cnd_f h_2 H
   try simp -implicitDefEqProofs (maxSteps := 999999) [-selQ_sel, h_1, h_2]
   have hr := (HS.some H).symm; subst hr
   refine Hid.mk ⟨_, Wk.refl _, ?_⟩
   try simp -implicitDefEqProofs (maxSteps := 999999) [-selQ_sel, h_1, h_2]
 ·replace H := HS.cnd_f h_1 H
  try simp -implicitDefEqProofs (maxSteps := 999999) [-selQ_sel, h_1]
  have hr := (HS.some H).symm; subst hr
  refine Hid.mk ⟨_, Wk.refl _, ?_⟩
  try simp -implicitDefEqProofs (maxSteps := 999999) [-selQ_sel, h_1]
theorem spec_l06Any_ok0 (hm : Try.prog.follows .mixedOrders = true) (k_spec_l06Path : Sound Try.prog 169 spec_l06Path_x) (k_spec_l01Below : Sound Try.prog 107 spec_l01Below_x) (k_spec_l04AnyPoint : Sound Try.prog 230 spec_l04AnyPoint_x) : Sound Try.prog 224 spec_l06Any_x := by
 refine xOf_sound fun q r h => ?_
 revert h; revert r; revert q; intro a0 r h
 refine fn_ok E0 hm Try.func224 rfl (by decide +kernel) (by rfl) fun Γ hn hk => ?_
 dsimp only [spec_l06Any_e, spec_l06Any_v]
 replace hn : Γ.n = 46 := hn
 replace hk : Γ.k = 1 := hk
 have H : HS (spec_l06Any a0) r := h
 clear h; unfold spec_l06Any at H
 try simp -implicitDefEqProofs at H
 refine Tr.of_vc (cl := tabC [(169, spec_l06Path_x), (107, spec_l01Below_x), (230, spec_l04AnyPoint_x)]) (E := E0) [] (tab_cons k_spec_l06Path (tab_cons k_spec_l01Below (tab_cons k_spec_l04AnyPoint tab_nil))) hm (by rw [hn]; decide +kernel) ?_
 try simp -implicitDefEqProofs +decide (maxSteps := 999999) [-selQ_sel, hokQ_of]
 obtain ⟨⟨w2, w3, w4⟩, h_1, H⟩ := HS.bnd H
 dsimp only at H
 try simp -implicitDefEqProofs +decide (maxSteps := 999999) [-selQ_sel, hokQ_of, h_1]
 obtain ⟨h_2, H⟩ := HS.chkP H
 try simp -implicitDefEqProofs +decide (maxSteps := 999999) [-selQ_sel, hokQ_of, h_1, h_2]
 obtain ⟨l5, h_3, H⟩ := HS.nam H
 have m_4 := congrArg (List.map (AV.int .i64)) h_3
 have q_5 := congrArg List.length h_3
 simp -implicitDefEqProofs at m_4 q_5
 try simp only [q_5] at m_4
 try simp only [q_5] at h_2
 try simp -implicitDefEqProofs +decide (maxSteps := 999999) [-selQ_sel, hokQ_of, h_1, h_2, m_4, q_5]
 obtain ⟨h_6, H⟩ := HS.chkP H
 try simp -implicitDefEqProofs +decide (maxSteps := 999999) [-selQ_sel, hokQ_of, h_1, h_2, m_4, q_5, h_6]
 obtain ⟨l6, h_7, H⟩ := HS.nam H
 have m_8 := congrArg (List.map ePoint) h_7
 have q_9 := congrArg List.length h_7
 simp -implicitDefEqProofs at m_8 q_9
 try simp only [q_9] at m_8
 try simp only [q_9] at h_6
 try simp -implicitDefEqProofs +decide (maxSteps := 999999) [-selQ_sel, hokQ_of, h_1, h_2, m_4, q_5, h_6, m_8, q_9]
 obtain ⟨⟨w8, w9⟩, h_10, H⟩ := HS.bnd H
 dsimp only at H
 try simp -implicitDefEqProofs +decide (maxSteps := 999999) [-selQ_sel, hokQ_of, h_1, h_2, m_4, q_5, h_6, m_8, q_9, h_10]
 refine Hid.brV (fun h_11 => ?_) (fun h_11 => ?_)
 ·replace H := HS.cnd_t h_11 H
  try simp -implicitDefEqProofs +decide (maxSteps := 999999) [-selQ_sel, hokQ_of, h_1, h_2, m_4, q_5, h_6, m_8, q_9, h_10, h_11]
  obtain ⟨⟨w11, w12⟩, h_12, H⟩ := HS.bnd H
  dsimp only at H
  try simp -implicitDefEqProofs +decide (maxSteps := 999999) [-selQ_sel, hokQ_of, h_1, h_2, m_4, q_5, h_6, m_8, q_9, h_10, h_11, h_12]
  obtain ⟨⟨w14, w15⟩, h_13, H⟩ := HS.bnd H
  dsimp only at H
  try simp -implicitDefEqProofs +decide (maxSteps := 999999) [-selQ_sel, hokQ_of, h_1, h_2, m_4, q_5, h_6, m_8, q_9, h_10, h_11, h_12, h_13]
  obtain ⟨v16, h_14, H⟩ := HS.bnd H
  have g_15 := idx_get h_14
  try simp -implicitDefEqProofs +decide (maxSteps := 999999) [-selQ_sel, hokQ_of, h_1, h_2, m_4, q_5, h_6, m_8, q_9, h_10, h_11, h_12, h_13, h_14, g_15]
  obtain ⟨l17, h_16, H⟩ := HS.nam H
  have m_17 := congrArg (List.map (AV.int .i64)) h_16
  have q_18 := congrArg List.length h_16
  simp -implicitDefEqProofs at m_17 q_18
  try simp only [q_18] at m_17
  try simp only [q_18] at g_15
  try simp -implicitDefEqProofs +decide (maxSteps := 999999) [-selQ_sel, hokQ_of, h_1, h_2, m_4, q_5, h_6, m_8, q_9, h_10, h_11, h_12, h_13, h_14, g_15, m_17, q_18]
  have hr := (HS.some H).symm; subst hr
  refine Hid.mk ⟨_, Wk.refl _, ?_⟩
  try simp -implicitDefEqProofs +decide (maxSteps := 999999) [-selQ_sel, hokQ_of, h_1, h_2, m_4, q_5, h_6, m_8, q_9, h_10, h_11, h_12, h_13, h_14, g_15, m_17, q_18]
 ·replace H := HS.cnd_f h_11 H
  try simp -implicitDefEqProofs +decide (maxSteps := 999999) [-selQ_sel, hokQ_of, h_1, h_2, m_4, q_5, h_6, m_8, q_9, h_10, h_11]
  refine Hid.brV (fun h_19 => ?_) (fun h_19 => ?_)
  ·replace H := HS.cnd_t h_19 H
   try simp -implicitDefEqProofs +decide (maxSteps := 999999) [-selQ_sel, hokQ_of, h_1, h_2, m_4, q_5, h_6, m_8, q_9, h_10, h_11, h_19]
   obtain ⟨v18, h_20, H⟩ := HS.bnd H
   have s_21 := (slc_spec h_20).1
   have s_22 := slc_fit h_20
   have s_23 := slc_map (e := ePoint) h_20
   have s_24 := (slc_spec h_20).2.1
   simp -implicitDefEqProofs at s_21 s_22 s_23 s_24
   try simp only [s_24] at s_22 s_23
   try simp -implicitDefEqProofs +decide (maxSteps := 999999) [-selQ_sel, hokQ_of, h_1, h_2, m_4, q_5, h_6, m_8, q_9, h_10, h_11, h_19, h_20, s_21, s_22, s_23, s_24]
   have hr := (HS.some H).symm; subst hr
   refine Hid.mk ⟨_, Wk.refl _, ?_⟩
   try simp -implicitDefEqProofs +decide (maxSteps := 999999) [-selQ_sel, hokQ_of, h_1, h_2, m_4, q_5, h_6, m_8, q_9, h_10, h_11, h_19, h_20, s_21, s_22, s_23, s_24]
  ·replace H := HS.cnd_f h_19 H
   try simp -implicitDefEqProofs +decide (maxSteps := 999999) [-selQ_sel, hokQ_of, h_1, h_2, m_4, q_5, h_6, m_8, q_9, h_10, h_11, h_19]
   refine Hid.brV (fun h_25 => ?_) (fun h_25 => ?_)
   ·replace H := HS.cnd_t h_25 H
    try simp -implicitDefEqProofs +decide (maxSteps := 999999) [-selQ_sel, hokQ_of, h_1, h_2, m_4, q_5, h_6, m_8, q_9, h_10, h_11, h_19, h_25]
    obtain ⟨⟨w20, w21⟩, h_26, H⟩ := HS.bnd H
    dsimp only at H
    try simp -implicitDefEqProofs +decide (maxSteps := 999999) [-selQ_sel, hokQ_of, h_1, h_2, m_4, q_5, h_6, m_8, q_9, h_10, h_11, h_19, h_25, h_26]
    obtain ⟨v22, h_27, H⟩ := HS.bnd H
    have g_28 := idx_get h_27
    simp only [Int.reduceToNat] at g_28
    try simp -implicitDefEqProofs +decide (maxSteps := 999999) [-selQ_sel, hokQ_of, h_1, h_2, m_4, q_5, h_6, m_8, q_9, h_10, h_11, h_19, h_25, h_26, h_27, g_28]
    obtain ⟨l23, h_29, H⟩ := HS.nam H
    have m_30 := congrArg (List.map ePoint) h_29
    have q_31 := congrArg List.length h_29
    simp -implicitDefEqProofs at m_30 q_31
    try simp only [q_31] at m_30
    try simp only [q_31] at g_28
    try simp -implicitDefEqProofs +decide (maxSteps := 999999) [-selQ_sel, hokQ_of, h_1, h_2, m_4, q_5, h_6, m_8, q_9, h_10, h_11, h_19, h_25, h_26, h_27, g_28, m_30, q_31]
    have hr := (HS.some H).symm; subst hr
    refine Hid.mk ⟨_, Wk.refl _, ?_⟩
    try simp -implicitDefEqProofs +decide (maxSteps := 999999) [-selQ_sel, hokQ_of, h_1, h_2, m_4, q_5, h_6, m_8, q_9, h_10, h_11, h_19, h_25, h_26, h_27, g_28, m_30, q_31]
   ·replace H := HS.cnd_f h_25 H
    try simp -implicitDefEqProofs +decide (maxSteps := 999999) [-selQ_sel, hokQ_of, h_1, h_2, m_4, q_5, h_6, m_8, q_9, h_10, h_11, h_19, h_25]
    refine Hid.brV (fun h_32 => ?_) (fun h_32 => ?_)
    ·replace H := HS.cnd_t h_32 H
     try simp -implicitDefEqProofs +decide (maxSteps := 999999) [-selQ_sel, hokQ_of, h_1, h_2, m_4, q_5, h_6, m_8, q_9, h_10, h_11, h_19, h_25, h_32]
     have hr := (HS.some H).symm; subst hr
     refine Hid.mk ⟨_, Wk.refl _, ?_⟩
     try simp -implicitDefEqProofs +decide (maxSteps := 999999) [-selQ_sel, hokQ_of, h_1, h_2, m_4, q_5, h_6, m_8, q_9, h_10, h_11, h_19, h_25, h_32]
    ·replace H := HS.cnd_f h_32 H
     try simp -implicitDefEqProofs +decide (maxSteps := 999999) [-selQ_sel, hokQ_of, h_1, h_2, m_4, q_5, h_6, m_8, q_9, h_10, h_11, h_19, h_25, h_32]
     have hr := (HS.some H).symm; subst hr
     refine Hid.mk ⟨_, Wk.refl _, ?_⟩
     try simp -implicitDefEqProofs +decide (maxSteps := 999999) [-selQ_sel, hokQ_of, h_1, h_2, m_4, q_5, h_6, m_8, q_9, h_10, h_11, h_19, h_25, h_32]
theorem impl_DepthOf_ok0 (hm : Try.prog.follows .mixedOrders = true) (k_impl_NodeAt : Sound Try.prog 53 impl_NodeAt_x) : Sound Try.prog 114 impl_DepthOf_x := by
 refine xOf_sound fun q r h => ?_
 obtain ⟨a0, a1⟩ := q
 refine fn_ok E0 hm Try.func114 rfl (by decide +kernel) (by rfl) fun Γ hn hk => ?_
 dsimp only [impl_DepthOf_e, impl_DepthOf_v]
 replace hn : Γ.n = 27 := hn
 replace hk : Γ.k = 0 := hk
 have H : HS (impl_DepthOf a0 a1) r := h
 clear h; unfold impl_DepthOf at H
 try simp -implicitDefEqProofs at H
 refine Tr.of_vc (cl := tabC [(53, impl_NodeAt_x)]) (E := E0) [] (tab_cons k_impl_NodeAt tab_nil) hm (by rw [hn]; decide +kernel) ?_
 try simp -implicitDefEqProofs (maxSteps := 999999) [-selQ_sel]
 refine Hid.brV (fun h_1 => ?_) (fun h_1 => ?_)
 ·replace H := HS.cnd_t h_1 H
  try simp -implicitDefEqProofs (maxSteps := 999999) [-selQ_sel, h_1]
  have hr := (HS.some H).symm; subst hr
  refine Hid.mk ⟨_, Wk.refl _, ?_⟩
  try simp -implicitDefEqProofs (maxSteps := 999999) [-selQ_sel, h_1]
 ·replace H := HS.cnd_f h_1 H
  try simp -implicitDefEqProofs (maxSteps := 999999) [-selQ_sel, h_1]
  obtain ⟨q, h_2, H⟩ := HS.bnd H
  refine Hid.mk (Tr.weak (s' := (impl_DepthOf_l0_S a0) (a1, 1)) (Wk.ofk [0] hk (by rfl) (by simp -implicitDefEqProofs [impl_DepthOf_l0_S, h_1]) (by simp -implicitDefEqProofs [impl_DepthOf_l0_S, h_1])) ?_)
  refine wp_loop_of (S := (impl_DepthOf_l0_S a0)) (f := (impl_DepthOf_l0 a0)) (xt := (impl_DepthOf_l0_X a0)) ?_ ?_ h_2 ?_
  ·intro q; rcases q with y7 | ⟨⟩ <;> simp [impl_DepthOf_l0_X]
  ·clear H h_2 q
   rintro ⟨x3, x4⟩ o R hf hR
   have H : HS (impl_DepthOf_l0 a0 (x3, x4)) o := hf
   clear hf; unfold impl_DepthOf_l0 at H
   try simp -implicitDefEqProofs at H
   refine Tr.of_vc (cl := tabC [(53, impl_NodeAt_x)]) (E := E0) [] (tab_cons k_impl_NodeAt tab_nil) hm (by rw [hn]; decide +kernel) ?_
   try simp -implicitDefEqProofs (maxSteps := 999999) [-selQ_sel, impl_DepthOf_l0_S]
   refine Hid.brV (fun h_3 => ?_) (fun h_3 => ?_)
   ·replace H := HS.cnd_t h_3 H
    try simp -implicitDefEqProofs (maxSteps := 999999) [-selQ_sel, h_3]
    obtain ⟨v5, h_4, H⟩ := HS.bnd H
    try simp -implicitDefEqProofs (maxSteps := 999999) [-selQ_sel, h_3, h_4]
    refine Hid.brV (fun h_5 => ?_) (fun h_5 => ?_)
    ·replace H := HS.cnd_t h_5 H
     try simp -implicitDefEqProofs (maxSteps := 999999) [-selQ_sel, h_3, h_4, h_5]
     obtain ⟨v6, h_6, H⟩ := HS.bnd H
     try simp -implicitDefEqProofs (maxSteps := 999999) [-selQ_sel, h_3, h_4, h_5, h_6]
     refine Hid.brV (fun h_7 => ?_) (fun h_7 => ?_)
     ·replace H := HS.cnd_t h_7 H
      try simp -implicitDefEqProofs (maxSteps := 999999) [-selQ_sel, h_3, h_4, h_5, h_6, h_7]
      have hr := (HS.some H).symm; subst hr
      exact Hid.mk ⟨(impl_DepthOf_l0_X a0 (.inl x4)).2, Wk.ofk [] hk (by rfl) (by simp -implicitDefEqProofs [impl_DepthOf_l0_X, h_3, h_4, h_5, h_6, h_7]) (by simp -implicitDefEqProofs [impl_DepthOf_l0_X, h_3, h_4, h_5, h_6, h_7]), hR⟩
     ·replace H := HS.cnd_f h_7 H
      try simp -implicitDefEqProofs (maxSteps := 999999) [-selQ_sel, h_3, h_4, h_5, h_6, h_7]
      have hr := (HS.some H).symm; subst hr
      exact Hid.mk ⟨impl_DepthOf_l0_S a0 (v6.parent, (IntKind.i64.wrap (x4 + 1))), Wk.ofk [0] hk (by rfl) (by simp -implicitDefEqProofs [impl_DepthOf_l0_S, h_3, h_4, h_5, h_6, h_7]) (by simp -implicitDefEqProofs [impl_DepthOf_l0_S, h_3, h_4, h_5, h_6, h_7]), hR⟩
    ·replace H := HS.cnd_f h_5 H
     try simp -implicitDefEqProofs (maxSteps := 999999) [-selQ_sel, h_3, h_4, h_5]
     have hr := (HS.some H).symm; subst hr
     exact Hid.mk ⟨(impl_DepthOf_l0_X a0 (.inl 0)).2, Wk.ofk [] hk (by rfl) (by simp -implicitDefEqProofs [impl_DepthOf_l0_X, h_3, h_4, h_5]) (by simp -implicitDefEqProofs [impl_DepthOf_l0_X, h_3, h_4, h_5]), hR⟩
   ·replace H := HS.cnd_f h_3 H
    try simp -implicitDefEqProofs (maxSteps := 999999) [-selQ_sel, h_3]
    have hr := (HS.some H).symm; subst hr
    exact Hid.mk ⟨(impl_DepthOf_l0_X a0 (.inr ())).2, Wk.ofk [] hk (by rfl) (by simp -implicitDefEqProofs [impl_DepthOf_l0_X, h_3]) (by simp -implicitDefEqProofs [impl_DepthOf_l0_X, h_3]), hR⟩
  ·rcases q with y7 | ⟨⟩
   ·dsimp only at H
    try simp -implicitDefEqProofs (maxSteps := 999999) [-selQ_sel, h_1, impl_DepthOf_l0_X]
    have hr := (HS.some H).symm; subst hr
    refine Hid.mk ⟨_, Wk.refl _, ?_⟩
    try simp -implicitDefEqProofs (maxSteps := 999999) [-selQ_sel, h_1]
   ·dsimp only at H
    try simp -implicitDefEqProofs (maxSteps := 999999) [-selQ_sel, h_1, impl_DepthOf_l0_X]
    have hr := (HS.some H).symm; subst hr
    refine Hid.mk ⟨_, Wk.refl _, ?_⟩
    try simp -implicitDefEqProofs (maxSteps := 999999) [-selQ_sel, h_1]
theorem impl_MatOk_ok0 (hm : Try.prog.follows .mixedOrders = true) (k_impl_inRange : Sound Try.prog 95 impl_inRange_x) (k_impl_isFar : Sound Try.prog 217 impl_isFar_x) : Sound Try.prog 175 impl_MatOk_x := by
 refine xOf_sound fun q r h => ?_
 revert h; revert r; revert q; intro a0 r h
 refine fn_ok E0 hm Try.func175 rfl (by decide +kernel) (by rfl) fun Γ hn hk => ?_
 dsimp only [impl_MatOk_e, impl_MatOk_v]
 replace hn : Γ.n = 29 := hn
 replace hk : Γ.k = 0 := hk
 have H : HS (impl_MatOk a0) r := h
 clear h; unfold impl_MatOk at H
 try simp -implicitDefEqProofs at H
 refine Tr.of_vc (cl := tabC [(95, impl_inRange_x), (217, impl_isFar_x)]) (E := E0) [] (tab_cons k_impl_inRange (tab_cons k_impl_isFar tab_nil)) hm (by rw [hn]; decide +kernel) ?_
 try simp -implicitDefEqProofs (maxSteps := 999999) [-selQ_sel]
 obtain ⟨q, h_1, H⟩ := HS.bnd H
 refine Hid.mk (Tr.weak (s' := (impl_MatOk_l0_S a0) 0) (Wk.ofk [0] hk (by rfl) (by simp -implicitDefEqProofs [impl_MatOk_l0_S]) (by simp -implicitDefEqProofs [impl_MatOk_l0_S])) ?_)
 refine wp_loop_of (S := (impl_MatOk_l0_S a0)) (f := (impl_MatOk_l0 a0)) (xt := (impl_MatOk_l0_X a0)) ?_ ?_ h_1 ?_
 ·intro q; rcases q with ⟨⟩ | ⟨⟩ <;> simp [impl_MatOk_l0_X]
 ·clear H h_1 q
  rintro x2 o R hf hR
  have H : HS (impl_MatOk_l0 a0 x2) o := hf
  clear hf; unfold impl_MatOk_l0 at H
  try simp -implicitDefEqProofs at H
  refine Tr.of_vc (cl := tabC [(95, impl_inRange_x), (217, impl_isFar_x)]) (E := E0) [] (tab_cons k_impl_inRange (tab_cons k_impl_isFar tab_nil)) hm (by rw [hn]; decide +kernel) ?_
  try simp -implicitDefEqProofs (maxSteps := 999999) [-selQ_sel, impl_MatOk_l0_S]
  refine Hid.brV (fun h_2 => ?_) (fun h_2 => ?_)
  ·replace H := HS.cnd_t h_2 H
   try simp -implicitDefEqProofs (maxSteps := 999999) [-selQ_sel, h_2]
   have hr := (HS.some H).symm; subst hr
   exact Hid.mk ⟨(impl_MatOk_l0_X a0 (.inl ())).2, Wk.ofk [0] hk (by rfl) (by simp -implicitDefEqProofs [impl_MatOk_l0_X, h_2]) (by simp -implicitDefEqProofs [impl_MatOk_l0_X, h_2]), hR⟩
  ·replace H := HS.cnd_f h_2 H
   try simp -implicitDefEqProofs (maxSteps := 999999) [-selQ_sel, h_2]
   obtain ⟨v3, h_3, H⟩ := HS.bnd H
   have g_4 := idx_map (e := (AV.int .i64)) h_3
   simp only [List.map_cons, List.map_nil] at g_4
   try simp -implicitDefEqProofs (maxSteps := 999999) [-selQ_sel, h_2, h_3, g_4]
   obtain ⟨v4, h_5, H⟩ := HS.bnd H
   try simp -implicitDefEqProofs (maxSteps := 999999) [-selQ_sel, h_2, h_3, g_4, h_5]
   refine Hid.brV (fun h_6 => ?_) (fun h_6 => ?_)
   ·replace H := HS.cnd_t h_6 H
    try simp -implicitDefEqProofs (maxSteps := 999999) [-selQ_sel, h_2, h_3, g_4, h_5, h_6]
    have hr := (HS.some H).symm; subst hr
    exact Hid.mk ⟨impl_MatOk_l0_S a0 (IntKind.i64.wrap (x2 + 1)), Wk.ofk [0] hk (by rfl) (by simp -implicitDefEqProofs [impl_MatOk_l0_S, h_2, h_3, g_4, h_5, h_6]) (by simp -implicitDefEqProofs [impl_MatOk_l0_S, h_2, h_3, g_4, h_5, h_6]), hR⟩
   ·replace H := HS.cnd_f h_6 H
    try simp -implicitDefEqProofs (maxSteps := 999999) [-selQ_sel, h_2, h_3, g_4, h_5, h_6]
    have hr := (HS.some H).symm; subst hr
    exact Hid.mk ⟨(impl_MatOk_l0_X a0 (.inr ())).2, Wk.ofk [] hk (by rfl) (by simp -implicitDefEqProofs [impl_MatOk_l0_X, h_2, h_3, g_4, h_5, h_6]) (by simp -implicitDefEqProofs [impl_MatOk_l0_X, h_2, h_3, g_4, h_5, h_6]), hR⟩
 ·rcases q with ⟨⟩ | ⟨⟩
  ·dsimp only at H
   try simp -implicitDefEqProofs (maxSteps := 999999) [-selQ_sel, impl_MatOk_l0_X]
   obtain ⟨v5, h_7, H⟩ := HS.bnd H
   try simp -implicitDefEqProofs (maxSteps := 999999) [-selQ_sel, h_7]
   refine Hid.selQ (fun h_8 => ?_) (fun h_8 => ?_)
   ·replace H := HS.cnd_t h_8 H
    try simp -implicitDefEqProofs (maxSteps := 999999) [-selQ_sel, h_7, h_8]
    obtain ⟨v6, h_9, H⟩ := HS.bnd H
    try simp -implicitDefEqProofs (maxSteps := 999999) [-selQ_sel, h_7, h_8, h_9]
    have hr := (HS.some H).symm; subst hr
    refine Hid.mk ⟨_, Wk.refl _, ?_⟩
    try simp -implicitDefEqProofs (maxSteps := 999999) [-selQ_sel, h_7, h_8, h_9]
   ·replace H := HS.cnd_f h_8 H
    try simp -implicitDefEqProofs (maxSteps := 999999) [-selQ_sel, h_7, h_8]
    have hr := (HS.some H).symm; subst hr
    refine Hid.mk ⟨_, Wk.refl _, ?_⟩
    try simp -implicitDefEqProofs (maxSteps := 999999) [-selQ_sel, h_7, h_8]
  ·dsimp only at H
   try simp -implicitDefEqProofs (maxSteps := 999999) [-selQ_sel, impl_MatOk_l0_X]
   have hr := (HS.some H).symm; subst hr
   refine Hid.mk ⟨_, Wk.refl _, ?_⟩
   try simp -implicitDefEqProofs (maxSteps := 999999) [-selQ_sel]
theorem spec_MatOk_ok0 (hm : Try.prog.follows .mixedOrders = true) (k_spec_l01In : Sound Try.prog 91 spec_l01In_x) : Sound Try.prog 183 spec_MatOk_x := by
 refine xOf_sound fun q r h => ?_
 revert h; revert r; revert q; intro a0 r h
 refine fn_ok E0 hm Try.func183 rfl (by decide +kernel) (by rfl) fun Γ hn hk => ?_
 dsimp only [spec_MatOk_e, spec_MatOk_v]
 replace hn : Γ.n = 44 := hn
 replace hk : Γ.k = 0 := hk
 have H : HS (spec_MatOk a0) r := h
 clear h; unfold spec_MatOk at H
 try simp -implicitDefEqProofs at H
 refine Tr.of_vc (cl := tabC [(91, spec_l01In_x)]) (E := E0) [] (tab_cons k_spec_l01In tab_nil) hm (by rw [hn]; decide +kernel) ?_
 try simp -implicitDefEqProofs (maxSteps := 999999) [-selQ_sel]
 obtain ⟨v1, h_1, H⟩ := HS.bnd H
 try simp -implicitDefEqProofs (maxSteps := 999999) [-selQ_sel, h_1]
 refine Hid.selQ (fun h_2 => ?_) (fun h_2 => ?_)
 ·replace H := HS.cnd_t h_2 H
  try simp -implicitDefEqProofs (maxSteps := 999999) [-selQ_sel, h_1, h_2]
  obtain ⟨v2, h_3, H⟩ := HS.bnd H
  try simp -implicitDefEqProofs (maxSteps := 999999) [-selQ_sel, h_1, h_2, h_3]
  refine Hid.selQ (fun h_4 => ?_) (fun h_4 => ?_)
  ·replace H := HS.cnd_t h_4 H
   try simp -implicitDefEqProofs (maxSteps := 999999) [-selQ_sel, h_1, h_2, h_3, h_4]
   obtain ⟨v3, h_5, H⟩ := HS.bnd H
   try simp -implicitDefEqProofs (maxSteps := 999999) [-selQ_sel, h_1, h_2, h_3, h_4, h_5]
   refine Hid.selQ (fun h_6 => ?_) (fun h_6 => ?_)
   ·replace H := HS.cnd_t h_6 H
    try simp -implicitDefEqProofs (maxSteps := 999999) [-selQ_sel, h_1, h_2, h_3, h_4, h_5, h_6]
    obtain ⟨v4, h_7, H⟩ := HS.bnd H
    try simp -implicitDefEqProofs (maxSteps := 999999) [-selQ_sel, h_1, h_2, h_3, h_4, h_5, h_6, h_7]
    refine Hid.selQ (fun h_8 => ?_) (fun h_8 => ?_)
    ·replace H := HS.cnd_t h_8 H
     try simp -implicitDefEqProofs (maxSteps := 999999) [-selQ_sel, h_1, h_2, h_3, h_4, h_5, h_6, h_7, h_8]
     obtain ⟨v5, h_9, H⟩ := HS.bnd H
     try simp -implicitDefEqProofs (maxSteps := 999999) [-selQ_sel, h_1, h_2, h_3, h_4, h_5, h_6, h_7, h_8, h_9]
     refine Hid.selQ (fun h_10 => ?_) (fun h_10 => ?_)
     ·replace H := HS.cnd_t h_10 H
      try simp -implicitDefEqProofs (maxSteps := 999999) [-selQ_sel, h_1, h_2, h_3, h_4, h_5, h_6, h_7, h_8, h_9, h_10]
      obtain ⟨v6, h_11, H⟩ := HS.bnd H
      try simp -implicitDefEqProofs (maxSteps := 999999) [-selQ_sel, h_1, h_2, h_3, h_4, h_5, h_6, h_7, h_8, h_9, h_10, h_11]
      have hr := (HS.some H).symm; subst hr
      refine Hid.mk ⟨_, Wk.refl _, ?_⟩
      try simp -implicitDefEqProofs (maxSteps := 999999) [-selQ_sel, h_1, h_2, h_3, h_4, h_5, h_6, h_7, h_8, h_9, h_10, h_11]
     ·replace H := HS.cnd_f h_10 H
      try simp -implicitDefEqProofs (maxSteps := 999999) [-selQ_sel, h_1, h_2, h_3, h_4, h_5, h_6, h_7, h_8, h_9, h_10]
      have hr := (HS.some H).symm; subst hr
      refine Hid.mk ⟨_, Wk.refl _, ?_⟩
      try simp -implicitDefEqProofs (maxSteps := 999999) [-selQ_sel, h_1, h_2, h_3, h_4, h_5, h_6, h_7, h_8, h_9, h_10]
    ·replace H := HS.cnd_f h_8 H
     try simp -implicitDefEqProofs (maxSteps := 999999) [-selQ_sel, h_1, h_2, h_3, h_4, h_5, h_6, h_7, h_8]
     have hr := (HS.some H).symm; subst hr
     refine Hid.mk ⟨_, Wk.refl _, ?_⟩
     try simp -implicitDefEqProofs (maxSteps := 999999) [-selQ_sel, h_1, h_2, h_3, h_4, h_5, h_6, h_7, h_8]
   ·replace H := HS.cnd_f h_6 H
    try simp -implicitDefEqProofs (maxSteps := 999999) [-selQ_sel, h_1, h_2, h_3, h_4, h_5, h_6]
    have hr := (HS.some H).symm; subst hr
    refine Hid.mk ⟨_, Wk.refl _, ?_⟩
    try simp -implicitDefEqProofs (maxSteps := 999999) [-selQ_sel, h_1, h_2, h_3, h_4, h_5, h_6]
  ·replace H := HS.cnd_f h_4 H
   try simp -implicitDefEqProofs (maxSteps := 999999) [-selQ_sel, h_1, h_2, h_3, h_4]
   have hr := (HS.some H).symm; subst hr
   refine Hid.mk ⟨_, Wk.refl _, ?_⟩
   try simp -implicitDefEqProofs (maxSteps := 999999) [-selQ_sel, h_1, h_2, h_3, h_4]
 ·replace H := HS.cnd_f h_2 H
  try simp -implicitDefEqProofs (maxSteps := 999999) [-selQ_sel, h_1, h_2]
  have hr := (HS.some H).symm; subst hr
  refine Hid.mk ⟨_, Wk.refl _, ?_⟩
  try simp -implicitDefEqProofs (maxSteps := 999999) [-selQ_sel, h_1, h_2]
theorem spec_DepthOf_ok0 (hm : Try.prog.follows .mixedOrders = true) (k_spec_NodeAt : Sound Try.prog 119 spec_NodeAt_x) : Sound Try.prog 120 spec_DepthOf_x := by
 refine xOf_sound fun q r h => ?_
 obtain ⟨a0, a1⟩ := q
 refine fn_ok E0 hm Try.func120 rfl (by decide +kernel) (by rfl) fun Γ hn hk => ?_
 dsimp only [spec_DepthOf_e, spec_DepthOf_v]
 replace hn : Γ.n = 28 := hn
 replace hk : Γ.k = 0 := hk
 have H : HS (spec_DepthOf a0 a1) r := h
 clear h; unfold spec_DepthOf at H
 try simp -implicitDefEqProofs at H
 refine Tr.of_vc (cl := tabC [(119, spec_NodeAt_x)]) (E := E0) [] (tab_cons k_spec_NodeAt tab_nil) hm (by rw [hn]; decide +kernel) ?_
 try simp -implicitDefEqProofs (maxSteps := 999999) [-selQ_sel]
 obtain ⟨q, h_1, H⟩ := HS.bnd H
 refine Hid.mk (Tr.weak (s' := (spec_DepthOf_l0_S a0) (a1, 0, 0)) (Wk.ofk [0] hk (by rfl) (by simp -implicitDefEqProofs [spec_DepthOf_l0_S]) (by simp -implicitDefEqProofs [spec_DepthOf_l0_S])) ?_)
 refine wp_loop_of (S := (spec_DepthOf_l0_S a0)) (f := (spec_DepthOf_l0 a0)) (xt := (spec_DepthOf_l0_X a0)) ?_ ?_ h_1 ?_
 ·intro q; rcases q with y8 | ⟨⟩ <;> simp [spec_DepthOf_l0_X]
 ·clear H h_1 q
  rintro ⟨x3, x4, x5⟩ o R hf hR
  have H : HS (spec_DepthOf_l0 a0 (x3, x4, x5)) o := hf
  clear hf; unfold spec_DepthOf_l0 at H
  try simp -implicitDefEqProofs at H
  refine Tr.of_vc (cl := tabC [(119, spec_NodeAt_x)]) (E := E0) [] (tab_cons k_spec_NodeAt tab_nil) hm (by rw [hn]; decide +kernel) ?_
  try simp -implicitDefEqProofs (maxSteps := 999999) [-selQ_sel, spec_DepthOf_l0_S]
  refine Hid.brV (fun h_2 => ?_) (fun h_2 => ?_)
  ·replace H := HS.cnd_t h_2 H
   try simp -implicitDefEqProofs (maxSteps := 999999) [-selQ_sel, h_2]
   refine Hid.brV (fun h_3 => ?_) (fun h_3 => ?_)
   ·replace H := HS.cnd_t h_3 H
    try simp -implicitDefEqProofs (maxSteps := 999999) [-selQ_sel, h_2, h_3]
    have hr := (HS.some H).symm; subst hr
    exact Hid.mk ⟨(spec_DepthOf_l0_X a0 (.inl x4)).2, Wk.ofk [] hk (by rfl) (by simp -implicitDefEqProofs [spec_DepthOf_l0_X, h_2, h_3]) (by simp -implicitDefEqProofs [spec_DepthOf_l0_X, h_2, h_3]), hR⟩
   ·replace H := HS.cnd_f h_3 H
    try simp -implicitDefEqProofs (maxSteps := 999999) [-selQ_sel, h_2, h_3]
    obtain ⟨v6, h_4, H⟩ := HS.bnd H
    try simp -implicitDefEqProofs (maxSteps := 999999) [-selQ_sel, h_2, h_3, h_4]
    refine Hid.brV (fun h_5 => ?_) (fun h_5 => ?_)
    ·replace H := HS.cnd_t h_5 H
     try simp -implicitDefEqProofs (maxSteps := 999999) [-selQ_sel, h_2, h_3, h_4, h_5]
     obtain ⟨v7, h_6, H⟩ := HS.bnd H
     try simp -implicitDefEqProofs (maxSteps := 999999) [-selQ_sel, h_2, h_3, h_4, h_5, h_6]
     have hr := (HS.some H).symm; subst hr
     exact Hid.mk ⟨spec_DepthOf_l0_S a0 (v7.parent, (IntKind.i64.wrap (x4 + 1)), (IntKind.i64.wrap (x5 + 1))), Wk.ofk [0] hk (by rfl) (by simp -implicitDefEqProofs [spec_DepthOf_l0_S, h_2, h_3, h_4, h_5, h_6]) (by simp -implicitDefEqProofs [spec_DepthOf_l0_S, h_2, h_3, h_4, h_5, h_6]), hR⟩
    ·replace H := HS.cnd_f h_5 H
     try simp -implicitDefEqProofs (maxSteps := 999999) [-selQ_sel, h_2, h_3, h_4, h_5]
     have hr := (HS.some H).symm; subst hr
     exact Hid.mk ⟨(spec_DepthOf_l0_X a0 (.inl 0)).2, Wk.ofk [] hk (by rfl) (by simp -implicitDefEqProofs [spec_DepthOf_l0_X, h_2, h_3, h_4, h_5]) (by simp -implicitDefEqProofs [spec_DepthOf_l0_X, h_2, h_3, h_4, h_5]), hR⟩
  ·replace H := HS.cnd_f h_2 H
   try simp -implicitDefEqProofs (maxSteps := 999999) [-selQ_sel, h_2]
   have hr := (HS.some H).symm; subst hr
   exact Hid.mk ⟨(spec_DepthOf_l0_X a0 (.inr ())).2, Wk.ofk [] hk (by rfl) (by simp -implicitDefEqProofs [spec_DepthOf_l0_X, h_2]) (by simp -implicitDefEqProofs [spec_DepthOf_l0_X, h_2]), hR⟩
 ·rcases q with y8 | ⟨⟩
  ·dsimp only at H
   try simp -implicitDefEqProofs (maxSteps := 999999) [-selQ_sel, spec_DepthOf_l0_X]
   have hr := (HS.some H).symm; subst hr
   refine Hid.mk ⟨_, Wk.refl _, ?_⟩
   try simp -implicitDefEqProofs (maxSteps := 999999) [-selQ_sel]
  ·dsimp only at H
   try simp -implicitDefEqProofs (maxSteps := 999999) [-selQ_sel, spec_DepthOf_l0_X]
   have hr := (HS.some H).symm; subst hr
   refine Hid.mk ⟨_, Wk.refl _, ?_⟩
   try simp -implicitDefEqProofs (maxSteps := 999999) [-selQ_sel]
theorem impl_DashOk_ok0 (hm : Try.prog.follows .mixedOrders = true) (k_impl_inRange : Sound Try.prog 95 impl_inRange_x) : Sound Try.prog 177 impl_DashOk_x := by
 refine xOf_sound fun q r h => ?_
 revert h; revert r; revert q; intro a0 r h
 refine fn_ok E0 hm Try.func177 rfl (by decide +kernel) (by rfl) fun Γ hn hk => ?_
 dsimp only [impl_DashOk_e, impl_DashOk_v]
 replace hn : Γ.n = 24 := hn
 replace hk : Γ.k = 0 := hk
 have H : HS (impl_DashOk a0) r := h
 clear h; unfold impl_DashOk at H
 try simp -implicitDefEqProofs at H
 refine Tr.of_vc (cl := tabC [(95, impl_inRange_x)]) (E := E0) [] (tab_cons k_impl_inRange tab_nil) hm (by rw [hn]; decide +kernel) ?_
 try simp -implicitDefEqProofs (maxSteps := 999999) [-selQ_sel]
 obtain ⟨q, h_1, H⟩ := HS.bnd H
 refine Hid.mk (Tr.weak (s' := (impl_DashOk_l0_S a0) 0) (Wk.ofk [] hk (by rfl) (by simp -implicitDefEqProofs [impl_DashOk_l0_S]) (by simp -implicitDefEqProofs [impl_DashOk_l0_S])) ?_)
 refine wp_loop_of (S := (impl_DashOk_l0_S a0)) (f := (impl_DashOk_l0 a0)) (xt := (impl_DashOk_l0_X a0)) ?_ ?_ h_1 ?_
 ·intro q; rcases q with ⟨⟩ | ⟨⟩ <;> simp [impl_DashOk_l0_X]
 ·clear H h_1 q
  rintro x3 o R hf hR
  have H : HS (impl_DashOk_l0 a0 x3) o := hf
  clear hf; unfold impl_DashOk_l0 at H
  try simp -implicitDefEqProofs at H
  refine Tr.of_vc (cl := tabC [(95, impl_inRange_x)]) (E := E0) [] (tab_cons k_impl_inRange tab_nil) hm (by rw [hn]; decide +kernel) ?_
  try simp -implicitDefEqProofs (maxSteps := 999999) [-selQ_sel, impl_DashOk_l0_S]
  refine Hid.brV (fun h_2 => ?_) (fun h_2 => ?_)
  ·replace H := HS.cnd_t h_2 H
   try simp -implicitDefEqProofs (maxSteps := 999999) [-selQ_sel, h_2]
   have hr := (HS.some H).symm; subst hr
   exact Hid.mk ⟨(impl_DashOk_l0_X a0 (.inl ())).2, Wk.ofk [] hk (by rfl) (by simp -implicitDefEqProofs [impl_DashOk_l0_X, h_2]) (by simp -implicitDefEqProofs [impl_DashOk_l0_X, h_2]), hR⟩
  ·replace H := HS.cnd_f h_2 H
   try simp -implicitDefEqProofs (maxSteps := 999999) [-selQ_sel, h_2]
   obtain ⟨v4, h_3, H⟩ := HS.bnd H
   try simp -implicitDefEqProofs (maxSteps := 999999) [-selQ_sel, h_2, h_3]
   obtain ⟨v5, h_4, H⟩ := HS.bnd H
   try simp -implicitDefEqProofs (maxSteps := 999999) [-selQ_sel, h_2, h_3, h_4]
   refine Hid.brV (fun h_5 => ?_) (fun h_5 => ?_)
   ·replace H := HS.cnd_t h_5 H
    try simp -implicitDefEqProofs (maxSteps := 999999) [-selQ_sel, h_2, h_3, h_4, h_5]
    have hr := (HS.some H).symm; subst hr
    exact Hid.mk ⟨impl_DashOk_l0_S a0 (IntKind.i64.wrap (x3 + 1)), Wk.ofk [] hk (by rfl) (by simp -implicitDefEqProofs [impl_DashOk_l0_S, h_2, h_3, h_4, h_5]) (by simp -implicitDefEqProofs [impl_DashOk_l0_S, h_2, h_3, h_4, h_5]), hR⟩
   ·replace H := HS.cnd_f h_5 H
    try simp -implicitDefEqProofs (maxSteps := 999999) [-selQ_sel, h_2, h_3, h_4, h_5]
    have hr := (HS.some H).symm; subst hr
    exact Hid.mk ⟨(impl_DashOk_l0_X a0 (.inr ())).2, Wk.ofk [] hk (by rfl) (by simp -implicitDefEqProofs [impl_DashOk_l0_X, h_2, h_3, h_4, h_5]) (by simp -implicitDefEqProofs [impl_DashOk_l0_X, h_2, h_3, h_4, h_5]), hR⟩
 ·rcases q with ⟨⟩ | ⟨⟩
  ·dsimp only at H
   try simp -implicitDefEqProofs (maxSteps := 999999) [-selQ_sel, impl_DashOk_l0_X]
   refine Hid.selQ (fun h_6 => ?_) (fun h_6 => ?_)
   ·replace H := HS.cnd_t h_6 H
    try simp -implicitDefEqProofs (maxSteps := 999999) [-selQ_sel, h_6]
    have hr := (HS.some H).symm; subst hr
    refine Hid.mk ⟨_, Wk.refl _, ?_⟩
    try simp -implicitDefEqProofs (maxSteps := 999999) [-selQ_sel, h_6]
   ·replace H := HS.cnd_f h_6 H
    try simp -implicitDefEqProofs (maxSteps := 999999) [-selQ_sel, h_6]
    have hr := (HS.some H).symm; subst hr
    refine Hid.mk ⟨_, Wk.refl _, ?_⟩
    try simp -implicitDefEqProofs (maxSteps := 999999) [-selQ_sel, h_6]
  ·dsimp only at H
   try simp -implicitDefEqProofs (maxSteps := 999999) [-selQ_sel, impl_DashOk_l0_X]
   have hr := (HS.some H).symm; subst hr
   refine Hid.mk ⟨_, Wk.refl _, ?_⟩
   try simp -implicitDefEqProofs (maxSteps := 999999) [-selQ_sel]
theorem impl_copyScene_ok0 (hm : Try.prog.follows .mixedOrders = true) (k_impl_copyNode : Sound Try.prog 115 impl_copyNode_x) : Sound Try.prog 111 impl_copyScene_x := by
 refine xOf_sound fun q r h => ?_
 revert h; revert r; revert q; intro a0 r h
 refine fn_ok E0 hm Try.func111 rfl (by decide +kernel) (by rfl) fun Γ hn hk => ?_
 dsimp only [impl_copyScene_e, impl_copyScene_v]
 replace hn : Γ.n = 22 := hn
 replace hk : Γ.k = 0 := hk
 have H : HS (impl_copyScene a0) r := h
 clear h; unfold impl_copyScene at H
 try simp -implicitDefEqProofs at H
 refine Tr.of_vc (cl := tabC [(115, impl_copyNode_x)]) (E := E0) [] (tab_cons k_impl_copyNode tab_nil) hm (by rw [hn]; decide +kernel) ?_
 try simp -implicitDefEqProofs +decide (maxSteps := 999999) [-selQ_sel, hokQ_of]
 obtain ⟨q, h_1, H⟩ := HS.bnd H
 refine Hid.mk (Tr.weak (s' := (impl_copyScene_l0_S a0) (0, [])) (Wk.ofk [1, 2, 3] hk (by rfl) (by simp -implicitDefEqProofs [impl_copyScene_l0_S]) (by simp -implicitDefEqProofs [impl_copyScene_l0_S])) ?_)
 refine wp_loop_of (S := (impl_copyScene_l0_S a0)) (f := (impl_copyScene_l0 a0)) (xt := (impl_copyScene_l0_X a0)) ?_ ?_ h_1 ?_
 ·intro q; simp [impl_copyScene_l0_X]
 ·clear H h_1 q
  rintro ⟨x3, x4⟩ o R hf hR
  have H : HS (impl_copyScene_l0 a0 (x3, x4)) o := hf
  clear hf; unfold impl_copyScene_l0 at H
  try simp -implicitDefEqProofs at H
  refine Tr.of_vc (cl := tabC [(115, impl_copyNode_x)]) (E := E0) [] (tab_cons k_impl_copyNode tab_nil) hm (by rw [hn]; decide +kernel) ?_
  try simp -implicitDefEqProofs +decide (maxSteps := 999999) [-selQ_sel, hokQ_of, impl_copyScene_l0_S]
  refine Hid.brV (fun h_2 => ?_) (fun h_2 => ?_)
  ·replace H := HS.cnd_t h_2 H
   try simp -implicitDefEqProofs +decide (maxSteps := 999999) [-selQ_sel, hokQ_of, h_2]
   have hr := (HS.some H).symm; subst hr
   exact Hid.mk ⟨(impl_copyScene_l0_X a0 x4).2, Wk.ofk [0, 1, 2] hk (by rfl) (by simp -implicitDefEqProofs [impl_copyScene_l0_X, h_2]) (by simp -implicitDefEqProofs [impl_copyScene_l0_X, h_2]), hR⟩
  ·replace H := HS.cnd_f h_2 H
   try simp -implicitDefEqProofs +decide (maxSteps := 999999) [-selQ_sel, hokQ_of, h_2]
   obtain ⟨v5, h_3, H⟩ := HS.bnd H
   try simp -implicitDefEqProofs +decide (maxSteps := 999999) [-selQ_sel, hokQ_of, h_2, h_3]
   obtain ⟨v6, h_4, H⟩ := HS.bnd H
   try simp -implicitDefEqProofs +decide (maxSteps := 999999) [-selQ_sel, hokQ_of, h_2, h_3, h_4]
   obtain ⟨h_5, H⟩ := HS.chkP H
   try simp -implicitDefEqProofs +decide (maxSteps := 999999) [-selQ_sel, hokQ_of, h_2, h_3, h_4, h_5]
   obtain ⟨l7, h_6, H⟩ := HS.nam H
   have m_7 := congrArg (List.map eNode) h_6
   have q_8 := congrArg List.length h_6
   simp -implicitDefEqProofs at m_7 q_8
   try simp only [q_8] at m_7
   try simp only [q_8] at h_5
   try simp -implicitDefEqProofs +decide (maxSteps := 999999) [-selQ_sel, hokQ_of, h_2, h_3, h_4, h_5, m_7, q_8]
   have hr := (HS.some H).symm; subst hr
   exact Hid.mk ⟨impl_copyScene_l0_S a0 ((IntKind.i64.wrap (x3 + 1)), l7), Wk.ofk [0, 1, 2] hk (by rfl) (by simp -implicitDefEqProofs [impl_copyScene_l0_S, h_2, h_3, h_4, h_5, m_7, q_8]) (by simp -implicitDefEqProofs [impl_copyScene_l0_S, h_2, h_3, h_4, h_5, m_7, q_8]), hR⟩
 ·revert H h_1; revert q; intro y8 h_1 H
  try dsimp only at H
  try simp -implicitDefEqProofs +decide (maxSteps := 999999) [-selQ_sel, hokQ_of, impl_copyScene_l0_X]
  have hr := (HS.some H).symm; subst hr
  refine Hid.mk ⟨⟨[(2, AV.optr 0 0 1)], [(0, Ob.box [AV.osl 1 0 (List.length y8) (List.length y8)]), (1, Ob.arr 31 (List.map eNode y8) false)], 2⟩, Wk.ofk [0, 2] hk (by rfl) (by simp -implicitDefEqProofs []) (by simp -implicitDefEqProofs []), ?_⟩
  try simp -implicitDefEqProofs +decide (maxSteps := 999999) [-selQ_sel, hokQ_of]
theorem impl_pointsOk_ok0 (hm : Try.prog.follows .mixedOrders = true) (k_impl_PointOk : Sound Try.prog 220 impl_PointOk_x) : Sound Try.prog 218 impl_pointsOk_x := by
 refine xOf_sound fun q r h => ?_
 revert h; revert r; revert q; intro a0 r h
 refine fn_ok E0 hm Try.func218 rfl (by decide +kernel) (by rfl) fun Γ hn hk => ?_
 dsimp only [impl_pointsOk_e, impl_pointsOk_v]
 replace hn : Γ.n = 15 := hn
 replace hk : Γ.k = 0 := hk
 have H : HS (impl_pointsOk a0) r := h
 clear h; unfold impl_pointsOk at H
 try simp -implicitDefEqProofs at H
 refine Tr.of_vc (cl := tabC [(220, impl_PointOk_x)]) (E := E0) [] (tab_cons k_impl_PointOk tab_nil) hm (by rw [hn]; decide +kernel) ?_
 try simp -implicitDefEqProofs (maxSteps := 999999) [-selQ_sel]
 obtain ⟨q, h_1, H⟩ := HS.bnd H
 refine Hid.mk (Tr.weak (s' := (impl_pointsOk_l0_S a0) 0) (Wk.ofk [] hk (by rfl) (by simp -implicitDefEqProofs [impl_pointsOk_l0_S]) (by simp -implicitDefEqProofs [impl_pointsOk_l0_S])) ?_)
 refine wp_loop_of (S := (impl_pointsOk_l0_S a0)) (f := (impl_pointsOk_l0 a0)) (xt := (impl_pointsOk_l0_X a0)) ?_ ?_ h_1 ?_
 ·intro q; rcases q with ⟨⟩ | ⟨⟩ <;> simp [impl_pointsOk_l0_X]
 ·clear H h_1 q
  rintro x3 o R hf hR
  have H : HS (impl_pointsOk_l0 a0 x3) o := hf
  clear hf; unfold impl_pointsOk_l0 at H
  try simp -implicitDefEqProofs at H
  refine Tr.of_vc (cl := tabC [(220, impl_PointOk_x)]) (E := E0) [] (tab_cons k_impl_PointOk tab_nil) hm (by rw [hn]; decide +kernel) ?_
  try simp -implicitDefEqProofs (maxSteps := 999999) [-selQ_sel, impl_pointsOk_l0_S]
  refine Hid.brV (fun h_2 => ?_) (fun h_2 => ?_)
  ·replace H := HS.cnd_t h_2 H
   try simp -implicitDefEqProofs (maxSteps := 999999) [-selQ_sel, h_2]
   have hr := (HS.some H).symm; subst hr
   exact Hid.mk ⟨(impl_pointsOk_l0_X a0 (.inl ())).2, Wk.ofk [] hk (by rfl) (by simp -implicitDefEqProofs [impl_pointsOk_l0_X, h_2]) (by simp -implicitDefEqProofs [impl_pointsOk_l0_X, h_2]), hR⟩
  ·replace H := HS.cnd_f h_2 H
   try simp -implicitDefEqProofs (maxSteps := 999999) [-selQ_sel, h_2]
   obtain ⟨v4, h_3, H⟩ := HS.bnd H
   try simp -implicitDefEqProofs (maxSteps := 999999) [-selQ_sel, h_2, h_3]
   obtain ⟨v5, h_4, H⟩ := HS.bnd H
   try simp -implicitDefEqProofs (maxSteps := 999999) [-selQ_sel, h_2, h_3, h_4]
   refine Hid.brV (fun h_5 => ?_) (fun h_5 => ?_)
   ·replace H := HS.cnd_t h_5 H
    try simp -implicitDefEqProofs (maxSteps := 999999) [-selQ_sel, h_2, h_3, h_4, h_5]
    have hr := (HS.some H).symm; subst hr
    exact Hid.mk ⟨impl_pointsOk_l0_S a0 (IntKind.i64.wrap (x3 + 1)), Wk.ofk [] hk (by rfl) (by simp -implicitDefEqProofs [impl_pointsOk_l0_S, h_2, h_3, h_4, h_5]) (by simp -implicitDefEqProofs [impl_pointsOk_l0_S, h_2, h_3, h_4, h_5]), hR⟩
   ·replace H := HS.cnd_f h_5 H
    try simp -implicitDefEqProofs (maxSteps := 999999) [-selQ_sel, h_2, h_3, h_4, h_5]
    have hr := (HS.some H).symm; subst hr
    exact Hid.mk ⟨(impl_pointsOk_l0_X a0 (.inr ())).2, Wk.ofk [] hk (by rfl) (by simp -implicitDefEqProofs [impl_pointsOk_l0_X, h_2, h_3, h_4, h_5]) (by simp -implicitDefEqProofs [impl_pointsOk_l0_X, h_2, h_3, h_4, h_5]), hR⟩
 ·rcases q with ⟨⟩ | ⟨⟩
  ·dsimp only at H
   try simp -implicitDefEqProofs (maxSteps := 999999) [-selQ_sel, impl_pointsOk_l0_X]
   have hr := (HS.some H).symm; subst hr
   refine Hid.mk ⟨_, Wk.refl _, ?_⟩
   try simp -implicitDefEqProofs (maxSteps := 999999) [-selQ_sel]
  ·dsimp only at H
   try simp -implicitDefEqProofs (maxSteps := 999999) [-selQ_sel, impl_pointsOk_l0_X]
   have hr := (HS.some H).symm; subst hr
   refine Hid.mk ⟨_, Wk.refl _, ?_⟩
   try simp -implicitDefEqProofs (maxSteps := 999999) [-selQ_sel]
theorem spec_l04AnyMat_ok0 (hm : Try.prog.follows .mixedOrders = true) (k_spec_l04Mat : Sound Try.prog 173 spec_l04Mat_x) (k_spec_l01Below : Sound Try.prog 107 spec_l01Below_x) (k_spec_l01PickInt : Sound Try.prog 171 spec_l01PickInt_x) : Sound Try.prog 223 spec_l04AnyMat_x := by
 refine xOf_sound fun q r h => ?_
 revert h; revert r; revert q; intro a0 r h
 refine fn_ok E0 hm Try.func223 rfl (by decide +kernel) (by rfl) fun Γ hn hk => ?_
 dsimp only [spec_l04AnyMat_e, spec_l04AnyMat_v]
 replace hn : Γ.n = 24 := hn
 replace hk : Γ.k = 1 := hk
 have H : HS (spec_l04AnyMat a0) r := h
 clear h; unfold spec_l04AnyMat at H
 try simp -implicitDefEqProofs at H
 refine Tr.of_vc (cl := tabC [(173, spec_l04Mat_x), (107, spec_l01Below_x), (171, spec_l01PickInt_x)]) (E := E0) [] (tab_cons k_spec_l04Mat (tab_cons k_spec_l01Below (tab_cons k_spec_l01PickInt tab_nil))) hm (by rw [hn]; decide +kernel) ?_
 try simp -implicitDefEqProofs (maxSteps := 999999) [-selQ_sel]
 obtain ⟨⟨w2, w3⟩, h_1, H⟩ := HS.bnd H
 dsimp only at H
 try simp -implicitDefEqProofs (maxSteps := 999999) [-selQ_sel, h_1]
 obtain ⟨⟨w5, w6⟩, h_2, H⟩ := HS.bnd H
 dsimp only at H
 try simp -implicitDefEqProofs (maxSteps := 999999) [-selQ_sel, h_1, h_2]
 refine Hid.brV (fun h_3 => ?_) (fun h_3 => ?_)
 ·replace H := HS.cnd_t h_3 H
  try simp -implicitDefEqProofs (maxSteps := 999999) [-selQ_sel, h_1, h_2, h_3]
  obtain ⟨⟨w8, w9⟩, h_4, H⟩ := HS.bnd H
  dsimp only at H
  have k_5 := spec_l01PickInt_k w6.b w6.i w6.h [1048576, 1048577, (-1048577)]
  simp -implicitDefEqProofs [-spec_l01PickInt_k] at k_5
  try simp -implicitDefEqProofs (maxSteps := 999999) [-selQ_sel, h_1, h_2, h_3, h_4, k_5]
  have hr := (HS.some H).symm; subst hr
  refine Hid.mk ⟨_, Wk.refl _, ?_⟩
  try simp -implicitDefEqProofs (maxSteps := 999999) [-selQ_sel, h_1, h_2, h_3, h_4, k_5]
 ·replace H := HS.cnd_f h_3 H
  try simp -implicitDefEqProofs (maxSteps := 999999) [-selQ_sel, h_1, h_2, h_3]
  refine Hid.brV (fun h_6 => ?_) (fun h_6 => ?_)
  ·replace H := HS.cnd_t h_6 H
   try simp -implicitDefEqProofs (maxSteps := 999999) [-selQ_sel, h_1, h_2, h_3, h_6]
   obtain ⟨⟨w11, w12⟩, h_7, H⟩ := HS.bnd H
   dsimp only at H
   have k_8 := spec_l01PickInt_k w6.b w6.i w6.h [8388608, 8388609]
   simp -implicitDefEqProofs [-spec_l01PickInt_k] at k_8
   try simp -implicitDefEqProofs (maxSteps := 999999) [-selQ_sel, h_1, h_2, h_3, h_6, h_7, k_8]
   have hr := (HS.some H).symm; subst hr
   refine Hid.mk ⟨_, Wk.refl _, ?_⟩
   try simp -implicitDefEqProofs (maxSteps := 999999) [-selQ_sel, h_1, h_2, h_3, h_6, h_7, k_8]
  ·replace H := HS.cnd_f h_6 H
   try simp -implicitDefEqProofs (maxSteps := 999999) [-selQ_sel, h_1, h_2, h_3, h_6]
   refine Hid.brV (fun h_9 => ?_) (fun h_9 => ?_)
   ·replace H := HS.cnd_t h_9 H
    try simp -implicitDefEqProofs (maxSteps := 999999) [-selQ_sel, h_1, h_2, h_3, h_6, h_9]
    have hr := (HS.some H).symm; subst hr
    refine Hid.mk ⟨_, Wk.refl _, ?_⟩
    try simp -implicitDefEqProofs (maxSteps := 999999) [-selQ_sel, h_1, h_2, h_3, h_6, h_9]
   ·replace H := HS.cnd_f h_9 H
    try simp -implicitDefEqProofs (maxSteps := 999999) [-selQ_sel, h_1, h_2, h_3, h_6, h_9]
    have hr := (HS.some H).symm; subst hr
    refine Hid.mk ⟨_, Wk.refl _, ?_⟩
    try simp -implicitDefEqProofs (maxSteps := 999999) [-selQ_sel, h_1, h_2, h_3, h_6, h_9]
theorem impl_NeedOf_ok0 (hm : Try.prog.follows .mixedOrders = true) : Sound Try.prog 219 impl_NeedOf_x := by
 refine xOf_sound fun q r h => ?_
 revert h; revert r; revert q; intro a0 r h
 refine fn_ok E0 hm Try.func219 rfl (by decide +kernel) (by rfl) fun Γ hn hk => ?_
 dsimp only [impl_NeedOf_e, impl_NeedOf_v]
 replace hn : Γ.n = 13 := hn
 replace hk : Γ.k = 0 := hk
 have H : HS (impl_NeedOf a0) r := h
 clear h; unfold impl_NeedOf at H
 try simp -implicitDefEqProofs at H
 refine Tr.of_vc (cl := tabC []) (E := E0) [] tab_nil hm (by rw [hn]; decide +kernel) ?_
 try simp -implicitDefEqProofs (maxSteps := 999999) [-selQ_sel]
 refine Hid.brV (fun h_1 => ?_) (fun h_1 => ?_)
 ·replace H := HS.cnd_t h_1 H
  try simp -implicitDefEqProofs (maxSteps := 999999) [-selQ_sel, h_1]
  have hr := (HS.some H).symm; subst hr
  refine Hid.mk ⟨_, Wk.refl _, ?_⟩
  try simp -implicitDefEqProofs (maxSteps := 999999) [-selQ_sel, h_1]
 ·replace H := HS.cnd_f h_1 H
  try simp -implicitDefEqProofs (maxSteps := 999999) [-selQ_sel, h_1]
  refine Hid.brV (fun h_2 => ?_) (fun h_2 => ?_)
  ·replace H := HS.cnd_t h_2 H
   try simp -implicitDefEqProofs (maxSteps := 999999) [-selQ_sel, h_1, h_2]
   have hr := (HS.some H).symm; subst hr
   refine Hid.mk ⟨_, Wk.refl _, ?_⟩
   try simp -implicitDefEqProofs (maxSteps := 999999) [-selQ_sel, h_1, h_2]
  ·replace H := HS.cnd_f h_2 H
   try simp -implicitDefEqProofs (maxSteps := 999999) [-selQ_sel, h_1, h_2]
   refine Hid.brV (fun h_3 => ?_) (fun h_3 => ?_)
   ·replace H := HS.cnd_t h_3 H
    try simp -implicitDefEqProofs (maxSteps := 999999) [-selQ_sel, h_1, h_2, h_3]
    have hr := (HS.some H).symm; subst hr
    refine Hid.mk ⟨_, Wk.refl _, ?_⟩
    try simp -implicitDefEqProofs (maxSteps := 999999) [-selQ_sel, h_1, h_2, h_3]
   ·replace H := HS.cnd_f h_3 H
    try simp -implicitDefEqProofs (maxSteps := 999999) [-selQ_sel, h_1, h_2, h_3]
    refine Hid.brV (fun h_4 => ?_) (fun h_4 => ?_)
    ·replace H := HS.cnd_t h_4 H
     try simp -implicitDefEqProofs (maxSteps := 999999) [-selQ_sel, h_1, h_2, h_3, h_4]
     have hr := (HS.some H).symm; subst hr
     refine Hid.mk ⟨_, Wk.refl _, ?_⟩
     try simp -implicitDefEqProofs (maxSteps := 999999) [-selQ_sel, h_1, h_2, h_3, h_4]
    ·replace H := HS.cnd_f h_4 H
     try simp -implicitDefEqProofs (maxSteps := 999999) [-selQ_sel, h_1, h_2, h_3, h_4]
     refine Hid.brV (fun h_5 => ?_) (fun h_5 => ?_)
     ·replace H := HS.cnd_t h_5 H
      try simp -implicitDefEqProofs (maxSteps := 999999) [-selQ_sel, h_1, h_2, h_3, h_4, h_5]
      have hr := (HS.some H).symm; subst hr
      refine Hid.mk ⟨_, Wk.refl _, ?_⟩
      try simp -implicitDefEqProofs (maxSteps := 999999) [-selQ_sel, h_1, h_2, h_3, h_4, h_5]
     ·replace H := HS.cnd_f h_5 H
      try simp -implicitDefEqProofs (maxSteps := 999999) [-selQ_sel, h_1, h_2, h_3, h_4, h_5]
      have hr := (HS.some H).symm; subst hr
      refine Hid.mk ⟨_, Wk.refl _, ?_⟩
      try simp -implicitDefEqProofs (maxSteps := 999999) [-selQ_sel, h_1, h_2, h_3, h_4, h_5]
theorem spec_l12Paint_ok0 (hm : Try.prog.follows .mixedOrders = true) (k_spec_l12Color : Sound Try.prog 216 spec_l12Color_x) (k_spec_l01Once : Sound Try.prog 170 spec_l01Once_x) (k_spec_l04Point : Sound Try.prog 214 spec_l04Point_x) : Sound Try.prog 174 spec_l12Paint_x := by
 refine xOf_sound fun q r h => ?_
 revert h; revert r; revert q; intro a0 r h
 refine fn_ok E0 hm Try.func174 rfl (by decide +kernel) (by rfl) fun Γ hn hk => ?_
 dsimp only [spec_l12Paint_e, spec_l12Paint_v]
 replace hn : Γ.n = 31 := hn
 replace hk : Γ.k = 1 := hk
 have H : HS (spec_l12Paint a0) r := h
 clear h; unfold spec_l12Paint at H
 try simp -implicitDefEqProofs at H
 refine Tr.of_vc (cl := tabC [(216, spec_l12Color_x), (170, spec_l01Once_x), (214, spec_l04Point_x)]) (E := E0) [] (tab_cons k_spec_l12Color (tab_cons k_spec_l01Once (tab_cons k_spec_l04Point tab_nil))) hm (by rw [hn]; decide +kernel) ?_
 try simp -implicitDefEqProofs (maxSteps := 999999) [-selQ_sel]
 obtain ⟨⟨w2, w3⟩, h_1, H⟩ := HS.bnd H
 dsimp only at H
 try simp -implicitDefEqProofs (maxSteps := 999999) [-selQ_sel, h_1]
 obtain ⟨⟨w5, w6⟩, h_2, H⟩ := HS.bnd H
 dsimp only at H
 try simp -implicitDefEqProofs (maxSteps := 999999) [-selQ_sel, h_1, h_2]
 refine Hid.brV (fun h_3 => ?_) (fun h_3 => ?_)
 ·replace H := HS.cnd_t h_3 H
  try simp -implicitDefEqProofs (maxSteps := 999999) [-selQ_sel, h_1, h_2, h_3]
  obtain ⟨⟨w8, w9⟩, h_4, H⟩ := HS.bnd H
  dsimp only at H
  try simp -implicitDefEqProofs (maxSteps := 999999) [-selQ_sel, h_1, h_2, h_3, h_4]
  obtain ⟨⟨w11, w12⟩, h_5, H⟩ := HS.bnd H
  dsimp only at H
  try simp -implicitDefEqProofs (maxSteps := 999999) [-selQ_sel, h_1, h_2, h_3, h_4, h_5]
  obtain ⟨⟨w14, w15⟩, h_6, H⟩ := HS.bnd H
  dsimp only at H
  try simp -implicitDefEqProofs (maxSteps := 999999) [-selQ_sel, h_1, h_2, h_3, h_4, h_5, h_6]
  refine Hid.brV (fun h_7 => ?_) (fun h_7 => ?_)
  ·replace H := HS.cnd_t h_7 H
   try simp -implicitDefEqProofs (maxSteps := 999999) [-selQ_sel, h_1, h_2, h_3, h_4, h_5, h_6, h_7]
   have hr := (HS.some H).symm; subst hr
   refine Hid.mk ⟨_, Wk.refl _, ?_⟩
   try simp -implicitDefEqProofs (maxSteps := 999999) [-selQ_sel, h_1, h_2, h_3, h_4, h_5, h_6, h_7]
  ·replace H := HS.cnd_f h_7 H
   try simp -implicitDefEqProofs (maxSteps := 999999) [-selQ_sel, h_1, h_2, h_3, h_4, h_5, h_6, h_7]
   have hr := (HS.some H).symm; subst hr
   refine Hid.mk ⟨_, Wk.refl _, ?_⟩
   try simp -implicitDefEqProofs (maxSteps := 999999) [-selQ_sel, h_1, h_2, h_3, h_4, h_5, h_6, h_7]
 ·replace H := HS.cnd_f h_3 H
  try simp -implicitDefEqProofs (maxSteps := 999999) [-selQ_sel, h_1, h_2, h_3]
  have hr := (HS.some H).symm; subst hr
  refine Hid.mk ⟨_, Wk.refl _, ?_⟩
  try simp -implicitDefEqProofs (maxSteps := 999999) [-selQ_sel, h_1, h_2, h_3]
theorem impl_Scene_isParent_ok0 (hm : Try.prog.follows .mixedOrders = true) (k_impl_NodeAt : Sound Try.prog 53 impl_NodeAt_x) : Sound Try.prog 113 impl_Scene_isParent_x := by
 refine xOf_sound fun q r h => ?_
 obtain ⟨a0, a1⟩ := q
 refine fn_ok E0 hm Try.func113 rfl (by decide +kernel) (by rfl) fun Γ hn hk => ?_
 dsimp only [impl_Scene_isParent_e, impl_Scene_isParent_v]
 replace hn : Γ.n = 27 := hn
 replace hk : Γ.k = 0 := hk
 have H : HS (impl_Scene_isParent a0 a1) r := h
 clear h; unfold impl_Scene_isParent at H
 try simp -implicitDefEqProofs at H
 refine Tr.of_vc (cl := tabC [(53, impl_NodeAt_x)]) (E := E0) [] (tab_cons k_impl_NodeAt tab_nil) hm (by rw [hn]; decide +kernel) ?_
 try simp -implicitDefEqProofs (maxSteps := 999999) [-selQ_sel]
 obtain ⟨v1, h_1, H⟩ := HS.bnd H
 try simp -implicitDefEqProofs (maxSteps := 999999) [-selQ_sel, h_1]
 refine Hid.selQ (fun h_2 => ?_) (fun h_2 => ?_)
 ·replace H := HS.cnd_t h_2 H
  try simp -implicitDefEqProofs (maxSteps := 999999) [-selQ_sel, h_1, h_2]
  have hr := (HS.some H).symm; subst hr
  refine Hid.mk ⟨_, Wk.refl _, ?_⟩
  try simp -implicitDefEqProofs (maxSteps := 999999) [-selQ_sel, h_1, h_2]
 ·replace H := HS.cnd_f h_2 H
  try simp -implicitDefEqProofs (maxSteps := 999999) [-selQ_sel, h_1, h_2]
  refine Hid.selQ (fun h_3 => ?_) (fun h_3 => ?_)
  ·replace H := HS.cnd_t h_3 H
   try simp -implicitDefEqProofs (maxSteps := 999999) [-selQ_sel, h_1, h_2, h_3]
   obtain ⟨v2, h_4, H⟩ := HS.bnd H
   try simp -implicitDefEqProofs (maxSteps := 999999) [-selQ_sel, h_1, h_2, h_3, h_4]
   have hr := (HS.some H).symm; subst hr
   refine Hid.mk ⟨_, Wk.refl _, ?_⟩
   try simp -implicitDefEqProofs (maxSteps := 999999) [-selQ_sel, h_1, h_2, h_3, h_4]
  ·replace H := HS.cnd_f h_3 H
   try simp -implicitDefEqProofs (maxSteps := 999999) [-selQ_sel, h_1, h_2, h_3]
   have hr := (HS.some H).symm; subst hr
   refine Hid.mk ⟨_, Wk.refl _, ?_⟩
   try simp -implicitDefEqProofs (maxSteps := 999999) [-selQ_sel, h_1, h_2, h_3]
theorem spec_NeedOf_ok0 (hm : Try.prog.follows .mixedOrders = true) (k_spec_l01In : Sound Try.prog 91 spec_l01In_x) : Sound Try.prog 212 spec_NeedOf_x := by
 refine xOf_sound fun q r h => ?_
 revert h; revert r; revert q; intro a0 r h
 refine fn_ok E0 hm Try.func212 rfl (by decide +kernel) (by rfl) fun Γ hn hk => ?_
 dsimp only [spec_NeedOf_e, spec_NeedOf_v]
 replace hn : Γ.n = 13 := hn
 replace hk : Γ.k = 0 := hk
 have H : HS (spec_NeedOf a0) r := h
 clear h; unfold spec_NeedOf at H
 try simp -implicitDefEqProofs at H
 refine Tr.of_vc (cl := tabC [(91, spec_l01In_x)]) (E := E0) [] (tab_cons k_spec_l01In tab_nil) hm (by rw [hn]; decide +kernel) ?_
 try simp -implicitDefEqProofs (maxSteps := 999999) [-selQ_sel]
 obtain ⟨v1, h_1, H⟩ := HS.bnd H
 try simp -implicitDefEqProofs (maxSteps := 999999) [-selQ_sel, h_1]
 refine Hid.brV (fun h_2 => ?_) (fun h_2 => ?_)
 ·replace H := HS.cnd_t h_2 H
  try simp -implicitDefEqProofs (maxSteps := 999999) [-selQ_sel, h_1, h_2]
  obtain ⟨v2, h_3, H⟩ := HS.bnd H
  have g_4 := idx_get h_3
  have g_5 := idx_map (e := (AV.int .i64)) h_3
  have g_6 := idx_get g_5
  simp -implicitDefEqProofs at g_5 g_6
  try simp -implicitDefEqProofs (maxSteps := 999999) [-selQ_sel, h_1, h_2, h_3, g_4, g_5, g_6]
  have hr := (HS.some H).symm; subst hr
  refine Hid.mk ⟨_, Wk.refl _, ?_⟩
  try simp -implicitDefEqProofs (maxSteps := 999999) [-selQ_sel, h_1, h_2, h_3, g_4, g_5, g_6]
 ·replace H := HS.cnd_f h_2 H
  try simp -implicitDefEqProofs (maxSteps := 999999) [-selQ_sel, h_1, h_2]
  have hr := (HS.some H).symm; subst hr
  refine Hid.mk ⟨_, Wk.refl _, ?_⟩
  try simp -implicitDefEqProofs (maxSteps := 999999) [-selQ_sel, h_1, h_2]
theorem impl_PointOk_ok0 (hm : Try.prog.follows .mixedOrders = true) (k_impl_isFar : Sound Try.prog 217 impl_isFar_x) : Sound Try.prog 220 impl_PointOk_x := by
 refine xOf_sound fun q r h => ?_
 revert h; revert r; revert q; intro a0 r h
 refine fn_ok E0 hm Try.func220 rfl (by decide +kernel) (by rfl) fun Γ hn hk => ?_
 dsimp only [impl_PointOk_e, impl_PointOk_v]
 replace hn : Γ.n = 11 := hn
 replace hk : Γ.k = 0 := hk
 have H : HS (impl_PointOk a0) r := h
 clear h; unfold impl_PointOk at H
 try simp -implicitDefEqProofs at H
 refine Tr.of_vc (cl := tabC [(217, impl_isFar_x)]) (E := E0) [] (tab_cons k_impl_isFar tab_nil) hm (by rw [hn]; decide +kernel) ?_
 try simp -implicitDefEqProofs (maxSteps := 999999) [-selQ_sel]
 obtain ⟨v1, h_1, H⟩ := HS.bnd H
 try simp -implicitDefEqProofs (maxSteps := 999999) [-selQ_sel, h_1]
 refine Hid.selQ (fun h_2 => ?_) (fun h_2 => ?_)
 ·replace H := HS.cnd_t h_2 H
  try simp -implicitDefEqProofs (maxSteps := 999999) [-selQ_sel, h_1, h_2]
  obtain ⟨v2, h_3, H⟩ := HS.bnd H
  try simp -implicitDefEqProofs (maxSteps := 999999) [-selQ_sel, h_1, h_2, h_3]
  have hr := (HS.some H).symm; subst hr
  refine Hid.mk ⟨_, Wk.refl _, ?_⟩
  try simp -implicitDefEqProofs (maxSteps := 999999) [-selQ_sel, h_1, h_2, h_3]
 ·replace H := HS.cnd_f h_2 H
  try simp -implicitDefEqProofs (maxSteps := 999999) [-selQ_sel, h_1, h_2]
  have hr := (HS.some H).symm; subst hr
  refine Hid.mk ⟨_, Wk.refl _, ?_⟩
  try simp -implicitDefEqProofs (maxSteps := 999999) [-selQ_sel, h_1, h_2]
theorem spec_PointOk_ok0 (hm : Try.prog.follows .mixedOrders = true) (k_spec_l01In : Sound Try.prog 91 spec_l01In_x) : Sound Try.prog 222 spec_PointOk_x := by
 refine xOf_sound fun q r h => ?_
 revert h; revert r; revert q; intro a0 r h
 refine fn_ok E0 hm Try.func222 rfl (by decide +kernel) (by rfl) fun Γ hn hk => ?_
 dsimp only [spec_PointOk_e, spec_PointOk_v]
 replace hn : Γ.n = 11 := hn
 replace hk : Γ.k = 0 := hk
 have H : HS (spec_PointOk a0) r := h
 clear h; unfold spec_PointOk at H
 try simp -implicitDefEqProofs at H
 refine Tr.of_vc (cl := tabC [(91, spec_l01In_x)]) (E := E0) [] (tab_cons k_spec_l01In tab_nil) hm (by rw [hn]; decide +kernel) ?_
 try simp -implicitDefEqProofs (maxSteps := 999999) [-selQ_sel]
 obtain ⟨v1, h_1, H⟩ := HS.bnd H
 try simp -implicitDefEqProofs (maxSteps := 999999) [-selQ_sel, h_1]
 refine Hid.selQ (fun h_2 => ?_) (fun h_2 => ?_)
 ·replace H := HS.cnd_t h_2 H
  try simp -implicitDefEqProofs (maxSteps := 999999) [-selQ_sel, h_1, h_2]
  obtain ⟨v2, h_3, H⟩ := HS.bnd H
  try simp -implicitDefEqProofs (maxSteps := 999999) [-selQ_sel, h_1, h_2, h_3]
  have hr := (HS.some H).symm; subst hr
  refine Hid.mk ⟨_, Wk.refl _, ?_⟩
  try simp -implicitDefEqProofs (maxSteps := 999999) [-selQ_sel, h_1, h_2, h_3]
 ·replace H := HS.cnd_f h_2 H
  try simp -implicitDefEqProofs (maxSteps := 999999) [-selQ_sel, h_1, h_2]
  have hr := (HS.some H).symm; subst hr
  refine Hid.mk ⟨_, Wk.refl _, ?_⟩
  try simp -implicitDefEqProofs (maxSteps := 999999) [-selQ_sel, h_1, h_2]
theorem impl_copyNode_ok0 (hm : Try.prog.follows .mixedOrders = true) (k_impl_copyPath : Sound Try.prog 182 impl_copyPath_x) (k_slices_Clone_int : Sound Try.prog 165 slices_Clone_int_x) : Sound Try.prog 115 impl_copyNode_x := by
 refine xOf_sound fun q r h => ?_
 revert h; revert r; revert q; intro a0 r h
 refine fn_ok E0 hm Try.func115 rfl (by decide +kernel) (by rfl) fun Γ hn hk => ?_
 dsimp only [impl_copyNode_e, impl_copyNode_v]
 replace hn : Γ.n = 16 := hn
 replace hk : Γ.k = 0 := hk
 have H : HS (impl_copyNode a0) r := h
 clear h; unfold impl_copyNode at H
 try simp -implicitDefEqProofs at H
 refine Tr.of_vc (cl := tabC [(182, impl_copyPath_x), (165, slices_Clone_int_x)]) (E := E0) [] (tab_cons k_impl_copyPath (tab_cons k_slices_Clone_int tab_nil)) hm (by rw [hn]; decide +kernel) ?_
 try simp -implicitDefEqProofs +decide (maxSteps := 999999) [-selQ_sel, hokQ_of]
 obtain ⟨v1, h_1, H⟩ := HS.bnd H
 try simp -implicitDefEqProofs +decide (maxSteps := 999999) [-selQ_sel, hokQ_of, h_1]
 obtain ⟨v2, h_2, H⟩ := HS.bnd H
 try simp -implicitDefEqProofs +decide (maxSteps := 999999) [-selQ_sel, hokQ_of, h_1, h_2]
 obtain ⟨v3, h_3, H⟩ := HS.bnd H
 try simp -implicitDefEqProofs +decide (maxSteps := 999999) [-selQ_sel, hokQ_of, h_1, h_2, h_3]
 have hr := (HS.some H).symm; subst hr
 refine Hid.mk ⟨_, Wk.refl _, ?_⟩
 try simp -implicitDefEqProofs +decide (maxSteps := 999999) [-selQ_sel, hokQ_of, h_1, h_2, h_3]
theorem spec_Empty_ok0 (hm : Try.prog.follows .mixedOrders = true) : Sound Try.prog 205 spec_Empty_x := by
 refine xOf_sound fun q r h => ?_
 revert h; revert r; revert q; intro a0 r h
 refine fn_ok E0 hm Try.func205 rfl (by decide +kernel) (by rfl) fun Γ hn hk => ?_
 dsimp only [spec_Empty_e, spec_Empty_v]
 replace hn : Γ.n = 15 := hn
 replace hk : Γ.k = 0 := hk
 have H : HS (spec_Empty a0) r := h
 clear h; unfold spec_Empty at H
 try simp -implicitDefEqProofs at H
 refine Tr.of_vc (cl := tabC []) (E := E0) [] tab_nil hm (by rw [hn]; decide +kernel) ?_
 try simp -implicitDefEqProofs (maxSteps := 999999) [-selQ_sel]
 refine Hid.selQ (fun h_1 => ?_) (fun h_1 => ?_)
 ·replace H := HS.cnd_t h_1 H
  try simp -implicitDefEqProofs (maxSteps := 999999) [-selQ_sel, h_1]
  have hr := (HS.some H).symm; subst hr
  refine Hid.mk ⟨_, Wk.refl _, ?_⟩
  try simp -implicitDefEqProofs (maxSteps := 999999) [-selQ_sel, h_1]
 ·replace H := HS.cnd_f h_1 H
  try simp -implicitDefEqProofs (maxSteps := 999999) [-selQ_sel, h_1]
  have hr := (HS.some H).symm; subst hr
  refine Hid.mk ⟨_, Wk.refl _, ?_⟩
  try simp -implicitDefEqProofs (maxSteps := 999999) [-selQ_sel, h_1]
theorem spec_l01In_ok0 (hm : Try.prog.follows .mixedOrders = true) : Sound Try.prog 91 spec_l01In_x := by
 refine xOf_sound fun q r h => ?_
 obtain ⟨a0, a1, a2⟩ := q
 refine fn_ok E0 hm Try.func91 rfl (by decide +kernel) (by rfl) fun Γ hn hk => ?_
 dsimp only [spec_l01In_e, spec_l01In_v]
 replace hn : Γ.n = 15 := hn
 replace hk : Γ.k = 0 := hk
 have H : HS (spec_l01In a0 a1 a2) r := h
 clear h; unfold spec_l01In at H
 try simp -implicitDefEqProofs at H
 refine Tr.of_vc (cl := tabC []) (E := E0) [] tab_nil hm (by rw [hn]; decide +kernel) ?_
 try simp -implicitDefEqProofs (maxSteps := 999999) [-selQ_sel]
 refine Hid.selQ (fun h_1 => ?_) (fun h_1 => ?_)
 ·replace H := HS.cnd_t h_1 H
  try simp -implicitDefEqProofs (maxSteps := 999999) [-selQ_sel, h_1]
  have hr := (HS.some H).symm; subst hr
  refine Hid.mk ⟨_, Wk.refl _, ?_⟩
  try simp -implicitDefEqProofs (maxSteps := 999999) [-selQ_sel, h_1]
 ·replace H := HS.cnd_f h_1 H
  try simp -implicitDefEqProofs (maxSteps := 999999) [-selQ_sel, h_1]
  have hr := (HS.some H).symm; subst hr
  refine Hid.mk ⟨_, Wk.refl _, ?_⟩
  try simp -implicitDefEqProofs (maxSteps := 999999) [-selQ_sel, h_1]
theorem impl_NodeAt_ok0 (hm : Try.prog.follows .mixedOrders = true) (k_slices_IndexFunc_Node_NodeAt_1 : Sound Try.prog 127 slices_IndexFunc_Node_NodeAt_1_x) : Sound Try.prog 53 impl_NodeAt_x := by
 refine xOf_sound fun q r h => ?_
 obtain ⟨a0, a1⟩ := q
 refine fn_ok E0 hm Try.func53 rfl (by decide +kernel) (by rfl) fun Γ hn hk => ?_
 dsimp only [impl_NodeAt_e, impl_NodeAt_v]
 replace hn : Γ.n = 9 := hn
 replace hk : Γ.k = 0 := hk
 have H : HS (impl_NodeAt a0 a1) r := h
 clear h; unfold impl_NodeAt at H
 try simp -implicitDefEqProofs at H
 refine Tr.of_vc (cl := tabC [(127, slices_IndexFunc_Node_NodeAt_1_x)]) (E := E0) [] (tab_cons k_slices_IndexFunc_Node_NodeAt_1 tab_nil) hm (by rw [hn]; decide +kernel) ?_
 try simp -implicitDefEqProofs (maxSteps := 999999) [-selQ_sel]
 obtain ⟨v1, h_1, H⟩ := HS.bnd H
 try simp -implicitDefEqProofs (maxSteps := 999999) [-selQ_sel, h_1]
 have hr := (HS.some H).symm; subst hr
 refine Hid.mk ⟨_, Wk.refl _, ?_⟩
 try simp -implicitDefEqProofs (maxSteps := 999999) [-selQ_sel, h_1]
theorem impl_isMode_ok0 (hm : Try.prog.follows .mixedOrders = true) (k_impl_inRange : Sound Try.prog 95 impl_inRange_x) : Sound Try.prog 178 impl_isMode_x := by
 refine xOf_sound fun q r h => ?_
 revert h; revert r; revert q; intro a0 r h
 refine fn_ok E0 hm Try.func178 rfl (by decide +kernel) (by rfl) fun Γ hn hk => ?_
 dsimp only [impl_isMode_e, impl_isMode_v]
 replace hn : Γ.n = 5 := hn
 replace hk : Γ.k = 0 := hk
 have H : HS (impl_isMode a0) r := h
 clear h; unfold impl_isMode at H
 try simp -implicitDefEqProofs at H
 refine Tr.of_vc (cl := tabC [(95, impl_inRange_x)]) (E := E0) [] (tab_cons k_impl_inRange tab_nil) hm (by rw [hn]; decide +kernel) ?_
 try simp -implicitDefEqProofs (maxSteps := 999999) [-selQ_sel]
 obtain ⟨v1, h_1, H⟩ := HS.bnd H
 try simp -implicitDefEqProofs (maxSteps := 999999) [-selQ_sel, h_1]
 have hr := (HS.some H).symm; subst hr
 refine Hid.mk ⟨_, Wk.refl _, ?_⟩
 try simp -implicitDefEqProofs (maxSteps := 999999) [-selQ_sel, h_1]
theorem impl_isFar_ok0 (hm : Try.prog.follows .mixedOrders = true) (k_impl_inRange : Sound Try.prog 95 impl_inRange_x) : Sound Try.prog 217 impl_isFar_x := by
 refine xOf_sound fun q r h => ?_
 revert h; revert r; revert q; intro a0 r h
 refine fn_ok E0 hm Try.func217 rfl (by decide +kernel) (by rfl) fun Γ hn hk => ?_
 dsimp only [impl_isFar_e, impl_isFar_v]
 replace hn : Γ.n = 5 := hn
 replace hk : Γ.k = 0 := hk
 have H : HS (impl_isFar a0) r := h
 clear h; unfold impl_isFar at H
 try simp -implicitDefEqProofs at H
 refine Tr.of_vc (cl := tabC [(95, impl_inRange_x)]) (E := E0) [] (tab_cons k_impl_inRange tab_nil) hm (by rw [hn]; decide +kernel) ?_
 try simp -implicitDefEqProofs (maxSteps := 999999) [-selQ_sel]
 obtain ⟨v1, h_1, H⟩ := HS.bnd H
 try simp -implicitDefEqProofs (maxSteps := 999999) [-selQ_sel, h_1]
 have hr := (HS.some H).symm; subst hr
 refine Hid.mk ⟨_, Wk.refl _, ?_⟩
 try simp -implicitDefEqProofs (maxSteps := 999999) [-selQ_sel, h_1]
theorem spec_Still_ok0 (hm : Try.prog.follows .mixedOrders = true) : Sound Try.prog 172 spec_Still_x := by
 refine xOf_sound fun q r h => ?_
 refine fn_ok E0 hm Try.func172 rfl (by decide +kernel) (by rfl) fun Γ hn hk => ?_
 dsimp only [spec_Still_e, spec_Still_v]
 replace hn : Γ.n = 2 := hn
 replace hk : Γ.k = 0 := hk
 have H : HS (spec_Still) r := h
 clear h; unfold spec_Still at H
 try simp -implicitDefEqProofs at H
 refine Tr.of_vc (cl := tabC []) (E := E0) [] tab_nil hm (by rw [hn]; decide +kernel) ?_
 try simp -implicitDefEqProofs (maxSteps := 999999) [-selQ_sel]
 have hr := (HS.some H).symm; subst hr
 refine Hid.mk ⟨_, Wk.refl _, ?_⟩
 try simp -implicitDefEqProofs (maxSteps := 999999) [-selQ_sel]
end Go.Proofs.Ytafljhadfoaceaa.Am
