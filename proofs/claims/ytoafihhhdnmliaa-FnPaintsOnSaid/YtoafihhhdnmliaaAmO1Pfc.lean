import Derived.Test.YtoafihhhdnmliaaAmO1Mo
set_option linter.unusedVariables false
set_option linter.unusedSimpArgs false
set_option linter.unusedSectionVars false
namespace Go.Proofs.Ytoafihhhdnmliaa.Am
open Go Go.Proofs
set_option maxRecDepth 100000
set_option linter.unusedSimpArgs false
set_option linter.unusedVariables false
set_option maxHeartbeats 4000000
theorem laws_FnPaintsOn_ok0 (hm : Try.prog.follows .mixedOrders = true) (k_laws_big : Sound Try.prog 28 laws_big_x) (k_spec_DrawRightSurface : Sound Try.prog 29 spec_DrawRightSurface_x) (k_spec_DrawMasks : Sound Try.prog 37 spec_DrawMasks_x) (k_spec_DrawSlope : Sound Try.prog 38 spec_DrawSlope_x) (k_spec_DrawPlaces : Sound Try.prog 32 spec_DrawPlaces_x) (k_impl_PaintMask : Sound Try.prog 39 impl_PaintMask_x) (k_impl_SurfaceOk : Sound Try.prog 34 impl_SurfaceOk_x) (k_spec_BitsAt : Sound Try.prog 40 spec_BitsAt_x) (k_impl_PixelAt : Sound Try.prog 41 impl_PixelAt_x) (k_spec_ColorAt : Sound Try.prog 45 spec_ColorAt_x) (k_spec_CountOf : Sound Try.prog 46 spec_CountOf_x) (k_spec_Thin : Sound Try.prog 44 spec_Thin_x) (k_spec_Fade : Sound Try.prog 43 spec_Fade_x) (k_spec_Blend : Sound Try.prog 42 spec_Blend_x) (k_impl_SameSurface : Sound Try.prog 33 impl_SameSurface_x) : Sound Try.prog 7 laws_FnPaintsOn_x := by
  refine xOf_sound fun q r h => ?_
  revert h; revert r; revert q; intro a0 r h
  refine fn_ok E0 hm Try.func7 rfl (by decide +kernel) (by rfl) fun Γ hn hk => ?_
  dsimp only [laws_FnPaintsOn_e, laws_FnPaintsOn_v]
  replace hn : Γ.n = 117 := hn
  replace hk : Γ.k = 0 := hk
  have H : HS (laws_FnPaintsOn a0) r := h
  clear h; unfold laws_FnPaintsOn at H
  try simp -implicitDefEqProofs at H
  refine Tr.of_vc (cl := tabC [(28, laws_big_x), (29, spec_DrawRightSurface_x), (37, spec_DrawMasks_x), (38, spec_DrawSlope_x), (32, spec_DrawPlaces_x), (39, impl_PaintMask_x), (34, impl_SurfaceOk_x), (40, spec_BitsAt_x), (41, impl_PixelAt_x), (45, spec_ColorAt_x), (46, spec_CountOf_x), (44, spec_Thin_x), (43, spec_Fade_x), (42, spec_Blend_x), (33, impl_SameSurface_x)]) (E := E0) [] (tab_cons k_laws_big (tab_cons k_spec_DrawRightSurface (tab_cons k_spec_DrawMasks (tab_cons k_spec_DrawSlope (tab_cons k_spec_DrawPlaces (tab_cons k_impl_PaintMask (tab_cons k_impl_SurfaceOk (tab_cons k_spec_BitsAt (tab_cons k_impl_PixelAt (tab_cons k_spec_ColorAt (tab_cons k_spec_CountOf (tab_cons k_spec_Thin (tab_cons k_spec_Fade (tab_cons k_spec_Blend (tab_cons k_impl_SameSurface tab_nil))))))))))))))) hm (by rw [hn]; decide +kernel) ?_
  try simp -implicitDefEqProofs +decide (maxSteps := 2000000) [-selQ_sel, hokQ_of]
  obtain ⟨v1, h_1, H⟩ := HS.bnd H
  try simp -implicitDefEqProofs +decide (maxSteps := 2000000) [-selQ_sel, hokQ_of, h_1]
  refine Hid.brV (fun h_2 => ?_) (fun h_2 => ?_)
  · replace H := HS.cnd_t h_2 H
    try simp -implicitDefEqProofs +decide (maxSteps := 2000000) [-selQ_sel, hokQ_of, h_1, h_2]
    have hr := (HS.some H).symm; subst hr
    refine Hid.mk ⟨_, Wk.refl _, ?_⟩
    try simp -implicitDefEqProofs +decide (maxSteps := 2000000) [-selQ_sel, hokQ_of, h_1, h_2]
  · replace H := HS.cnd_f h_2 H
    try simp -implicitDefEqProofs +decide (maxSteps := 2000000) [-selQ_sel, hokQ_of, h_1, h_2]
    obtain ⟨v2, h_3, H⟩ := HS.bnd H
    try simp -implicitDefEqProofs +decide (maxSteps := 2000000) [-selQ_sel, hokQ_of, h_1, h_2, h_3]
    obtain ⟨⟨w4, w5⟩, h_4, H⟩ := HS.bnd H
    dsimp only at H
    try simp -implicitDefEqProofs +decide (maxSteps := 2000000) [-selQ_sel, hokQ_of, h_1, h_2, h_3, h_4]
    obtain ⟨v6, h_5, H⟩ := HS.bnd H
    try simp -implicitDefEqProofs +decide (maxSteps := 2000000) [-selQ_sel, hokQ_of, h_1, h_2, h_3, h_4, h_5]
    obtain ⟨v7, h_6, H⟩ := HS.bnd H
    try simp -implicitDefEqProofs +decide (maxSteps := 2000000) [-selQ_sel, hokQ_of, h_1, h_2, h_3, h_4, h_5, h_6]
    obtain ⟨v8, h_7, H⟩ := HS.bnd H
    try simp -implicitDefEqProofs +decide (maxSteps := 2000000) [-selQ_sel, hokQ_of, h_1, h_2, h_3, h_4, h_5, h_6, h_7]
    obtain ⟨v9, h_8, H⟩ := HS.bnd H
    try simp -implicitDefEqProofs +decide (maxSteps := 2000000) [-selQ_sel, hokQ_of, h_1, h_2, h_3, h_4, h_5, h_6, h_7, h_8]
    obtain ⟨⟨w11, w12, w13⟩, h_9, H⟩ := HS.bnd H
    dsimp only at H
    try simp -implicitDefEqProofs +decide (maxSteps := 2000000) [-selQ_sel, hokQ_of, h_1, h_2, h_3, h_4, h_5, h_6, h_7, h_8, h_9]
    obtain ⟨v14, h_10, H⟩ := HS.bnd H
    have k_11 := impl_SurfaceOk_k ((TSurface.mk w11 w12 w13).w) ((TSurface.mk w11 w12 w13).h) ((TSurface.mk w11 w12 w13).pix)
    simp -implicitDefEqProofs [-impl_SurfaceOk_k] at k_11
    try simp -implicitDefEqProofs +decide (maxSteps := 2000000) [-selQ_sel, hokQ_of, h_1, h_2, h_3, h_4, h_5, h_6, h_7, h_8, h_9, h_10, k_11]
    refine Hid.selQ (fun h_12 => ?_) (fun h_12 => ?_)
    · replace H := HS.cnd_t h_12 H
      try simp -implicitDefEqProofs +decide (maxSteps := 2000000) [-selQ_sel, hokQ_of, h_1, h_2, h_3, h_4, h_5, h_6, h_7, h_8, h_9, h_10, k_11, h_12]
      obtain ⟨v15, h_13, H⟩ := HS.bnd H
      try simp -implicitDefEqProofs +decide (maxSteps := 2000000) [-selQ_sel, hokQ_of, h_1, h_2, h_3, h_4, h_5, h_6, h_7, h_8, h_9, h_10, k_11, h_12, h_13]
      refine Hid.selQ (fun h_14 => ?_) (fun h_14 => ?_)
      · replace H := HS.cnd_t h_14 H
        try simp -implicitDefEqProofs +decide (maxSteps := 2000000) [-selQ_sel, hokQ_of, h_1, h_2, h_3, h_4, h_5, h_6, h_7, h_8, h_9, h_10, k_11, h_12, h_13, h_14]
        refine Hid.selQ (fun h_15 => ?_) (fun h_15 => ?_)
        · replace H := HS.cnd_t h_15 H
          try simp -implicitDefEqProofs +decide (maxSteps := 2000000) [-selQ_sel, hokQ_of, h_1, h_2, h_3, h_4, h_5, h_6, h_7, h_8, h_9, h_10, k_11, h_12, h_13, h_14, h_15]
          refine Hid.brV (fun h_16 => ?_) (fun h_16 => ?_)
          · replace H := HS.cnd_t h_16 H
            try simp -implicitDefEqProofs +decide (maxSteps := 2000000) [-selQ_sel, hokQ_of, h_1, h_2, h_3, h_4, h_5, h_6, h_7, h_8, h_9, h_10, k_11, h_12, h_13, h_14, h_15, h_16]
            obtain ⟨q, h_17, H⟩ := HS.bnd H
            refine Hid.mk (Tr.weak (s' := (laws_FnPaintsOn_l1_S v2 v6 v8 v9 w4 w11 w12 w13) 0) (Wk.ofk [0, 1, 3, 5, 4] hk (by rfl) (by simp -implicitDefEqProofs [laws_FnPaintsOn_l1_S, h_1, h_2, h_3, h_4, h_5, h_6, h_7, h_8, h_9, h_10, k_11, h_12, h_13, h_14, h_15, h_16]) (by simp -implicitDefEqProofs [laws_FnPaintsOn_l1_S, h_1, h_2, h_3, h_4, h_5, h_6, h_7, h_8, h_9, h_10, k_11, h_12, h_13, h_14, h_15, h_16])) ?_)
            refine wp_loop_of (S := (laws_FnPaintsOn_l1_S v2 v6 v8 v9 w4 w11 w12 w13)) (f := (laws_FnPaintsOn_l1 v2 v6 v8 v9 w4 w11 w12 w13)) (xt := (laws_FnPaintsOn_l1_X v2 v6 v8 v9 w4 w11 w12 w13)) ?_ ?_ h_17 ?_
            · intro q; rcases q with ⟨⟩ | ⟨⟩ <;> simp [laws_FnPaintsOn_l1_X]
            · clear H h_17 q
              rintro x35 o R hf hR
              have H : HS (laws_FnPaintsOn_l1 v2 v6 v8 v9 w4 w11 w12 w13 x35) o := hf
              clear hf; unfold laws_FnPaintsOn_l1 at H
              try simp -implicitDefEqProofs at H
              refine Tr.of_vc (cl := tabC [(28, laws_big_x), (29, spec_DrawRightSurface_x), (37, spec_DrawMasks_x), (38, spec_DrawSlope_x), (32, spec_DrawPlaces_x), (39, impl_PaintMask_x), (34, impl_SurfaceOk_x), (40, spec_BitsAt_x), (41, impl_PixelAt_x), (45, spec_ColorAt_x), (46, spec_CountOf_x), (44, spec_Thin_x), (43, spec_Fade_x), (42, spec_Blend_x), (33, impl_SameSurface_x)]) (E := E0) [] (tab_cons k_laws_big (tab_cons k_spec_DrawRightSurface (tab_cons k_spec_DrawMasks (tab_cons k_spec_DrawSlope (tab_cons k_spec_DrawPlaces (tab_cons k_impl_PaintMask (tab_cons k_impl_SurfaceOk (tab_cons k_spec_BitsAt (tab_cons k_impl_PixelAt (tab_cons k_spec_ColorAt (tab_cons k_spec_CountOf (tab_cons k_spec_Thin (tab_cons k_spec_Fade (tab_cons k_spec_Blend (tab_cons k_impl_SameSurface tab_nil))))))))))))))) hm (by rw [hn]; decide +kernel) ?_
              try simp -implicitDefEqProofs +decide (maxSteps := 2000000) [-selQ_sel, hokQ_of, laws_FnPaintsOn_l1_S]
              refine Hid.brV (fun h_18 => ?_) (fun h_18 => ?_)
              · replace H := HS.cnd_t h_18 H
                try simp -implicitDefEqProofs +decide (maxSteps := 2000000) [-selQ_sel, hokQ_of, h_18]
                have hr := (HS.some H).symm; subst hr
                exact Hid.mk ⟨(laws_FnPaintsOn_l1_X v2 v6 v8 v9 w4 w11 w12 w13 (.inl ())).2, Wk.ofk [0] hk (by rfl) (by simp -implicitDefEqProofs [laws_FnPaintsOn_l1_X, h_18]) (by simp -implicitDefEqProofs [laws_FnPaintsOn_l1_X, h_18]), hR⟩
              · replace H := HS.cnd_f h_18 H
                try simp -implicitDefEqProofs +decide (maxSteps := 2000000) [-selQ_sel, hokQ_of, h_18]
                obtain ⟨q, h_19, H⟩ := HS.bnd H
                refine Hid.mk (Tr.weak (s' := (laws_FnPaintsOn_l0_S v2 v6 v8 v9 w4 w11 w12 w13 x35) 0) (Wk.ofk [0, 1, 2, 3, 4] hk (by rfl) (by simp -implicitDefEqProofs [laws_FnPaintsOn_l0_S, h_18]) (by simp -implicitDefEqProofs [laws_FnPaintsOn_l0_S, h_18])) ?_)
                refine wp_loop_of (S := (laws_FnPaintsOn_l0_S v2 v6 v8 v9 w4 w11 w12 w13 x35)) (f := (laws_FnPaintsOn_l0 v2 v6 v8 v9 w4 w11 w12 w13 x35)) (xt := (laws_FnPaintsOn_l0_X v2 v6 v8 v9 w4 w11 w12 w13 x35)) ?_ ?_ h_19 ?_
                · intro q; rcases q with ⟨⟩ | ⟨⟩ <;> simp [laws_FnPaintsOn_l0_X]
                · clear H h_19 q
                  rintro x45 o R hf hR
                  have H : HS (laws_FnPaintsOn_l0 v2 v6 v8 v9 w4 w11 w12 w13 x35 x45) o := hf
                  clear hf; unfold laws_FnPaintsOn_l0 at H
                  try simp -implicitDefEqProofs at H
                  refine Tr.of_vc (cl := tabC [(28, laws_big_x), (29, spec_DrawRightSurface_x), (37, spec_DrawMasks_x), (38, spec_DrawSlope_x), (32, spec_DrawPlaces_x), (39, impl_PaintMask_x), (34, impl_SurfaceOk_x), (40, spec_BitsAt_x), (41, impl_PixelAt_x), (45, spec_ColorAt_x), (46, spec_CountOf_x), (44, spec_Thin_x), (43, spec_Fade_x), (42, spec_Blend_x), (33, impl_SameSurface_x)]) (E := E0) [] (tab_cons k_laws_big (tab_cons k_spec_DrawRightSurface (tab_cons k_spec_DrawMasks (tab_cons k_spec_DrawSlope (tab_cons k_spec_DrawPlaces (tab_cons k_impl_PaintMask (tab_cons k_impl_SurfaceOk (tab_cons k_spec_BitsAt (tab_cons k_impl_PixelAt (tab_cons k_spec_ColorAt (tab_cons k_spec_CountOf (tab_cons k_spec_Thin (tab_cons k_spec_Fade (tab_cons k_spec_Blend (tab_cons k_impl_SameSurface tab_nil))))))))))))))) hm (by rw [hn]; decide +kernel) ?_
                  try simp -implicitDefEqProofs +decide (maxSteps := 2000000) [-selQ_sel, hokQ_of, laws_FnPaintsOn_l0_S]
                  refine Hid.brV (fun h_20 => ?_) (fun h_20 => ?_)
                  · replace H := HS.cnd_t h_20 H
                    try simp -implicitDefEqProofs +decide (maxSteps := 2000000) [-selQ_sel, hokQ_of, h_20]
                    have hr := (HS.some H).symm; subst hr
                    exact Hid.mk ⟨(laws_FnPaintsOn_l0_X v2 v6 v8 v9 w4 w11 w12 w13 x35 (.inl ())).2, Wk.ofk [0, 1, 2, 3, 4] hk (by rfl) (by simp -implicitDefEqProofs [laws_FnPaintsOn_l0_X, h_20]) (by simp -implicitDefEqProofs [laws_FnPaintsOn_l0_X, h_20]), hR⟩
                  · replace H := HS.cnd_f h_20 H
                    try simp -implicitDefEqProofs +decide (maxSteps := 2000000) [-selQ_sel, hokQ_of, h_20]
                    obtain ⟨v46, h_21, H⟩ := HS.bnd H
                    try simp -implicitDefEqProofs +decide (maxSteps := 2000000) [-selQ_sel, hokQ_of, h_20, h_21]
                    obtain ⟨v47, h_22, H⟩ := HS.bnd H
                    try simp -implicitDefEqProofs +decide (maxSteps := 2000000) [-selQ_sel, hokQ_of, h_20, h_21, h_22]
                    refine Hid.brV (fun h_23 => ?_) (fun h_23 => ?_)
                    · replace H := HS.cnd_t h_23 H
                      try simp -implicitDefEqProofs +decide (maxSteps := 2000000) [-selQ_sel, hokQ_of, h_20, h_21, h_22, h_23]
                      obtain ⟨v48, h_24, H⟩ := HS.bnd H
                      have k_25 := impl_PixelAt_k ((TSurface.mk w11 w12 w13).w) ((TSurface.mk w11 w12 w13).h) ((TSurface.mk w11 w12 w13).pix) x45 x35
                      simp -implicitDefEqProofs [-impl_PixelAt_k] at k_25
                      try simp -implicitDefEqProofs +decide (maxSteps := 2000000) [-selQ_sel, hokQ_of, h_20, h_21, h_22, h_23, h_24, k_25]
                      refine Hid.brV (fun h_26 => ?_) (fun h_26 => ?_)
                      · replace H := HS.cnd_t h_26 H
                        try simp -implicitDefEqProofs +decide (maxSteps := 2000000) [-selQ_sel, hokQ_of, h_20, h_21, h_22, h_23, h_24, k_25, h_26]
                        have hr := (HS.some H).symm; subst hr
                        exact Hid.mk ⟨laws_FnPaintsOn_l0_S v2 v6 v8 v9 w4 w11 w12 w13 x35 (IntKind.i64.wrap (x45 + 1)), Wk.ofk [0, 1, 2, 3, 4] hk (by rfl) (by simp -implicitDefEqProofs [laws_FnPaintsOn_l0_S, h_20, h_21, h_22, h_23, h_24, k_25, h_26]) (by simp -implicitDefEqProofs [laws_FnPaintsOn_l0_S, h_20, h_21, h_22, h_23, h_24, k_25, h_26]), hR⟩
                      · replace H := HS.cnd_f h_26 H
                        try simp -implicitDefEqProofs +decide (maxSteps := 2000000) [-selQ_sel, hokQ_of, h_20, h_21, h_22, h_23, h_24, k_25, h_26]
                        have hr := (HS.some H).symm; subst hr
                        exact Hid.mk ⟨(laws_FnPaintsOn_l0_X v2 v6 v8 v9 w4 w11 w12 w13 x35 (.inr ())).2, Wk.ofk [] hk (by rfl) (by simp -implicitDefEqProofs [laws_FnPaintsOn_l0_X, h_20, h_21, h_22, h_23, h_24, k_25, h_26]) (by simp -implicitDefEqProofs [laws_FnPaintsOn_l0_X, h_20, h_21, h_22, h_23, h_24, k_25, h_26]), hR⟩
                    · replace H := HS.cnd_f h_23 H
                      try simp -implicitDefEqProofs +decide (maxSteps := 2000000) [-selQ_sel, hokQ_of, h_20, h_21, h_22, h_23]
                      obtain ⟨v49, h_27, H⟩ := HS.bnd H
                      try simp -implicitDefEqProofs +decide (maxSteps := 2000000) [-selQ_sel, hokQ_of, h_20, h_21, h_22, h_23, h_27]
                      obtain ⟨v50, h_28, H⟩ := HS.bnd H
                      try simp -implicitDefEqProofs +decide (maxSteps := 2000000) [-selQ_sel, hokQ_of, h_20, h_21, h_22, h_23, h_27, h_28]
                      obtain ⟨v51, h_29, H⟩ := HS.bnd H
                      try simp -implicitDefEqProofs +decide (maxSteps := 2000000) [-selQ_sel, hokQ_of, h_20, h_21, h_22, h_23, h_27, h_28, h_29]
                      obtain ⟨v52, h_30, H⟩ := HS.bnd H
                      try simp -implicitDefEqProofs +decide (maxSteps := 2000000) [-selQ_sel, hokQ_of, h_20, h_21, h_22, h_23, h_27, h_28, h_29, h_30]
                      obtain ⟨v53, h_31, H⟩ := HS.bnd H
                      try simp -implicitDefEqProofs +decide (maxSteps := 2000000) [-selQ_sel, hokQ_of, h_20, h_21, h_22, h_23, h_27, h_28, h_29, h_30, h_31]
                      obtain ⟨v54, h_32, H⟩ := HS.bnd H
                      have k_33 := impl_PixelAt_k ((TSurface.mk w11 w12 w13).w) ((TSurface.mk w11 w12 w13).h) ((TSurface.mk w11 w12 w13).pix) x45 x35
                      simp -implicitDefEqProofs [-impl_PixelAt_k] at k_33
                      try simp -implicitDefEqProofs +decide (maxSteps := 2000000) [-selQ_sel, hokQ_of, h_20, h_21, h_22, h_23, h_27, h_28, h_29, h_30, h_31, h_32, k_33]
                      refine Hid.brV (fun h_34 => ?_) (fun h_34 => ?_)
                      · replace H := HS.cnd_t h_34 H
                        try simp -implicitDefEqProofs +decide (maxSteps := 2000000) [-selQ_sel, hokQ_of, h_20, h_21, h_22, h_23, h_27, h_28, h_29, h_30, h_31, h_32, k_33, h_34]
                        have hr := (HS.some H).symm; subst hr
                        exact Hid.mk ⟨laws_FnPaintsOn_l0_S v2 v6 v8 v9 w4 w11 w12 w13 x35 (IntKind.i64.wrap (x45 + 1)), Wk.ofk [0, 1, 2, 3, 4] hk (by rfl) (by simp -implicitDefEqProofs [laws_FnPaintsOn_l0_S, h_20, h_21, h_22, h_23, h_27, h_28, h_29, h_30, h_31, h_32, k_33, h_34]) (by simp -implicitDefEqProofs [laws_FnPaintsOn_l0_S, h_20, h_21, h_22, h_23, h_27, h_28, h_29, h_30, h_31, h_32, k_33, h_34]), hR⟩
                      · replace H := HS.cnd_f h_34 H
                        try simp -implicitDefEqProofs +decide (maxSteps := 2000000) [-selQ_sel, hokQ_of, h_20, h_21, h_22, h_23, h_27, h_28, h_29, h_30, h_31, h_32, k_33, h_34]
                        have hr := (HS.some H).symm; subst hr
                        exact Hid.mk ⟨(laws_FnPaintsOn_l0_X v2 v6 v8 v9 w4 w11 w12 w13 x35 (.inr ())).2, Wk.ofk [] hk (by rfl) (by simp -implicitDefEqProofs [laws_FnPaintsOn_l0_X, h_20, h_21, h_22, h_23, h_27, h_28, h_29, h_30, h_31, h_32, k_33, h_34]) (by simp -implicitDefEqProofs [laws_FnPaintsOn_l0_X, h_20, h_21, h_22, h_23, h_27, h_28, h_29, h_30, h_31, h_32, k_33, h_34]), hR⟩
                · rcases q with ⟨⟩ | ⟨⟩
                  · dsimp only at H
                    try simp -implicitDefEqProofs +decide (maxSteps := 2000000) [-selQ_sel, hokQ_of, h_18, laws_FnPaintsOn_l0_X]
                    have hr := (HS.some H).symm; subst hr
                    exact Hid.mk ⟨laws_FnPaintsOn_l1_S v2 v6 v8 v9 w4 w11 w12 w13 (IntKind.i64.wrap (x35 + 1)), Wk.ofk [0, 1, 2, 3, 4] hk (by rfl) (by simp -implicitDefEqProofs [laws_FnPaintsOn_l1_S, h_18]) (by simp -implicitDefEqProofs [laws_FnPaintsOn_l1_S, h_18]), hR⟩
                  · dsimp only at H
                    try simp -implicitDefEqProofs +decide (maxSteps := 2000000) [-selQ_sel, hokQ_of, h_18, laws_FnPaintsOn_l0_X]
                    have hr := (HS.some H).symm; subst hr
                    exact Hid.mk ⟨(laws_FnPaintsOn_l1_X v2 v6 v8 v9 w4 w11 w12 w13 (.inr ())).2, Wk.ofk [] hk (by rfl) (by simp -implicitDefEqProofs [laws_FnPaintsOn_l1_X, h_18]) (by simp -implicitDefEqProofs [laws_FnPaintsOn_l1_X, h_18]), hR⟩
            · rcases q with ⟨⟩ | ⟨⟩
              · dsimp only at H
                try simp -implicitDefEqProofs +decide (maxSteps := 2000000) [-selQ_sel, hokQ_of, h_1, h_2, h_3, h_4, h_5, h_6, h_7, h_8, h_9, h_10, k_11, h_12, h_13, h_14, h_15, h_16, laws_FnPaintsOn_l1_X]
                obtain ⟨v55, h_35, H⟩ := HS.bnd H
                try simp -implicitDefEqProofs +decide (maxSteps := 2000000) [-selQ_sel, hokQ_of, h_1, h_2, h_3, h_4, h_5, h_6, h_7, h_8, h_9, h_10, k_11, h_12, h_13, h_14, h_15, h_16, h_35]
                refine Hid.selQ (fun h_36 => ?_) (fun h_36 => ?_)
                · replace H := HS.cnd_t h_36 H
                  try simp -implicitDefEqProofs +decide (maxSteps := 2000000) [-selQ_sel, hokQ_of, h_1, h_2, h_3, h_4, h_5, h_6, h_7, h_8, h_9, h_10, k_11, h_12, h_13, h_14, h_15, h_16, h_35, h_36]
                  obtain ⟨v56, h_37, H⟩ := HS.bnd H
                  try simp -implicitDefEqProofs +decide (maxSteps := 2000000) [-selQ_sel, hokQ_of, h_1, h_2, h_3, h_4, h_5, h_6, h_7, h_8, h_9, h_10, k_11, h_12, h_13, h_14, h_15, h_16, h_35, h_36, h_37]
                  obtain ⟨v57, h_38, H⟩ := HS.bnd H
                  try simp -implicitDefEqProofs +decide (maxSteps := 2000000) [-selQ_sel, hokQ_of, h_1, h_2, h_3, h_4, h_5, h_6, h_7, h_8, h_9, h_10, k_11, h_12, h_13, h_14, h_15, h_16, h_35, h_36, h_37, h_38]
                  have hr := (HS.some H).symm; subst hr
                  refine Hid.mk ⟨_, Wk.refl _, ?_⟩
                  try simp -implicitDefEqProofs +decide (maxSteps := 2000000) [-selQ_sel, hokQ_of, h_1, h_2, h_3, h_4, h_5, h_6, h_7, h_8, h_9, h_10, k_11, h_12, h_13, h_14, h_15, h_16, h_35, h_36, h_37, h_38]
                · replace H := HS.cnd_f h_36 H
                  try simp -implicitDefEqProofs +decide (maxSteps := 2000000) [-selQ_sel, hokQ_of, h_1, h_2, h_3, h_4, h_5, h_6, h_7, h_8, h_9, h_10, k_11, h_12, h_13, h_14, h_15, h_16, h_35, h_36]
                  have hr := (HS.some H).symm; subst hr
                  refine Hid.mk ⟨_, Wk.refl _, ?_⟩
                  try simp -implicitDefEqProofs +decide (maxSteps := 2000000) [-selQ_sel, hokQ_of, h_1, h_2, h_3, h_4, h_5, h_6, h_7, h_8, h_9, h_10, k_11, h_12, h_13, h_14, h_15, h_16, h_35, h_36]
              · dsimp only at H
                try simp -implicitDefEqProofs +decide (maxSteps := 2000000) [-selQ_sel, hokQ_of, h_1, h_2, h_3, h_4, h_5, h_6, h_7, h_8, h_9, h_10, k_11, h_12, h_13, h_14, h_15, h_16, laws_FnPaintsOn_l1_X]
                have hr := (HS.some H).symm; subst hr
                refine Hid.mk ⟨_, Wk.refl _, ?_⟩
                try simp -implicitDefEqProofs +decide (maxSteps := 2000000) [-selQ_sel, hokQ_of, h_1, h_2, h_3, h_4, h_5, h_6, h_7, h_8, h_9, h_10, k_11, h_12, h_13, h_14, h_15, h_16]
          · replace H := HS.cnd_f h_16 H
            try simp -implicitDefEqProofs +decide (maxSteps := 2000000) [-selQ_sel, hokQ_of, h_1, h_2, h_3, h_4, h_5, h_6, h_7, h_8, h_9, h_10, k_11, h_12, h_13, h_14, h_15, h_16]
            have hr := (HS.some H).symm; subst hr
            refine Hid.mk ⟨_, Wk.refl _, ?_⟩
            try simp -implicitDefEqProofs +decide (maxSteps := 2000000) [-selQ_sel, hokQ_of, h_1, h_2, h_3, h_4, h_5, h_6, h_7, h_8, h_9, h_10, k_11, h_12, h_13, h_14, h_15, h_16]
        · replace H := HS.cnd_f h_15 H
          try simp -implicitDefEqProofs +decide (maxSteps := 2000000) [-selQ_sel, hokQ_of, h_1, h_2, h_3, h_4, h_5, h_6, h_7, h_8, h_9, h_10, k_11, h_12, h_13, h_14, h_15]
          have hr := (HS.some H).symm; subst hr
          refine Hid.mk ⟨_, Wk.refl _, ?_⟩
          try simp -implicitDefEqProofs +decide (maxSteps := 2000000) [-selQ_sel, hokQ_of, h_1, h_2, h_3, h_4, h_5, h_6, h_7, h_8, h_9, h_10, k_11, h_12, h_13, h_14, h_15]
      · replace H := HS.cnd_f h_14 H
        try simp -implicitDefEqProofs +decide (maxSteps := 2000000) [-selQ_sel, hokQ_of, h_1, h_2, h_3, h_4, h_5, h_6, h_7, h_8, h_9, h_10, k_11, h_12, h_13, h_14]
        have hr := (HS.some H).symm; subst hr
        refine Hid.mk ⟨_, Wk.refl _, ?_⟩
        try simp -implicitDefEqProofs +decide (maxSteps := 2000000) [-selQ_sel, hokQ_of, h_1, h_2, h_3, h_4, h_5, h_6, h_7, h_8, h_9, h_10, k_11, h_12, h_13, h_14]
    · replace H := HS.cnd_f h_12 H
      try simp -implicitDefEqProofs +decide (maxSteps := 2000000) [-selQ_sel, hokQ_of, h_1, h_2, h_3, h_4, h_5, h_6, h_7, h_8, h_9, h_10, k_11, h_12]
      have hr := (HS.some H).symm; subst hr
      refine Hid.mk ⟨_, Wk.refl _, ?_⟩
      try simp -implicitDefEqProofs +decide (maxSteps := 2000000) [-selQ_sel, hokQ_of, h_1, h_2, h_3, h_4, h_5, h_6, h_7, h_8, h_9, h_10, k_11, h_12]
theorem spec_PaintMask_ok0 (hm : Try.prog.follows .mixedOrders = true) (k_spec_l14Copy : Sound Try.prog 113 spec_l14Copy_x) (k_spec_SurfaceOk : Sound Try.prog 82 spec_SurfaceOk_x) (k_spec_MaskOk : Sound Try.prog 74 spec_MaskOk_x) (k_spec_PaintOk : Sound Try.prog 125 spec_PaintOk_x) (k_spec_l11Bits : Sound Try.prog 120 spec_l11Bits_x) (k_spec_ColorAt : Sound Try.prog 45 spec_ColorAt_x) (k_spec_CountOf : Sound Try.prog 46 spec_CountOf_x) (k_spec_Thin : Sound Try.prog 44 spec_Thin_x) (k_spec_Fade : Sound Try.prog 43 spec_Fade_x) (k_spec_Blend : Sound Try.prog 42 spec_Blend_x) : Sound Try.prog 67 spec_PaintMask_x := by
  refine xOf_sound fun q r h => ?_
  obtain ⟨a0, a1, a2, a3, a4⟩ := q
  refine fn_ok E0 hm Try.func67 rfl (by decide +kernel) (by rfl) fun Γ hn hk => ?_
  dsimp only [spec_PaintMask_e, spec_PaintMask_v]
  replace hn : Γ.n = 82 := hn
  replace hk : Γ.k = 0 := hk
  have H : HS (spec_PaintMask a0 a1 a2 a3 a4) r := h
  clear h; unfold spec_PaintMask at H
  try simp -implicitDefEqProofs at H
  refine Tr.of_vc (cl := tabC [(113, spec_l14Copy_x), (82, spec_SurfaceOk_x), (74, spec_MaskOk_x), (125, spec_PaintOk_x), (120, spec_l11Bits_x), (45, spec_ColorAt_x), (46, spec_CountOf_x), (44, spec_Thin_x), (43, spec_Fade_x), (42, spec_Blend_x)]) (E := E0) [] (tab_cons k_spec_l14Copy (tab_cons k_spec_SurfaceOk (tab_cons k_spec_MaskOk (tab_cons k_spec_PaintOk (tab_cons k_spec_l11Bits (tab_cons k_spec_ColorAt (tab_cons k_spec_CountOf (tab_cons k_spec_Thin (tab_cons k_spec_Fade (tab_cons k_spec_Blend tab_nil)))))))))) hm (by rw [hn]; decide +kernel) ?_
  try simp -implicitDefEqProofs +decide (maxSteps := 2000000) [-selQ_sel, hokQ_of]
  obtain ⟨⟨w2, w3, w4⟩, h_1, H⟩ := HS.bnd H
  dsimp only at H
  try simp -implicitDefEqProofs +decide (maxSteps := 2000000) [-selQ_sel, hokQ_of, h_1]
  obtain ⟨v5, h_2, H⟩ := HS.bnd H
  try simp -implicitDefEqProofs +decide (maxSteps := 2000000) [-selQ_sel, hokQ_of, h_1, h_2]
  refine Hid.selQ (fun h_3 => ?_) (fun h_3 => ?_)
  · replace H := HS.cnd_t h_3 H
    try simp -implicitDefEqProofs +decide (maxSteps := 2000000) [-selQ_sel, hokQ_of, h_1, h_2, h_3]
    obtain ⟨v6, h_4, H⟩ := HS.bnd H
    try simp -implicitDefEqProofs +decide (maxSteps := 2000000) [-selQ_sel, hokQ_of, h_1, h_2, h_3, h_4]
    refine Hid.selQ (fun h_5 => ?_) (fun h_5 => ?_)
    · replace H := HS.cnd_t h_5 H
      try simp -implicitDefEqProofs +decide (maxSteps := 2000000) [-selQ_sel, hokQ_of, h_1, h_2, h_3, h_4, h_5]
      obtain ⟨v7, h_6, H⟩ := HS.bnd H
      try simp -implicitDefEqProofs +decide (maxSteps := 2000000) [-selQ_sel, hokQ_of, h_1, h_2, h_3, h_4, h_5, h_6]
      refine Hid.brV (fun h_7 => ?_) (fun h_7 => ?_)
      · replace H := HS.cnd_t h_7 H
        try simp -implicitDefEqProofs +decide (maxSteps := 2000000) [-selQ_sel, hokQ_of, h_1, h_2, h_3, h_4, h_5, h_6, h_7]
        obtain ⟨q, h_8, H⟩ := HS.bnd H
        refine Hid.mk (Tr.weak (s' := (spec_PaintMask_l1_S a0 a1 a2 a3 a4 w2 w3) (0, w4)) (Wk.ofk [0, 1, 2, 3, 5, 4] hk (by rfl) (by simp -implicitDefEqProofs [spec_PaintMask_l1_S, h_1, h_2, h_3, h_4, h_5, h_6, h_7]) (by simp -implicitDefEqProofs [spec_PaintMask_l1_S, h_1, h_2, h_3, h_4, h_5, h_6, h_7])) ?_)
        refine wp_loop_of (S := (spec_PaintMask_l1_S a0 a1 a2 a3 a4 w2 w3)) (f := (spec_PaintMask_l1 a0 a1 a2 a3 a4 w2 w3)) (xt := (spec_PaintMask_l1_X a0 a1 a2 a3 a4 w2 w3)) ?_ ?_ h_8 ?_
        · intro q; simp [spec_PaintMask_l1_X]
        · clear H h_8 q
          rintro ⟨x29, x30⟩ o R hf hR
          have H : HS (spec_PaintMask_l1 a0 a1 a2 a3 a4 w2 w3 (x29, x30)) o := hf
          clear hf; unfold spec_PaintMask_l1 at H
          try simp -implicitDefEqProofs at H
          refine Tr.of_vc (cl := tabC [(113, spec_l14Copy_x), (82, spec_SurfaceOk_x), (74, spec_MaskOk_x), (125, spec_PaintOk_x), (120, spec_l11Bits_x), (45, spec_ColorAt_x), (46, spec_CountOf_x), (44, spec_Thin_x), (43, spec_Fade_x), (42, spec_Blend_x)]) (E := E0) [] (tab_cons k_spec_l14Copy (tab_cons k_spec_SurfaceOk (tab_cons k_spec_MaskOk (tab_cons k_spec_PaintOk (tab_cons k_spec_l11Bits (tab_cons k_spec_ColorAt (tab_cons k_spec_CountOf (tab_cons k_spec_Thin (tab_cons k_spec_Fade (tab_cons k_spec_Blend tab_nil)))))))))) hm (by rw [hn]; decide +kernel) ?_
          try simp -implicitDefEqProofs +decide (maxSteps := 2000000) [-selQ_sel, hokQ_of, spec_PaintMask_l1_S]
          refine Hid.brV (fun h_9 => ?_) (fun h_9 => ?_)
          · replace H := HS.cnd_t h_9 H
            try simp -implicitDefEqProofs +decide (maxSteps := 2000000) [-selQ_sel, hokQ_of, h_9]
            have hr := (HS.some H).symm; subst hr
            exact Hid.mk ⟨(spec_PaintMask_l1_X a0 a1 a2 a3 a4 w2 w3 x30).2, Wk.ofk [3, 4, 5] hk (by rfl) (by simp -implicitDefEqProofs [spec_PaintMask_l1_X, h_9]) (by simp -implicitDefEqProofs [spec_PaintMask_l1_X, h_9]), hR⟩
          · replace H := HS.cnd_f h_9 H
            try simp -implicitDefEqProofs +decide (maxSteps := 2000000) [-selQ_sel, hokQ_of, h_9]
            obtain ⟨q, h_10, H⟩ := HS.bnd H
            refine Hid.mk (Tr.weak (s' := (spec_PaintMask_l0_S a0 a1 a2 a3 a4 w2 w3 x29) (0, x30)) (Wk.ofk [0, 1, 2, 3, 4, 5] hk (by rfl) (by simp -implicitDefEqProofs [spec_PaintMask_l0_S, h_9]) (by simp -implicitDefEqProofs [spec_PaintMask_l0_S, h_9])) ?_)
            refine wp_loop_of (S := (spec_PaintMask_l0_S a0 a1 a2 a3 a4 w2 w3 x29)) (f := (spec_PaintMask_l0 a0 a1 a2 a3 a4 w2 w3 x29)) (xt := (spec_PaintMask_l0_X a0 a1 a2 a3 a4 w2 w3 x29)) ?_ ?_ h_10 ?_
            · intro q; simp [spec_PaintMask_l0_X]
            · clear H h_10 q
              rintro ⟨x40, x41⟩ o R hf hR
              have H : HS (spec_PaintMask_l0 a0 a1 a2 a3 a4 w2 w3 x29 (x40, x41)) o := hf
              clear hf; unfold spec_PaintMask_l0 at H
              try simp -implicitDefEqProofs at H
              refine Tr.of_vc (cl := tabC [(113, spec_l14Copy_x), (82, spec_SurfaceOk_x), (74, spec_MaskOk_x), (125, spec_PaintOk_x), (120, spec_l11Bits_x), (45, spec_ColorAt_x), (46, spec_CountOf_x), (44, spec_Thin_x), (43, spec_Fade_x), (42, spec_Blend_x)]) (E := E0) [] (tab_cons k_spec_l14Copy (tab_cons k_spec_SurfaceOk (tab_cons k_spec_MaskOk (tab_cons k_spec_PaintOk (tab_cons k_spec_l11Bits (tab_cons k_spec_ColorAt (tab_cons k_spec_CountOf (tab_cons k_spec_Thin (tab_cons k_spec_Fade (tab_cons k_spec_Blend tab_nil)))))))))) hm (by rw [hn]; decide +kernel) ?_
              try simp -implicitDefEqProofs +decide (maxSteps := 2000000) [-selQ_sel, hokQ_of, spec_PaintMask_l0_S]
              refine Hid.brV (fun h_11 => ?_) (fun h_11 => ?_)
              · replace H := HS.cnd_t h_11 H
                try simp -implicitDefEqProofs +decide (maxSteps := 2000000) [-selQ_sel, hokQ_of, h_11]
                have hr := (HS.some H).symm; subst hr
                exact Hid.mk ⟨(spec_PaintMask_l0_X a0 a1 a2 a3 a4 w2 w3 x29 x41).2, Wk.ofk [0, 1, 2, 3, 4, 5] hk (by rfl) (by simp -implicitDefEqProofs [spec_PaintMask_l0_X, h_11]) (by simp -implicitDefEqProofs [spec_PaintMask_l0_X, h_11]), hR⟩
              · replace H := HS.cnd_f h_11 H
                try simp -implicitDefEqProofs +decide (maxSteps := 2000000) [-selQ_sel, hokQ_of, h_11]
                obtain ⟨v42, h_12, H⟩ := HS.bnd H
                try simp -implicitDefEqProofs +decide (maxSteps := 2000000) [-selQ_sel, hokQ_of, h_11, h_12]
                refine Hid.brV (fun h_13 => ?_) (fun h_13 => ?_)
                · replace H := HS.cnd_t h_13 H
                  try simp -implicitDefEqProofs +decide (maxSteps := 2000000) [-selQ_sel, hokQ_of, h_11, h_12, h_13]
                  have hr := (HS.some H).symm; subst hr
                  exact Hid.mk ⟨spec_PaintMask_l0_S a0 a1 a2 a3 a4 w2 w3 x29 ((IntKind.i64.wrap (x40 + 1)), x41), Wk.ofk [0, 1, 2, 3, 4, 5] hk (by rfl) (by simp -implicitDefEqProofs [spec_PaintMask_l0_S, h_11, h_12, h_13]) (by simp -implicitDefEqProofs [spec_PaintMask_l0_S, h_11, h_12, h_13]), hR⟩
                · replace H := HS.cnd_f h_13 H
                  try simp -implicitDefEqProofs +decide (maxSteps := 2000000) [-selQ_sel, hokQ_of, h_11, h_12, h_13]
                  obtain ⟨v43, h_14, H⟩ := HS.bnd H
                  try simp -implicitDefEqProofs +decide (maxSteps := 2000000) [-selQ_sel, hokQ_of, h_11, h_12, h_13, h_14]
                  obtain ⟨v44, h_15, H⟩ := HS.bnd H
                  try simp -implicitDefEqProofs +decide (maxSteps := 2000000) [-selQ_sel, hokQ_of, h_11, h_12, h_13, h_14, h_15]
                  obtain ⟨v45, h_16, H⟩ := HS.bnd H
                  try simp -implicitDefEqProofs +decide (maxSteps := 2000000) [-selQ_sel, hokQ_of, h_11, h_12, h_13, h_14, h_15, h_16]
                  obtain ⟨v46, h_17, H⟩ := HS.bnd H
                  try simp -implicitDefEqProofs +decide (maxSteps := 2000000) [-selQ_sel, hokQ_of, h_11, h_12, h_13, h_14, h_15, h_16, h_17]
                  obtain ⟨v47, h_18, H⟩ := HS.bnd H
                  try simp -implicitDefEqProofs +decide (maxSteps := 2000000) [-selQ_sel, hokQ_of, h_11, h_12, h_13, h_14, h_15, h_16, h_17, h_18]
                  obtain ⟨v48, h_19, H⟩ := HS.bnd H
                  try simp -implicitDefEqProofs +decide (maxSteps := 2000000) [-selQ_sel, hokQ_of, h_11, h_12, h_13, h_14, h_15, h_16, h_17, h_18, h_19]
                  obtain ⟨v49, h_20, H⟩ := HS.bnd H
                  have g_21 := idx_get h_20
                  try simp -implicitDefEqProofs +decide (maxSteps := 2000000) [-selQ_sel, hokQ_of, h_11, h_12, h_13, h_14, h_15, h_16, h_17, h_18, h_19, h_20, g_21]
                  obtain ⟨l50, h_22, H⟩ := HS.nam H
                  have m_23 := congrArg (List.map eColor) h_22
                  have q_24 := congrArg List.length h_22
                  simp -implicitDefEqProofs at m_23 q_24
                  try simp only [q_24] at m_23
                  try simp only [q_24] at g_21
                  try simp -implicitDefEqProofs +decide (maxSteps := 2000000) [-selQ_sel, hokQ_of, h_11, h_12, h_13, h_14, h_15, h_16, h_17, h_18, h_19, h_20, g_21, m_23, q_24]
                  have hr := (HS.some H).symm; subst hr
                  exact Hid.mk ⟨spec_PaintMask_l0_S a0 a1 a2 a3 a4 w2 w3 x29 ((IntKind.i64.wrap (x40 + 1)), l50), Wk.ofk [0, 1, 2, 3, 4, 5] hk (by rfl) (by simp -implicitDefEqProofs [spec_PaintMask_l0_S, h_11, h_12, h_13, h_14, h_15, h_16, h_17, h_18, h_19, h_20, g_21, m_23, q_24]) (by simp -implicitDefEqProofs [spec_PaintMask_l0_S, h_11, h_12, h_13, h_14, h_15, h_16, h_17, h_18, h_19, h_20, g_21, m_23, q_24]), hR⟩
            · revert H h_10; revert q; intro y51 h_10 H
              try dsimp only at H
              try simp -implicitDefEqProofs +decide (maxSteps := 2000000) [-selQ_sel, hokQ_of, h_9, spec_PaintMask_l0_X]
              have hr := (HS.some H).symm; subst hr
              exact Hid.mk ⟨spec_PaintMask_l1_S a0 a1 a2 a3 a4 w2 w3 ((IntKind.i64.wrap (x29 + 1)), y51), Wk.ofk [0, 1, 2, 3, 4, 5] hk (by rfl) (by simp -implicitDefEqProofs [spec_PaintMask_l1_S, h_9]) (by simp -implicitDefEqProofs [spec_PaintMask_l1_S, h_9]), hR⟩
        · revert H h_8; revert q; intro y52 h_8 H
          try dsimp only at H
          try simp -implicitDefEqProofs +decide (maxSteps := 2000000) [-selQ_sel, hokQ_of, h_1, h_2, h_3, h_4, h_5, h_6, h_7, spec_PaintMask_l1_X]
          have hr := (HS.some H).symm; subst hr
          refine Hid.mk ⟨_, Wk.refl _, ?_⟩
          try simp -implicitDefEqProofs +decide (maxSteps := 2000000) [-selQ_sel, hokQ_of, h_1, h_2, h_3, h_4, h_5, h_6, h_7]
      · replace H := HS.cnd_f h_7 H
        try simp -implicitDefEqProofs +decide (maxSteps := 2000000) [-selQ_sel, hokQ_of, h_1, h_2, h_3, h_4, h_5, h_6, h_7]
        have hr := (HS.some H).symm; subst hr
        refine Hid.mk ⟨_, Wk.refl _, ?_⟩
        try simp -implicitDefEqProofs +decide (maxSteps := 2000000) [-selQ_sel, hokQ_of, h_1, h_2, h_3, h_4, h_5, h_6, h_7]
    · replace H := HS.cnd_f h_5 H
      try simp -implicitDefEqProofs +decide (maxSteps := 2000000) [-selQ_sel, hokQ_of, h_1, h_2, h_3, h_4, h_5]
      have hr := (HS.some H).symm; subst hr
      refine Hid.mk ⟨_, Wk.refl _, ?_⟩
      try simp -implicitDefEqProofs +decide (maxSteps := 2000000) [-selQ_sel, hokQ_of, h_1, h_2, h_3, h_4, h_5]
  · replace H := HS.cnd_f h_3 H
    try simp -implicitDefEqProofs +decide (maxSteps := 2000000) [-selQ_sel, hokQ_of, h_1, h_2, h_3]
    have hr := (HS.some H).symm; subst hr
    refine Hid.mk ⟨_, Wk.refl _, ?_⟩
    try simp -implicitDefEqProofs +decide (maxSteps := 2000000) [-selQ_sel, hokQ_of, h_1, h_2, h_3]
theorem impl_Surface_paint_PaintMask_1_ok0 (hm : Try.prog.follows .mixedOrders = true) (k_impl_Surface_box : Sound Try.prog 105 impl_Surface_box_x) (k_impl_MeetBox : Sound Try.prog 157 impl_MeetBox_x) (k_impl_PaintMask_1 : Sound Try.prog 117 impl_PaintMask_1_x) : Sound Try.prog 104 impl_Surface_paint_PaintMask_1_x := by
  refine xOf_sound fun q r h => ?_
  obtain ⟨a0, a1, a2, a3, a4, a5, a6, a7⟩ := q
  refine fn_ok E0 hm Try.func104 rfl (by decide +kernel) (by rfl) fun Γ hn hk => ?_
  dsimp only [impl_Surface_paint_PaintMask_1_e, impl_Surface_paint_PaintMask_1_v]
  replace hn : Γ.n = 51 := hn
  replace hk : Γ.k = 6 := hk
  have H : HS (impl_Surface_paint_PaintMask_1 a0 a1 a2 a3 a4 a5 a6 a7) r := h
  clear h; unfold impl_Surface_paint_PaintMask_1 at H
  try simp -implicitDefEqProofs at H
  refine Tr.of_vc (cl := tabC [(105, impl_Surface_box_x), (157, impl_MeetBox_x), (117, impl_PaintMask_1_x)]) (E := E0) [] (tab_cons k_impl_Surface_box (tab_cons k_impl_MeetBox (tab_cons k_impl_PaintMask_1 tab_nil))) hm (by rw [hn]; decide +kernel) ?_
  try simp -implicitDefEqProofs +decide (maxSteps := 2000000) [-selQ_sel, hokQ_of]
  obtain ⟨v1, h_1, H⟩ := HS.bnd H
  have k_2 := impl_Surface_box_k ((TSurface.mk a1 a2 a7).w) ((TSurface.mk a1 a2 a7).h) ((TSurface.mk a1 a2 a7).pix)
  simp -implicitDefEqProofs [-impl_Surface_box_k] at k_2
  try simp -implicitDefEqProofs +decide (maxSteps := 2000000) [-selQ_sel, hokQ_of, h_1, k_2]
  obtain ⟨v2, h_3, H⟩ := HS.bnd H
  try simp -implicitDefEqProofs +decide (maxSteps := 2000000) [-selQ_sel, hokQ_of, h_1, k_2, h_3]
  obtain ⟨q, h_4, H⟩ := HS.bnd H
  refine Hid.mk (Tr.weak (s' := (impl_Surface_paint_PaintMask_1_l1_S a1 a2 a3 a4 a5 a6 v2) (v2.y0, a7)) (Wk.ofk [0, 1, 2, 3, 4, 5, 6] hk (by rfl) (by simp -implicitDefEqProofs [impl_Surface_paint_PaintMask_1_l1_S, h_1, k_2, h_3]) (by simp -implicitDefEqProofs [impl_Surface_paint_PaintMask_1_l1_S, h_1, k_2, h_3])) ?_)
  refine wp_loop_of (S := (impl_Surface_paint_PaintMask_1_l1_S a1 a2 a3 a4 a5 a6 v2)) (f := (impl_Surface_paint_PaintMask_1_l1 a1 a2 a3 a4 a5 a6 v2)) (xt := (impl_Surface_paint_PaintMask_1_l1_X a1 a2 a3 a4 a5 a6 v2)) ?_ ?_ h_4 ?_
  · intro q; simp [impl_Surface_paint_PaintMask_1_l1_X]
  · clear H h_4 q
    rintro ⟨x12, x13⟩ o R hf hR
    have H : HS (impl_Surface_paint_PaintMask_1_l1 a1 a2 a3 a4 a5 a6 v2 (x12, x13)) o := hf
    clear hf; unfold impl_Surface_paint_PaintMask_1_l1 at H
    try simp -implicitDefEqProofs at H
    refine Tr.of_vc (cl := tabC [(105, impl_Surface_box_x), (157, impl_MeetBox_x), (117, impl_PaintMask_1_x)]) (E := E0) [] (tab_cons k_impl_Surface_box (tab_cons k_impl_MeetBox (tab_cons k_impl_PaintMask_1 tab_nil))) hm (by rw [hn]; decide +kernel) ?_
    try simp -implicitDefEqProofs +decide (maxSteps := 2000000) [-selQ_sel, hokQ_of, impl_Surface_paint_PaintMask_1_l1_S]
    refine Hid.brV (fun h_5 => ?_) (fun h_5 => ?_)
    · replace H := HS.cnd_t h_5 H
      try simp -implicitDefEqProofs +decide (maxSteps := 2000000) [-selQ_sel, hokQ_of, h_5]
      have hr := (HS.some H).symm; subst hr
      exact Hid.mk ⟨(impl_Surface_paint_PaintMask_1_l1_X a1 a2 a3 a4 a5 a6 v2 x13).2, Wk.ofk [0, 1, 2, 3, 4, 5] hk (by rfl) (by simp -implicitDefEqProofs [impl_Surface_paint_PaintMask_1_l1_X, h_5]) (by simp -implicitDefEqProofs [impl_Surface_paint_PaintMask_1_l1_X, h_5]), hR⟩
    · replace H := HS.cnd_f h_5 H
      try simp -implicitDefEqProofs +decide (maxSteps := 2000000) [-selQ_sel, hokQ_of, h_5]
      obtain ⟨q, h_6, H⟩ := HS.bnd H
      refine Hid.mk (Tr.weak (s' := (impl_Surface_paint_PaintMask_1_l0_S a1 a2 a3 a4 a5 a6 v2 x12) (v2.x0, x13)) (Wk.ofk [0, 1, 2, 3, 4, 5, 6] hk (by rfl) (by simp -implicitDefEqProofs [impl_Surface_paint_PaintMask_1_l0_S, h_5]) (by simp -implicitDefEqProofs [impl_Surface_paint_PaintMask_1_l0_S, h_5])) ?_)
      refine wp_loop_of (S := (impl_Surface_paint_PaintMask_1_l0_S a1 a2 a3 a4 a5 a6 v2 x12)) (f := (impl_Surface_paint_PaintMask_1_l0 a1 a2 a3 a4 a5 a6 v2 x12)) (xt := (impl_Surface_paint_PaintMask_1_l0_X a1 a2 a3 a4 a5 a6 v2 x12)) ?_ ?_ h_6 ?_
      · intro q; simp [impl_Surface_paint_PaintMask_1_l0_X]
      · clear H h_6 q
        rintro ⟨x17, x18⟩ o R hf hR
        have H : HS (impl_Surface_paint_PaintMask_1_l0 a1 a2 a3 a4 a5 a6 v2 x12 (x17, x18)) o := hf
        clear hf; unfold impl_Surface_paint_PaintMask_1_l0 at H
        try simp -implicitDefEqProofs at H
        refine Tr.of_vc (cl := tabC [(105, impl_Surface_box_x), (157, impl_MeetBox_x), (117, impl_PaintMask_1_x)]) (E := E0) [] (tab_cons k_impl_Surface_box (tab_cons k_impl_MeetBox (tab_cons k_impl_PaintMask_1 tab_nil))) hm (by rw [hn]; decide +kernel) ?_
        try simp -implicitDefEqProofs +decide (maxSteps := 2000000) [-selQ_sel, hokQ_of, impl_Surface_paint_PaintMask_1_l0_S]
        refine Hid.brV (fun h_7 => ?_) (fun h_7 => ?_)
        · replace H := HS.cnd_t h_7 H
          try simp -implicitDefEqProofs +decide (maxSteps := 2000000) [-selQ_sel, hokQ_of, h_7]
          have hr := (HS.some H).symm; subst hr
          exact Hid.mk ⟨(impl_Surface_paint_PaintMask_1_l0_X a1 a2 a3 a4 a5 a6 v2 x12 x18).2, Wk.ofk [0, 1, 2, 3, 4, 5, 6] hk (by rfl) (by simp -implicitDefEqProofs [impl_Surface_paint_PaintMask_1_l0_X, h_7]) (by simp -implicitDefEqProofs [impl_Surface_paint_PaintMask_1_l0_X, h_7]), hR⟩
        · replace H := HS.cnd_f h_7 H
          try simp -implicitDefEqProofs +decide (maxSteps := 2000000) [-selQ_sel, hokQ_of, h_7]
          obtain ⟨v19, h_8, H⟩ := HS.bnd H
          have g_9 := idx_get h_8
          try simp -implicitDefEqProofs +decide (maxSteps := 2000000) [-selQ_sel, hokQ_of, h_7, h_8, g_9]
          obtain ⟨v20, h_10, H⟩ := HS.bnd H
          try simp -implicitDefEqProofs +decide (maxSteps := 2000000) [-selQ_sel, hokQ_of, h_7, h_8, g_9, h_10]
          obtain ⟨l21, h_11, H⟩ := HS.nam H
          have m_12 := congrArg (List.map eColor) h_11
          have q_13 := congrArg List.length h_11
          simp -implicitDefEqProofs at m_12 q_13
          try simp only [q_13] at m_12
          try simp only [q_13] at h_10
          try simp -implicitDefEqProofs +decide (maxSteps := 2000000) [-selQ_sel, hokQ_of, h_7, h_8, g_9, h_10, m_12, q_13]
          have hr := (HS.some H).symm; subst hr
          exact Hid.mk ⟨impl_Surface_paint_PaintMask_1_l0_S a1 a2 a3 a4 a5 a6 v2 x12 ((IntKind.i64.wrap (x17 + 1)), l21), Wk.ofk [0, 1, 2, 3, 4, 5, 6] hk (by rfl) (by simp -implicitDefEqProofs [impl_Surface_paint_PaintMask_1_l0_S, h_7, h_8, g_9, h_10, m_12, q_13]) (by simp -implicitDefEqProofs [impl_Surface_paint_PaintMask_1_l0_S, h_7, h_8, g_9, h_10, m_12, q_13]), hR⟩
      · revert H h_6; revert q; intro y22 h_6 H
        try dsimp only at H
        try simp -implicitDefEqProofs +decide (maxSteps := 2000000) [-selQ_sel, hokQ_of, h_5, impl_Surface_paint_PaintMask_1_l0_X]
        have hr := (HS.some H).symm; subst hr
        exact Hid.mk ⟨impl_Surface_paint_PaintMask_1_l1_S a1 a2 a3 a4 a5 a6 v2 ((IntKind.i64.wrap (x12 + 1)), y22), Wk.ofk [0, 1, 2, 3, 4, 5, 6] hk (by rfl) (by simp -implicitDefEqProofs [impl_Surface_paint_PaintMask_1_l1_S, h_5]) (by simp -implicitDefEqProofs [impl_Surface_paint_PaintMask_1_l1_S, h_5]), hR⟩
  · revert H h_4; revert q; intro y23 h_4 H
    try dsimp only at H
    try simp -implicitDefEqProofs +decide (maxSteps := 2000000) [-selQ_sel, hokQ_of, h_1, k_2, h_3, impl_Surface_paint_PaintMask_1_l1_X]
    have hr := (HS.some H).symm; subst hr
    refine Hid.mk ⟨_, Wk.refl _, ?_⟩
    try simp -implicitDefEqProofs +decide (maxSteps := 2000000) [-selQ_sel, hokQ_of, h_1, k_2, h_3]
theorem spec_l11Mask_ok0 (hm : Try.prog.follows .mixedOrders = true) (k_spec_l01Below : Sound Try.prog 110 spec_l01Below_x) (k_spec_l06Path : Sound Try.prog 183 spec_l06Path_x) (k_spec_FlatOf : Sound Try.prog 182 spec_FlatOf_x) (k_spec_MaskOf : Sound Try.prog 181 spec_MaskOf_x) (k_spec_l01Once : Sound Try.prog 184 spec_l01Once_x) (k_spec_l01PickInt : Sound Try.prog 171 spec_l01PickInt_x) : Sound Try.prog 114 spec_l11Mask_x := by
  refine xOf_sound fun q r h => ?_
  revert h; revert r; revert q; intro a0 r h
  refine fn_ok E0 hm Try.func114 rfl (by decide +kernel) (by rfl) fun Γ hn hk => ?_
  dsimp only [spec_l11Mask_e, spec_l11Mask_v]
  replace hn : Γ.n = 49 := hn
  replace hk : Γ.k = 1 := hk
  have H : HS (spec_l11Mask a0) r := h
  clear h; unfold spec_l11Mask at H
  try simp -implicitDefEqProofs at H
  refine Tr.of_vc (cl := tabC [(110, spec_l01Below_x), (183, spec_l06Path_x), (182, spec_FlatOf_x), (181, spec_MaskOf_x), (184, spec_l01Once_x), (171, spec_l01PickInt_x)]) (E := E0) [] (tab_cons k_spec_l01Below (tab_cons k_spec_l06Path (tab_cons k_spec_FlatOf (tab_cons k_spec_MaskOf (tab_cons k_spec_l01Once (tab_cons k_spec_l01PickInt tab_nil)))))) hm (by rw [hn]; decide +kernel) ?_
  try simp -implicitDefEqProofs +decide (maxSteps := 2000000) [-selQ_sel, hokQ_of]
  obtain ⟨⟨w2, w3⟩, h_1, H⟩ := HS.bnd H
  dsimp only at H
  try simp -implicitDefEqProofs +decide (maxSteps := 2000000) [-selQ_sel, hokQ_of, h_1]
  obtain ⟨⟨w5, w6⟩, h_2, H⟩ := HS.bnd H
  dsimp only at H
  try simp -implicitDefEqProofs +decide (maxSteps := 2000000) [-selQ_sel, hokQ_of, h_1, h_2]
  obtain ⟨⟨w8, w9⟩, h_3, H⟩ := HS.bnd H
  dsimp only at H
  try simp -implicitDefEqProofs +decide (maxSteps := 2000000) [-selQ_sel, hokQ_of, h_1, h_2, h_3]
  obtain ⟨⟨w11, w12⟩, h_4, H⟩ := HS.bnd H
  dsimp only at H
  try simp -implicitDefEqProofs +decide (maxSteps := 2000000) [-selQ_sel, hokQ_of, h_1, h_2, h_3, h_4]
  obtain ⟨⟨w14, w15⟩, h_5, H⟩ := HS.bnd H
  dsimp only at H
  try simp -implicitDefEqProofs +decide (maxSteps := 2000000) [-selQ_sel, hokQ_of, h_1, h_2, h_3, h_4, h_5]
  obtain ⟨v16, h_6, H⟩ := HS.bnd H
  try simp -implicitDefEqProofs +decide (maxSteps := 2000000) [-selQ_sel, hokQ_of, h_1, h_2, h_3, h_4, h_5, h_6]
  obtain ⟨⟨w18, w19⟩, h_7, H⟩ := HS.bnd H
  dsimp only at H
  try simp -implicitDefEqProofs +decide (maxSteps := 2000000) [-selQ_sel, hokQ_of, h_1, h_2, h_3, h_4, h_5, h_6, h_7]
  obtain ⟨⟨w21, w22⟩, h_8, H⟩ := HS.bnd H
  dsimp only at H
  try simp -implicitDefEqProofs +decide (maxSteps := 2000000) [-selQ_sel, hokQ_of, h_1, h_2, h_3, h_4, h_5, h_6, h_7, h_8]
  refine Hid.brV (fun h_9 => ?_) (fun h_9 => ?_)
  · replace H := HS.cnd_t h_9 H
    try simp -implicitDefEqProofs +decide (maxSteps := 2000000) [-selQ_sel, hokQ_of, h_1, h_2, h_3, h_4, h_5, h_6, h_7, h_8, h_9]
    obtain ⟨q, h_10, H⟩ := HS.bnd H
    refine Hid.mk (Tr.weak (s' := (spec_l11Mask_l0_S w18) (0, w22.b, w22.i, w22.h, w19)) (Wk.ofk [0, 1, 4, 3] hk (by rfl) (by simp -implicitDefEqProofs [spec_l11Mask_l0_S, h_1, h_2, h_3, h_4, h_5, h_6, h_7, h_8, h_9]) (by simp -implicitDefEqProofs [spec_l11Mask_l0_S, h_1, h_2, h_3, h_4, h_5, h_6, h_7, h_8, h_9])) ?_)
    refine wp_loop_of (S := (spec_l11Mask_l0_S w18)) (f := (spec_l11Mask_l0 w18)) (xt := (spec_l11Mask_l0_X w18)) ?_ ?_ h_10 ?_
    · intro q; rcases q with ⟨y38, y39, y40, y41⟩ <;> simp [spec_l11Mask_l0_X]
    · clear H h_10 q
      rintro ⟨x28, x29, x30, x31, x32⟩ o R hf hR
      have H : HS (spec_l11Mask_l0 w18 (x28, x29, x30, x31, x32)) o := hf
      clear hf; unfold spec_l11Mask_l0 at H
      try simp -implicitDefEqProofs at H
      refine Tr.of_vc (cl := tabC [(110, spec_l01Below_x), (183, spec_l06Path_x), (182, spec_FlatOf_x), (181, spec_MaskOf_x), (184, spec_l01Once_x), (171, spec_l01PickInt_x)]) (E := E0) [] (tab_cons k_spec_l01Below (tab_cons k_spec_l06Path (tab_cons k_spec_FlatOf (tab_cons k_spec_MaskOf (tab_cons k_spec_l01Once (tab_cons k_spec_l01PickInt tab_nil)))))) hm (by rw [hn]; decide +kernel) ?_
      try simp -implicitDefEqProofs +decide (maxSteps := 2000000) [-selQ_sel, hokQ_of, spec_l11Mask_l0_S]
      refine Hid.brV (fun h_11 => ?_) (fun h_11 => ?_)
      · replace H := HS.cnd_t h_11 H
        try simp -implicitDefEqProofs +decide (maxSteps := 2000000) [-selQ_sel, hokQ_of, h_11]
        have hr := (HS.some H).symm; subst hr
        exact Hid.mk ⟨(spec_l11Mask_l0_X w18 (x29, x30, x31, x32)).2, Wk.ofk [0, 1, 2, 3] hk (by rfl) (by simp -implicitDefEqProofs [spec_l11Mask_l0_X, h_11]) (by simp -implicitDefEqProofs [spec_l11Mask_l0_X, h_11]), hR⟩
      · replace H := HS.cnd_f h_11 H
        try simp -implicitDefEqProofs +decide (maxSteps := 2000000) [-selQ_sel, hokQ_of, h_11]
        obtain ⟨⟨w34, w35⟩, h_12, H⟩ := HS.bnd H
        dsimp only at H
        have k_13 := spec_l01PickInt_k ((TL01Cur.mk x29 x30 x31).b) ((TL01Cur.mk x29 x30 x31).i) ((TL01Cur.mk x29 x30 x31).h) [0, 0, 15, 15, 3, 8]
        simp -implicitDefEqProofs [-spec_l01PickInt_k] at k_13
        try simp -implicitDefEqProofs +decide (maxSteps := 2000000) [-selQ_sel, hokQ_of, h_11, h_12, k_13]
        obtain ⟨v36, h_14, H⟩ := HS.bnd H
        have g_15 := idx_get h_14
        try simp -implicitDefEqProofs +decide (maxSteps := 2000000) [-selQ_sel, hokQ_of, h_11, h_12, k_13, h_14, g_15]
        obtain ⟨l37, h_16, H⟩ := HS.nam H
        have m_17 := congrArg (List.map (AV.int .i64)) h_16
        have q_18 := congrArg List.length h_16
        simp -implicitDefEqProofs at m_17 q_18
        try simp only [q_18] at m_17
        try simp only [q_18] at g_15
        try simp -implicitDefEqProofs +decide (maxSteps := 2000000) [-selQ_sel, hokQ_of, h_11, h_12, k_13, h_14, g_15, m_17, q_18]
        have hr := (HS.some H).symm; subst hr
        exact Hid.mk ⟨spec_l11Mask_l0_S w18 ((IntKind.i64.wrap (x28 + 1)), w35.b, w35.i, w35.h, l37), Wk.ofk [0, 1, 2, 3] hk (by rfl) (by simp -implicitDefEqProofs [spec_l11Mask_l0_S, h_11, h_12, k_13, h_14, g_15, m_17, q_18]) (by simp -implicitDefEqProofs [spec_l11Mask_l0_S, h_11, h_12, k_13, h_14, g_15, m_17, q_18]), hR⟩
    · obtain ⟨y38, y39, y40, y41⟩ := q
      try dsimp only at H
      try simp -implicitDefEqProofs +decide (maxSteps := 2000000) [-selQ_sel, hokQ_of, h_1, h_2, h_3, h_4, h_5, h_6, h_7, h_8, h_9, spec_l11Mask_l0_X]
      have hr := (HS.some H).symm; subst hr
      refine Hid.mk ⟨_, Wk.refl _, ?_⟩
      try simp -implicitDefEqProofs +decide (maxSteps := 2000000) [-selQ_sel, hokQ_of, h_1, h_2, h_3, h_4, h_5, h_6, h_7, h_8, h_9]
  · replace H := HS.cnd_f h_9 H
    try simp -implicitDefEqProofs +decide (maxSteps := 2000000) [-selQ_sel, hokQ_of, h_1, h_2, h_3, h_4, h_5, h_6, h_7, h_8, h_9]
    have hr := (HS.some H).symm; subst hr
    refine Hid.mk ⟨_, Wk.refl _, ?_⟩
    try simp -implicitDefEqProofs +decide (maxSteps := 2000000) [-selQ_sel, hokQ_of, h_1, h_2, h_3, h_4, h_5, h_6, h_7, h_8, h_9]
theorem spec_SurfaceOk_ok0 (hm : Try.prog.follows .mixedOrders = true) (k_spec_l01In : Sound Try.prog 73 spec_l01In_x) (k_spec_LaidOk : Sound Try.prog 121 spec_LaidOk_x) : Sound Try.prog 82 spec_SurfaceOk_x := by
  refine xOf_sound fun q r h => ?_
  revert h; revert r; revert q; intro a0 r h
  refine fn_ok E0 hm Try.func82 rfl (by decide +kernel) (by rfl) fun Γ hn hk => ?_
  dsimp only [spec_SurfaceOk_e, spec_SurfaceOk_v]
  replace hn : Γ.n = 39 := hn
  replace hk : Γ.k = 0 := hk
  have H : HS (spec_SurfaceOk a0) r := h
  clear h; unfold spec_SurfaceOk at H
  try simp -implicitDefEqProofs at H
  refine Tr.of_vc (cl := tabC [(73, spec_l01In_x), (121, spec_LaidOk_x)]) (E := E0) [] (tab_cons k_spec_l01In (tab_cons k_spec_LaidOk tab_nil)) hm (by rw [hn]; decide +kernel) ?_
  try simp -implicitDefEqProofs (maxSteps := 2000000) [-selQ_sel]
  obtain ⟨v1, h_1, H⟩ := HS.bnd H
  try simp -implicitDefEqProofs (maxSteps := 2000000) [-selQ_sel, h_1]
  refine Hid.selQ (fun h_2 => ?_) (fun h_2 => ?_)
  · replace H := HS.cnd_t h_2 H
    try simp -implicitDefEqProofs (maxSteps := 2000000) [-selQ_sel, h_1, h_2]
    obtain ⟨v2, h_3, H⟩ := HS.bnd H
    try simp -implicitDefEqProofs (maxSteps := 2000000) [-selQ_sel, h_1, h_2, h_3]
    refine Hid.selQ (fun h_4 => ?_) (fun h_4 => ?_)
    · replace H := HS.cnd_t h_4 H
      try simp -implicitDefEqProofs (maxSteps := 2000000) [-selQ_sel, h_1, h_2, h_3, h_4]
      refine Hid.brV (fun h_5 => ?_) (fun h_5 => ?_)
      · replace H := HS.cnd_t h_5 H
        try simp -implicitDefEqProofs (maxSteps := 2000000) [-selQ_sel, h_1, h_2, h_3, h_4, h_5]
        obtain ⟨q, h_6, H⟩ := HS.bnd H
        refine Hid.mk (Tr.weak (s' := (spec_SurfaceOk_l0_S a0) 0) (Wk.ofk [0] hk (by rfl) (by simp -implicitDefEqProofs [spec_SurfaceOk_l0_S, h_1, h_2, h_3, h_4, h_5]) (by simp -implicitDefEqProofs [spec_SurfaceOk_l0_S, h_1, h_2, h_3, h_4, h_5])) ?_)
        refine wp_loop_of (S := (spec_SurfaceOk_l0_S a0)) (f := (spec_SurfaceOk_l0 a0)) (xt := (spec_SurfaceOk_l0_X a0)) ?_ ?_ h_6 ?_
        · intro q; rcases q with ⟨⟩ | ⟨⟩ <;> simp [spec_SurfaceOk_l0_X]
        · clear H h_6 q
          rintro x5 o R hf hR
          have H : HS (spec_SurfaceOk_l0 a0 x5) o := hf
          clear hf; unfold spec_SurfaceOk_l0 at H
          try simp -implicitDefEqProofs at H
          refine Tr.of_vc (cl := tabC [(73, spec_l01In_x), (121, spec_LaidOk_x)]) (E := E0) [] (tab_cons k_spec_l01In (tab_cons k_spec_LaidOk tab_nil)) hm (by rw [hn]; decide +kernel) ?_
          try simp -implicitDefEqProofs (maxSteps := 2000000) [-selQ_sel, spec_SurfaceOk_l0_S]
          refine Hid.brV (fun h_7 => ?_) (fun h_7 => ?_)
          · replace H := HS.cnd_t h_7 H
            try simp -implicitDefEqProofs (maxSteps := 2000000) [-selQ_sel, h_7]
            have hr := (HS.some H).symm; subst hr
            exact Hid.mk ⟨(spec_SurfaceOk_l0_X a0 (.inl ())).2, Wk.ofk [] hk (by rfl) (by simp -implicitDefEqProofs [spec_SurfaceOk_l0_X, h_7]) (by simp -implicitDefEqProofs [spec_SurfaceOk_l0_X, h_7]), hR⟩
          · replace H := HS.cnd_f h_7 H
            try simp -implicitDefEqProofs (maxSteps := 2000000) [-selQ_sel, h_7]
            obtain ⟨v6, h_8, H⟩ := HS.bnd H
            try simp -implicitDefEqProofs (maxSteps := 2000000) [-selQ_sel, h_7, h_8]
            obtain ⟨v7, h_9, H⟩ := HS.bnd H
            try simp -implicitDefEqProofs (maxSteps := 2000000) [-selQ_sel, h_7, h_8, h_9]
            refine Hid.brV (fun h_10 => ?_) (fun h_10 => ?_)
            · replace H := HS.cnd_t h_10 H
              try simp -implicitDefEqProofs (maxSteps := 2000000) [-selQ_sel, h_7, h_8, h_9, h_10]
              have hr := (HS.some H).symm; subst hr
              exact Hid.mk ⟨spec_SurfaceOk_l0_S a0 (IntKind.i64.wrap (x5 + 1)), Wk.ofk [0] hk (by rfl) (by simp -implicitDefEqProofs [spec_SurfaceOk_l0_S, h_7, h_8, h_9, h_10]) (by simp -implicitDefEqProofs [spec_SurfaceOk_l0_S, h_7, h_8, h_9, h_10]), hR⟩
            · replace H := HS.cnd_f h_10 H
              try simp -implicitDefEqProofs (maxSteps := 2000000) [-selQ_sel, h_7, h_8, h_9, h_10]
              have hr := (HS.some H).symm; subst hr
              exact Hid.mk ⟨(spec_SurfaceOk_l0_X a0 (.inr ())).2, Wk.ofk [] hk (by rfl) (by simp -implicitDefEqProofs [spec_SurfaceOk_l0_X, h_7, h_8, h_9, h_10]) (by simp -implicitDefEqProofs [spec_SurfaceOk_l0_X, h_7, h_8, h_9, h_10]), hR⟩
        · rcases q with ⟨⟩ | ⟨⟩
          · dsimp only at H
            try simp -implicitDefEqProofs (maxSteps := 2000000) [-selQ_sel, h_1, h_2, h_3, h_4, h_5, spec_SurfaceOk_l0_X]
            have hr := (HS.some H).symm; subst hr
            refine Hid.mk ⟨_, Wk.refl _, ?_⟩
            try simp -implicitDefEqProofs (maxSteps := 2000000) [-selQ_sel, h_1, h_2, h_3, h_4, h_5]
          · dsimp only at H
            try simp -implicitDefEqProofs (maxSteps := 2000000) [-selQ_sel, h_1, h_2, h_3, h_4, h_5, spec_SurfaceOk_l0_X]
            have hr := (HS.some H).symm; subst hr
            refine Hid.mk ⟨_, Wk.refl _, ?_⟩
            try simp -implicitDefEqProofs (maxSteps := 2000000) [-selQ_sel, h_1, h_2, h_3, h_4, h_5]
      · replace H := HS.cnd_f h_5 H
        try simp -implicitDefEqProofs (maxSteps := 2000000) [-selQ_sel, h_1, h_2, h_3, h_4, h_5]
        have hr := (HS.some H).symm; subst hr
        refine Hid.mk ⟨_, Wk.refl _, ?_⟩
        try simp -implicitDefEqProofs (maxSteps := 2000000) [-selQ_sel, h_1, h_2, h_3, h_4, h_5]
    · replace H := HS.cnd_f h_4 H
      try simp -implicitDefEqProofs (maxSteps := 2000000) [-selQ_sel, h_1, h_2, h_3, h_4]
      have hr := (HS.some H).symm; subst hr
      refine Hid.mk ⟨_, Wk.refl _, ?_⟩
      try simp -implicitDefEqProofs (maxSteps := 2000000) [-selQ_sel, h_1, h_2, h_3, h_4]
  · replace H := HS.cnd_f h_2 H
    try simp -implicitDefEqProofs (maxSteps := 2000000) [-selQ_sel, h_1, h_2]
    have hr := (HS.some H).symm; subst hr
    refine Hid.mk ⟨_, Wk.refl _, ?_⟩
    try simp -implicitDefEqProofs (maxSteps := 2000000) [-selQ_sel, h_1, h_2]
theorem spec_MaskAt_ok0 (hm : Try.prog.follows .mixedOrders = true) (k_spec_l01In : Sound Try.prog 73 spec_l01In_x) (k_spec_Covers : Sound Try.prog 241 spec_Covers_x) : Sound Try.prog 221 spec_MaskAt_x := by
  refine xOf_sound fun q r h => ?_
  obtain ⟨a0, a1, a2, a3⟩ := q
  refine fn_ok E0 hm Try.func221 rfl (by decide +kernel) (by rfl) fun Γ hn hk => ?_
  dsimp only [spec_MaskAt_e, spec_MaskAt_v]
  replace hn : Γ.n = 50 := hn
  replace hk : Γ.k = 0 := hk
  have H : HS (spec_MaskAt a0 a1 a2 a3) r := h
  clear h; unfold spec_MaskAt at H
  try simp -implicitDefEqProofs at H
  refine Tr.of_vc (cl := tabC [(73, spec_l01In_x), (241, spec_Covers_x)]) (E := E0) [] (tab_cons k_spec_l01In (tab_cons k_spec_Covers tab_nil)) hm (by rw [hn]; decide +kernel) ?_
  try simp -implicitDefEqProofs (maxSteps := 2000000) [-selQ_sel]
  obtain ⟨v1, h_1, H⟩ := HS.bnd H
  try simp -implicitDefEqProofs (maxSteps := 2000000) [-selQ_sel, h_1]
  refine Hid.selQ (fun h_2 => ?_) (fun h_2 => ?_)
  · replace H := HS.cnd_t h_2 H
    try simp -implicitDefEqProofs (maxSteps := 2000000) [-selQ_sel, h_1, h_2]
    obtain ⟨v2, h_3, H⟩ := HS.bnd H
    try simp -implicitDefEqProofs (maxSteps := 2000000) [-selQ_sel, h_1, h_2, h_3]
    refine Hid.brV (fun h_4 => ?_) (fun h_4 => ?_)
    · replace H := HS.cnd_t h_4 H
      try simp -implicitDefEqProofs (maxSteps := 2000000) [-selQ_sel, h_1, h_2, h_3, h_4]
      obtain ⟨q, h_5, H⟩ := HS.bnd H
      refine Hid.mk (Tr.weak (s' := (spec_MaskAt_l0_S a0 a1 a2 a3) (0, 0)) (Wk.ofk [] hk (by rfl) (by simp -implicitDefEqProofs [spec_MaskAt_l0_S, h_1, h_2, h_3, h_4]) (by simp -implicitDefEqProofs [spec_MaskAt_l0_S, h_1, h_2, h_3, h_4])) ?_)
      refine wp_loop_of (S := (spec_MaskAt_l0_S a0 a1 a2 a3)) (f := (spec_MaskAt_l0 a0 a1 a2 a3)) (xt := (spec_MaskAt_l0_X a0 a1 a2 a3)) ?_ ?_ h_5 ?_
      · intro q; simp [spec_MaskAt_l0_X]
      · clear H h_5 q
        rintro ⟨x4, x5⟩ o R hf hR
        have H : HS (spec_MaskAt_l0 a0 a1 a2 a3 (x4, x5)) o := hf
        clear hf; unfold spec_MaskAt_l0 at H
        try simp -implicitDefEqProofs at H
        refine Tr.of_vc (cl := tabC [(73, spec_l01In_x), (241, spec_Covers_x)]) (E := E0) [] (tab_cons k_spec_l01In (tab_cons k_spec_Covers tab_nil)) hm (by rw [hn]; decide +kernel) ?_
        try simp -implicitDefEqProofs (maxSteps := 2000000) [-selQ_sel, spec_MaskAt_l0_S]
        refine Hid.brV (fun h_6 => ?_) (fun h_6 => ?_)
        · replace H := HS.cnd_t h_6 H
          try simp -implicitDefEqProofs (maxSteps := 2000000) [-selQ_sel, h_6]
          have hr := (HS.some H).symm; subst hr
          exact Hid.mk ⟨(spec_MaskAt_l0_X a0 a1 a2 a3 x4).2, Wk.ofk [] hk (by rfl) (by simp -implicitDefEqProofs [spec_MaskAt_l0_X, h_6]) (by simp -implicitDefEqProofs [spec_MaskAt_l0_X, h_6]), hR⟩
        · replace H := HS.cnd_f h_6 H
          try simp -implicitDefEqProofs (maxSteps := 2000000) [-selQ_sel, h_6]
          obtain ⟨v6, h_7, H⟩ := HS.bnd H
          try simp -implicitDefEqProofs (maxSteps := 2000000) [-selQ_sel, h_6, h_7]
          refine Hid.brV (fun h_8 => ?_) (fun h_8 => ?_)
          · replace H := HS.cnd_t h_8 H
            try simp -implicitDefEqProofs (maxSteps := 2000000) [-selQ_sel, h_6, h_7, h_8]
            obtain ⟨v7, h_9, H⟩ := HS.bnd H
            have g_10 := idx_get h_9
            have g_11 := idx_map (e := (AV.int .i64)) h_9
            have g_12 := idx_get g_11
            simp -implicitDefEqProofs at g_11 g_12
            try simp -implicitDefEqProofs (maxSteps := 2000000) [-selQ_sel, h_6, h_7, h_8, h_9, g_10, g_11, g_12]
            have hr := (HS.some H).symm; subst hr
            exact Hid.mk ⟨spec_MaskAt_l0_S a0 a1 a2 a3 ((IntKind.i64.wrap (x4 + v7)), (IntKind.i64.wrap (x5 + 1))), Wk.ofk [] hk (by rfl) (by simp -implicitDefEqProofs [spec_MaskAt_l0_S, h_6, h_7, h_8, h_9, g_10, g_11, g_12]) (by simp -implicitDefEqProofs [spec_MaskAt_l0_S, h_6, h_7, h_8, h_9, g_10, g_11, g_12]), hR⟩
          · replace H := HS.cnd_f h_8 H
            try simp -implicitDefEqProofs (maxSteps := 2000000) [-selQ_sel, h_6, h_7, h_8]
            have hr := (HS.some H).symm; subst hr
            exact Hid.mk ⟨spec_MaskAt_l0_S a0 a1 a2 a3 (x4, (IntKind.i64.wrap (x5 + 1))), Wk.ofk [] hk (by rfl) (by simp -implicitDefEqProofs [spec_MaskAt_l0_S, h_6, h_7, h_8]) (by simp -implicitDefEqProofs [spec_MaskAt_l0_S, h_6, h_7, h_8]), hR⟩
      · revert H h_5; revert q; intro y8 h_5 H
        try dsimp only at H
        try simp -implicitDefEqProofs (maxSteps := 2000000) [-selQ_sel, h_1, h_2, h_3, h_4, spec_MaskAt_l0_X]
        have hr := (HS.some H).symm; subst hr
        refine Hid.mk ⟨_, Wk.refl _, ?_⟩
        try simp -implicitDefEqProofs (maxSteps := 2000000) [-selQ_sel, h_1, h_2, h_3, h_4]
    · replace H := HS.cnd_f h_4 H
      try simp -implicitDefEqProofs (maxSteps := 2000000) [-selQ_sel, h_1, h_2, h_3, h_4]
      have hr := (HS.some H).symm; subst hr
      refine Hid.mk ⟨_, Wk.refl _, ?_⟩
      try simp -implicitDefEqProofs (maxSteps := 2000000) [-selQ_sel, h_1, h_2, h_3, h_4]
  · replace H := HS.cnd_f h_2 H
    try simp -implicitDefEqProofs (maxSteps := 2000000) [-selQ_sel, h_1, h_2]
    have hr := (HS.some H).symm; subst hr
    refine Hid.mk ⟨_, Wk.refl _, ?_⟩
    try simp -implicitDefEqProofs (maxSteps := 2000000) [-selQ_sel, h_1, h_2]
theorem spec_l11Box_ok0 (hm : Try.prog.follows .mixedOrders = true) (k_spec_Empty : Sound Try.prog 84 spec_Empty_x) (k_spec_l01In : Sound Try.prog 73 spec_l01In_x) : Sound Try.prog 148 spec_l11Box_x := by
  refine xOf_sound fun q r h => ?_
  revert h; revert r; revert q; intro a0 r h
  refine fn_ok E0 hm Try.func148 rfl (by decide +kernel) (by rfl) fun Γ hn hk => ?_
  dsimp only [spec_l11Box_e, spec_l11Box_v]
  replace hn : Γ.n = 42 := hn
  replace hk : Γ.k = 0 := hk
  have H : HS (spec_l11Box a0) r := h
  clear h; unfold spec_l11Box at H
  try simp -implicitDefEqProofs at H
  refine Tr.of_vc (cl := tabC [(84, spec_Empty_x), (73, spec_l01In_x)]) (E := E0) [] (tab_cons k_spec_Empty (tab_cons k_spec_l01In tab_nil)) hm (by rw [hn]; decide +kernel) ?_
  try simp -implicitDefEqProofs (maxSteps := 2000000) [-selQ_sel]
  obtain ⟨v1, h_1, H⟩ := HS.bnd H
  try simp -implicitDefEqProofs (maxSteps := 2000000) [-selQ_sel, h_1]
  refine Hid.selQ (fun h_2 => ?_) (fun h_2 => ?_)
  · replace H := HS.cnd_t h_2 H
    try simp -implicitDefEqProofs (maxSteps := 2000000) [-selQ_sel, h_1, h_2]
    have hr := (HS.some H).symm; subst hr
    refine Hid.mk ⟨_, Wk.refl _, ?_⟩
    try simp -implicitDefEqProofs (maxSteps := 2000000) [-selQ_sel, h_1, h_2]
  · replace H := HS.cnd_f h_2 H
    try simp -implicitDefEqProofs (maxSteps := 2000000) [-selQ_sel, h_1, h_2]
    obtain ⟨v2, h_3, H⟩ := HS.bnd H
    try simp -implicitDefEqProofs (maxSteps := 2000000) [-selQ_sel, h_1, h_2, h_3]
    refine Hid.selQ (fun h_4 => ?_) (fun h_4 => ?_)
    · replace H := HS.cnd_t h_4 H
      try simp -implicitDefEqProofs (maxSteps := 2000000) [-selQ_sel, h_1, h_2, h_3, h_4]
      obtain ⟨v3, h_5, H⟩ := HS.bnd H
      try simp -implicitDefEqProofs (maxSteps := 2000000) [-selQ_sel, h_1, h_2, h_3, h_4, h_5]
      refine Hid.selQ (fun h_6 => ?_) (fun h_6 => ?_)
      · replace H := HS.cnd_t h_6 H
        try simp -implicitDefEqProofs (maxSteps := 2000000) [-selQ_sel, h_1, h_2, h_3, h_4, h_5, h_6]
        obtain ⟨v4, h_7, H⟩ := HS.bnd H
        try simp -implicitDefEqProofs (maxSteps := 2000000) [-selQ_sel, h_1, h_2, h_3, h_4, h_5, h_6, h_7]
        refine Hid.selQ (fun h_8 => ?_) (fun h_8 => ?_)
        · replace H := HS.cnd_t h_8 H
          try simp -implicitDefEqProofs (maxSteps := 2000000) [-selQ_sel, h_1, h_2, h_3, h_4, h_5, h_6, h_7, h_8]
          obtain ⟨v5, h_9, H⟩ := HS.bnd H
          try simp -implicitDefEqProofs (maxSteps := 2000000) [-selQ_sel, h_1, h_2, h_3, h_4, h_5, h_6, h_7, h_8, h_9]
          refine Hid.selQ (fun h_10 => ?_) (fun h_10 => ?_)
          · replace H := HS.cnd_t h_10 H
            try simp -implicitDefEqProofs (maxSteps := 2000000) [-selQ_sel, h_1, h_2, h_3, h_4, h_5, h_6, h_7, h_8, h_9, h_10]
            refine Hid.selQ (fun h_11 => ?_) (fun h_11 => ?_)
            · replace H := HS.cnd_t h_11 H
              try simp -implicitDefEqProofs (maxSteps := 2000000) [-selQ_sel, h_1, h_2, h_3, h_4, h_5, h_6, h_7, h_8, h_9, h_10, h_11]
              have hr := (HS.some H).symm; subst hr
              refine Hid.mk ⟨_, Wk.refl _, ?_⟩
              try simp -implicitDefEqProofs (maxSteps := 2000000) [-selQ_sel, h_1, h_2, h_3, h_4, h_5, h_6, h_7, h_8, h_9, h_10, h_11]
            · replace H := HS.cnd_f h_11 H
              try simp -implicitDefEqProofs (maxSteps := 2000000) [-selQ_sel, h_1, h_2, h_3, h_4, h_5, h_6, h_7, h_8, h_9, h_10, h_11]
              have hr := (HS.some H).symm; subst hr
              refine Hid.mk ⟨_, Wk.refl _, ?_⟩
              try simp -implicitDefEqProofs (maxSteps := 2000000) [-selQ_sel, h_1, h_2, h_3, h_4, h_5, h_6, h_7, h_8, h_9, h_10, h_11]
          · replace H := HS.cnd_f h_10 H
            try simp -implicitDefEqProofs (maxSteps := 2000000) [-selQ_sel, h_1, h_2, h_3, h_4, h_5, h_6, h_7, h_8, h_9, h_10]
            have hr := (HS.some H).symm; subst hr
            refine Hid.mk ⟨_, Wk.refl _, ?_⟩
            try simp -implicitDefEqProofs (maxSteps := 2000000) [-selQ_sel, h_1, h_2, h_3, h_4, h_5, h_6, h_7, h_8, h_9, h_10]
        · replace H := HS.cnd_f h_8 H
          try simp -implicitDefEqProofs (maxSteps := 2000000) [-selQ_sel, h_1, h_2, h_3, h_4, h_5, h_6, h_7, h_8]
          have hr := (HS.some H).symm; subst hr
          refine Hid.mk ⟨_, Wk.refl _, ?_⟩
          try simp -implicitDefEqProofs (maxSteps := 2000000) [-selQ_sel, h_1, h_2, h_3, h_4, h_5, h_6, h_7, h_8]
      · replace H := HS.cnd_f h_6 H
        try simp -implicitDefEqProofs (maxSteps := 2000000) [-selQ_sel, h_1, h_2, h_3, h_4, h_5, h_6]
        have hr := (HS.some H).symm; subst hr
        refine Hid.mk ⟨_, Wk.refl _, ?_⟩
        try simp -implicitDefEqProofs (maxSteps := 2000000) [-selQ_sel, h_1, h_2, h_3, h_4, h_5, h_6]
    · replace H := HS.cnd_f h_4 H
      try simp -implicitDefEqProofs (maxSteps := 2000000) [-selQ_sel, h_1, h_2, h_3, h_4]
      have hr := (HS.some H).symm; subst hr
      refine Hid.mk ⟨_, Wk.refl _, ?_⟩
      try simp -implicitDefEqProofs (maxSteps := 2000000) [-selQ_sel, h_1, h_2, h_3, h_4]
theorem impl_isMaskBox_ok0 (hm : Try.prog.follows .mixedOrders = true) (k_impl_Empty : Sound Try.prog 158 impl_Empty_x) : Sound Try.prog 152 impl_isMaskBox_x := by
  refine xOf_sound fun q r h => ?_
  revert h; revert r; revert q; intro a0 r h
  refine fn_ok E0 hm Try.func152 rfl (by decide +kernel) (by rfl) fun Γ hn hk => ?_
  dsimp only [impl_isMaskBox_e, impl_isMaskBox_v]
  replace hn : Γ.n = 39 := hn
  replace hk : Γ.k = 0 := hk
  have H : HS (impl_isMaskBox a0) r := h
  clear h; unfold impl_isMaskBox at H
  try simp -implicitDefEqProofs at H
  refine Tr.of_vc (cl := tabC [(158, impl_Empty_x)]) (E := E0) [] (tab_cons k_impl_Empty tab_nil) hm (by rw [hn]; decide +kernel) ?_
  try simp -implicitDefEqProofs (maxSteps := 2000000) [-selQ_sel]
  obtain ⟨v1, h_1, H⟩ := HS.bnd H
  try simp -implicitDefEqProofs (maxSteps := 2000000) [-selQ_sel, h_1]
  refine Hid.selQ (fun h_2 => ?_) (fun h_2 => ?_)
  · replace H := HS.cnd_t h_2 H
    try simp -implicitDefEqProofs (maxSteps := 2000000) [-selQ_sel, h_1, h_2]
    have hr := (HS.some H).symm; subst hr
    refine Hid.mk ⟨_, Wk.refl _, ?_⟩
    try simp -implicitDefEqProofs (maxSteps := 2000000) [-selQ_sel, h_1, h_2]
  · replace H := HS.cnd_f h_2 H
    try simp -implicitDefEqProofs (maxSteps := 2000000) [-selQ_sel, h_1, h_2]
    refine Hid.selQ (fun h_3 => ?_) (fun h_3 => ?_)
    · replace H := HS.cnd_t h_3 H
      try simp -implicitDefEqProofs (maxSteps := 2000000) [-selQ_sel, h_1, h_2, h_3]
      refine Hid.selQ (fun h_4 => ?_) (fun h_4 => ?_)
      · replace H := HS.cnd_t h_4 H
        try simp -implicitDefEqProofs (maxSteps := 2000000) [-selQ_sel, h_1, h_2, h_3, h_4]
        refine Hid.selQ (fun h_5 => ?_) (fun h_5 => ?_)
        · replace H := HS.cnd_t h_5 H
          try simp -implicitDefEqProofs (maxSteps := 2000000) [-selQ_sel, h_1, h_2, h_3, h_4, h_5]
          refine Hid.brV (fun h_6 => ?_) (fun h_6 => ?_)
          · replace H := HS.cnd_t h_6 H
            try simp -implicitDefEqProofs (maxSteps := 2000000) [-selQ_sel, h_1, h_2, h_3, h_4, h_5, h_6]
            refine Hid.selQ (fun h_7 => ?_) (fun h_7 => ?_)
            · replace H := HS.cnd_t h_7 H
              try simp -implicitDefEqProofs (maxSteps := 2000000) [-selQ_sel, h_1, h_2, h_3, h_4, h_5, h_6, h_7]
              have hr := (HS.some H).symm; subst hr
              refine Hid.mk ⟨_, Wk.refl _, ?_⟩
              try simp -implicitDefEqProofs (maxSteps := 2000000) [-selQ_sel, h_1, h_2, h_3, h_4, h_5, h_6, h_7]
            · replace H := HS.cnd_f h_7 H
              try simp -implicitDefEqProofs (maxSteps := 2000000) [-selQ_sel, h_1, h_2, h_3, h_4, h_5, h_6, h_7]
              have hr := (HS.some H).symm; subst hr
              refine Hid.mk ⟨_, Wk.refl _, ?_⟩
              try simp -implicitDefEqProofs (maxSteps := 2000000) [-selQ_sel, h_1, h_2, h_3, h_4, h_5, h_6, h_7]
          · replace H := HS.cnd_f h_6 H
            try simp -implicitDefEqProofs (maxSteps := 2000000) [-selQ_sel, h_1, h_2, h_3, h_4, h_5, h_6]
            have hr := (HS.some H).symm; subst hr
            refine Hid.mk ⟨_, Wk.refl _, ?_⟩
            try simp -implicitDefEqProofs (maxSteps := 2000000) [-selQ_sel, h_1, h_2, h_3, h_4, h_5, h_6]
        · replace H := HS.cnd_f h_5 H
          try simp -implicitDefEqProofs (maxSteps := 2000000) [-selQ_sel, h_1, h_2, h_3, h_4, h_5]
          have hr := (HS.some H).symm; subst hr
          refine Hid.mk ⟨_, Wk.refl _, ?_⟩
          try simp -implicitDefEqProofs (maxSteps := 2000000) [-selQ_sel, h_1, h_2, h_3, h_4, h_5]
      · replace H := HS.cnd_f h_4 H
        try simp -implicitDefEqProofs (maxSteps := 2000000) [-selQ_sel, h_1, h_2, h_3, h_4]
        have hr := (HS.some H).symm; subst hr
        refine Hid.mk ⟨_, Wk.refl _, ?_⟩
        try simp -implicitDefEqProofs (maxSteps := 2000000) [-selQ_sel, h_1, h_2, h_3, h_4]
    · replace H := HS.cnd_f h_3 H
      try simp -implicitDefEqProofs (maxSteps := 2000000) [-selQ_sel, h_1, h_2, h_3]
      have hr := (HS.some H).symm; subst hr
      refine Hid.mk ⟨_, Wk.refl _, ?_⟩
      try simp -implicitDefEqProofs (maxSteps := 2000000) [-selQ_sel, h_1, h_2, h_3]
theorem spec_Covers_ok0 (hm : Try.prog.follows .mixedOrders = true) (k_spec_WindOf : Sound Try.prog 245 spec_WindOf_x) : Sound Try.prog 241 spec_Covers_x := by
  refine xOf_sound fun q r h => ?_
  obtain ⟨a0, a1, a2⟩ := q
  refine fn_ok E0 hm Try.func241 rfl (by decide +kernel) (by rfl) fun Γ hn hk => ?_
  dsimp only [spec_Covers_e, spec_Covers_v]
  replace hn : Γ.n = 29 := hn
  replace hk : Γ.k = 0 := hk
  have H : HS (spec_Covers a0 a1 a2) r := h
  clear h; unfold spec_Covers at H
  try simp -implicitDefEqProofs at H
  refine Tr.of_vc (cl := tabC [(245, spec_WindOf_x)]) (E := E0) [] (tab_cons k_spec_WindOf tab_nil) hm (by rw [hn]; decide +kernel) ?_
  try simp -implicitDefEqProofs +decide (maxSteps := 2000000) [-selQ_sel, hokQ_of]
  obtain ⟨q, h_1, H⟩ := HS.bnd H
  refine Hid.mk (Tr.weak (s' := (spec_Covers_l0_S a0 a1 a2) (0, 0)) (Wk.ofk [0] hk (by rfl) (by simp -implicitDefEqProofs [spec_Covers_l0_S]) (by simp -implicitDefEqProofs [spec_Covers_l0_S])) ?_)
  refine wp_loop_of (S := (spec_Covers_l0_S a0 a1 a2)) (f := (spec_Covers_l0 a0 a1 a2)) (xt := (spec_Covers_l0_X a0 a1 a2)) ?_ ?_ h_1 ?_
  · intro q; simp [spec_Covers_l0_X]
  · clear H h_1 q
    rintro ⟨x3, x4⟩ o R hf hR
    have H : HS (spec_Covers_l0 a0 a1 a2 (x3, x4)) o := hf
    clear hf; unfold spec_Covers_l0 at H
    try simp -implicitDefEqProofs at H
    refine Tr.of_vc (cl := tabC [(245, spec_WindOf_x)]) (E := E0) [] (tab_cons k_spec_WindOf tab_nil) hm (by rw [hn]; decide +kernel) ?_
    try simp -implicitDefEqProofs +decide (maxSteps := 2000000) [-selQ_sel, hokQ_of, spec_Covers_l0_S]
    refine Hid.brV (fun h_2 => ?_) (fun h_2 => ?_)
    · replace H := HS.cnd_t h_2 H
      try simp -implicitDefEqProofs +decide (maxSteps := 2000000) [-selQ_sel, hokQ_of, h_2]
      have hr := (HS.some H).symm; subst hr
      exact Hid.mk ⟨(spec_Covers_l0_X a0 a1 a2 x3).2, Wk.ofk [] hk (by rfl) (by simp -implicitDefEqProofs [spec_Covers_l0_X, h_2]) (by simp -implicitDefEqProofs [spec_Covers_l0_X, h_2]), hR⟩
    · replace H := HS.cnd_f h_2 H
      try simp -implicitDefEqProofs +decide (maxSteps := 2000000) [-selQ_sel, hokQ_of, h_2]
      obtain ⟨v5, h_3, H⟩ := HS.bnd H
      try simp -implicitDefEqProofs +decide (maxSteps := 2000000) [-selQ_sel, hokQ_of, h_2, h_3]
      obtain ⟨v6, h_4, H⟩ := HS.bnd H
      try simp -implicitDefEqProofs +decide (maxSteps := 2000000) [-selQ_sel, hokQ_of, h_2, h_3, h_4]
      have hr := (HS.some H).symm; subst hr
      exact Hid.mk ⟨spec_Covers_l0_S a0 a1 a2 ((IntKind.i64.wrap (x3 + v6)), (IntKind.i64.wrap (x4 + 1))), Wk.ofk [0] hk (by rfl) (by simp -implicitDefEqProofs [spec_Covers_l0_S, h_2, h_3, h_4]) (by simp -implicitDefEqProofs [spec_Covers_l0_S, h_2, h_3, h_4]), hR⟩
  · revert H h_1; revert q; intro y7 h_1 H
    try dsimp only at H
    try simp -implicitDefEqProofs +decide (maxSteps := 2000000) [-selQ_sel, hokQ_of, spec_Covers_l0_X]
    refine Hid.brV (fun h_5 => ?_) (fun h_5 => ?_)
    · replace H := HS.cnd_t h_5 H
      try simp -implicitDefEqProofs +decide (maxSteps := 2000000) [-selQ_sel, hokQ_of, h_5]
      have hr := (HS.some H).symm; subst hr
      refine Hid.mk ⟨_, Wk.refl _, ?_⟩
      try simp -implicitDefEqProofs +decide (maxSteps := 2000000) [-selQ_sel, hokQ_of, h_5]
    · replace H := HS.cnd_f h_5 H
      try simp -implicitDefEqProofs +decide (maxSteps := 2000000) [-selQ_sel, hokQ_of, h_5]
      have hr := (HS.some H).symm; subst hr
      refine Hid.mk ⟨_, Wk.refl _, ?_⟩
      try simp -implicitDefEqProofs +decide (maxSteps := 2000000) [-selQ_sel, hokQ_of, h_5]
theorem impl_Blend_1_ok0 (hm : Try.prog.follows .mixedOrders = true) (k_impl_Times255 : Sound Try.prog 176 impl_Times255_x) (k_impl_RoundDiv : Sound Try.prog 177 impl_RoundDiv_x) : Sound Try.prog 175 impl_Blend_1_x := by
  refine xOf_sound fun q r h => ?_
  obtain ⟨a0, a1, a2, a3, a4⟩ := q
  refine fn_ok E0 hm Try.func175 rfl (by decide +kernel) (by rfl) fun Γ hn hk => ?_
  dsimp only [impl_Blend_1_e, impl_Blend_1_v]
  replace hn : Γ.n = 49 := hn
  replace hk : Γ.k = 0 := hk
  have H : HS (impl_Blend_1 a0 a1 a2 a3 a4) r := h
  clear h; unfold impl_Blend_1 at H
  try simp -implicitDefEqProofs at H
  refine Tr.of_vc (cl := tabC [(176, impl_Times255_x), (177, impl_RoundDiv_x)]) (E := E0) [] (tab_cons k_impl_Times255 (tab_cons k_impl_RoundDiv tab_nil)) hm (by rw [hn]; decide +kernel) ?_
  try simp -implicitDefEqProofs (maxSteps := 2000000) [-selQ_sel]
  obtain ⟨v1, h_1, H⟩ := HS.bnd H
  try simp -implicitDefEqProofs (maxSteps := 2000000) [-selQ_sel, h_1]
  refine Hid.brV (fun h_2 => ?_) (fun h_2 => ?_)
  · replace H := HS.cnd_t h_2 H
    try simp -implicitDefEqProofs (maxSteps := 2000000) [-selQ_sel, h_1, h_2]
    have hr := (HS.some H).symm; subst hr
    refine Hid.mk ⟨_, Wk.refl _, ?_⟩
    try simp -implicitDefEqProofs (maxSteps := 2000000) [-selQ_sel, h_1, h_2]
  · replace H := HS.cnd_f h_2 H
    try simp -implicitDefEqProofs (maxSteps := 2000000) [-selQ_sel, h_1, h_2]
    refine Hid.brV (fun h_3 => ?_) (fun h_3 => ?_)
    · replace H := HS.cnd_t h_3 H
      try simp -implicitDefEqProofs (maxSteps := 2000000) [-selQ_sel, h_1, h_2, h_3]
      obtain ⟨v2, h_4, H⟩ := HS.bnd H
      try simp -implicitDefEqProofs (maxSteps := 2000000) [-selQ_sel, h_1, h_2, h_3, h_4]
      have hr := (HS.some H).symm; subst hr
      refine Hid.mk ⟨_, Wk.refl _, ?_⟩
      try simp -implicitDefEqProofs (maxSteps := 2000000) [-selQ_sel, h_1, h_2, h_3, h_4]
    · replace H := HS.cnd_f h_3 H
      try simp -implicitDefEqProofs (maxSteps := 2000000) [-selQ_sel, h_1, h_2, h_3]
      refine Hid.brV (fun h_5 => ?_) (fun h_5 => ?_)
      · replace H := HS.cnd_t h_5 H
        try simp -implicitDefEqProofs (maxSteps := 2000000) [-selQ_sel, h_1, h_2, h_3, h_5]
        obtain ⟨v3, h_6, H⟩ := HS.bnd H
        try simp -implicitDefEqProofs (maxSteps := 2000000) [-selQ_sel, h_1, h_2, h_3, h_5, h_6]
        have hr := (HS.some H).symm; subst hr
        refine Hid.mk ⟨_, Wk.refl _, ?_⟩
        try simp -implicitDefEqProofs (maxSteps := 2000000) [-selQ_sel, h_1, h_2, h_3, h_5, h_6]
      · replace H := HS.cnd_f h_5 H
        try simp -implicitDefEqProofs (maxSteps := 2000000) [-selQ_sel, h_1, h_2, h_3, h_5]
        refine Hid.brV (fun h_7 => ?_) (fun h_7 => ?_)
        · replace H := HS.cnd_t h_7 H
          try simp -implicitDefEqProofs (maxSteps := 2000000) [-selQ_sel, h_1, h_2, h_3, h_5, h_7]
          have hr := (HS.some H).symm; subst hr
          refine Hid.mk ⟨_, Wk.refl _, ?_⟩
          try simp -implicitDefEqProofs (maxSteps := 2000000) [-selQ_sel, h_1, h_2, h_3, h_5, h_7]
        · replace H := HS.cnd_f h_7 H
          try simp -implicitDefEqProofs (maxSteps := 2000000) [-selQ_sel, h_1, h_2, h_3, h_5, h_7]
          have hr := (HS.some H).symm; subst hr
          refine Hid.mk ⟨_, Wk.refl _, ?_⟩
          try simp -implicitDefEqProofs (maxSteps := 2000000) [-selQ_sel, h_1, h_2, h_3, h_5, h_7]
theorem spec_Thin_ok0 (hm : Try.prog.follows .mixedOrders = true) (k_spec_LaidOk : Sound Try.prog 121 spec_LaidOk_x) (k_spec_l01In : Sound Try.prog 73 spec_l01In_x) (k_spec_RoundDiv : Sound Try.prog 124 spec_RoundDiv_x) : Sound Try.prog 44 spec_Thin_x := by
  refine xOf_sound fun q r h => ?_
  obtain ⟨a0, a1⟩ := q
  refine fn_ok E0 hm Try.func44 rfl (by decide +kernel) (by rfl) fun Γ hn hk => ?_
  dsimp only [spec_Thin_e, spec_Thin_v]
  replace hn : Γ.n = 35 := hn
  replace hk : Γ.k = 0 := hk
  have H : HS (spec_Thin a0 a1) r := h
  clear h; unfold spec_Thin at H
  try simp -implicitDefEqProofs at H
  refine Tr.of_vc (cl := tabC [(121, spec_LaidOk_x), (73, spec_l01In_x), (124, spec_RoundDiv_x)]) (E := E0) [] (tab_cons k_spec_LaidOk (tab_cons k_spec_l01In (tab_cons k_spec_RoundDiv tab_nil))) hm (by rw [hn]; decide +kernel) ?_
  try simp -implicitDefEqProofs +decide (maxSteps := 2000000) [-selQ_sel, hokQ_of]
  obtain ⟨v1, h_1, H⟩ := HS.bnd H
  try simp -implicitDefEqProofs +decide (maxSteps := 2000000) [-selQ_sel, hokQ_of, h_1]
  refine Hid.selQ (fun h_2 => ?_) (fun h_2 => ?_)
  · replace H := HS.cnd_t h_2 H
    try simp -implicitDefEqProofs +decide (maxSteps := 2000000) [-selQ_sel, hokQ_of, h_1, h_2]
    obtain ⟨v2, h_3, H⟩ := HS.bnd H
    try simp -implicitDefEqProofs +decide (maxSteps := 2000000) [-selQ_sel, hokQ_of, h_1, h_2, h_3]
    refine Hid.brV (fun h_4 => ?_) (fun h_4 => ?_)
    · replace H := HS.cnd_t h_4 H
      try simp -implicitDefEqProofs +decide (maxSteps := 2000000) [-selQ_sel, hokQ_of, h_1, h_2, h_3, h_4]
      obtain ⟨v3, h_5, H⟩ := HS.bnd H
      try simp -implicitDefEqProofs +decide (maxSteps := 2000000) [-selQ_sel, hokQ_of, h_1, h_2, h_3, h_4, h_5]
      obtain ⟨v4, h_6, H⟩ := HS.bnd H
      try simp -implicitDefEqProofs +decide (maxSteps := 2000000) [-selQ_sel, hokQ_of, h_1, h_2, h_3, h_4, h_5, h_6]
      obtain ⟨v5, h_7, H⟩ := HS.bnd H
      try simp -implicitDefEqProofs +decide (maxSteps := 2000000) [-selQ_sel, hokQ_of, h_1, h_2, h_3, h_4, h_5, h_6, h_7]
      obtain ⟨v6, h_8, H⟩ := HS.bnd H
      try simp -implicitDefEqProofs +decide (maxSteps := 2000000) [-selQ_sel, hokQ_of, h_1, h_2, h_3, h_4, h_5, h_6, h_7, h_8]
      have hr := (HS.some H).symm; subst hr
      refine Hid.mk ⟨_, Wk.refl _, ?_⟩
      try simp -implicitDefEqProofs +decide (maxSteps := 2000000) [-selQ_sel, hokQ_of, h_1, h_2, h_3, h_4, h_5, h_6, h_7, h_8]
    · replace H := HS.cnd_f h_4 H
      try simp -implicitDefEqProofs +decide (maxSteps := 2000000) [-selQ_sel, hokQ_of, h_1, h_2, h_3, h_4]
      have hr := (HS.some H).symm; subst hr
      refine Hid.mk ⟨_, Wk.refl _, ?_⟩
      try simp -implicitDefEqProofs +decide (maxSteps := 2000000) [-selQ_sel, hokQ_of, h_1, h_2, h_3, h_4]
  · replace H := HS.cnd_f h_2 H
    try simp -implicitDefEqProofs +decide (maxSteps := 2000000) [-selQ_sel, hokQ_of, h_1, h_2]
    have hr := (HS.some H).symm; subst hr
    refine Hid.mk ⟨_, Wk.refl _, ?_⟩
    try simp -implicitDefEqProofs +decide (maxSteps := 2000000) [-selQ_sel, hokQ_of, h_1, h_2]
theorem spec_Blend_ok0 (hm : Try.prog.follows .mixedOrders = true) (k_spec_LaidOk : Sound Try.prog 121 spec_LaidOk_x) (k_spec_l13Part : Sound Try.prog 122 spec_l13Part_x) : Sound Try.prog 42 spec_Blend_x := by
  refine xOf_sound fun q r h => ?_
  obtain ⟨a0, a1, a2⟩ := q
  refine fn_ok E0 hm Try.func42 rfl (by decide +kernel) (by rfl) fun Γ hn hk => ?_
  dsimp only [spec_Blend_e, spec_Blend_v]
  replace hn : Γ.n = 57 := hn
  replace hk : Γ.k = 0 := hk
  have H : HS (spec_Blend a0 a1 a2) r := h
  clear h; unfold spec_Blend at H
  try simp -implicitDefEqProofs at H
  refine Tr.of_vc (cl := tabC [(121, spec_LaidOk_x), (122, spec_l13Part_x)]) (E := E0) [] (tab_cons k_spec_LaidOk (tab_cons k_spec_l13Part tab_nil)) hm (by rw [hn]; decide +kernel) ?_
  try simp -implicitDefEqProofs +decide (maxSteps := 2000000) [-selQ_sel, hokQ_of]
  obtain ⟨v1, h_1, H⟩ := HS.bnd H
  try simp -implicitDefEqProofs +decide (maxSteps := 2000000) [-selQ_sel, hokQ_of, h_1]
  refine Hid.selQ (fun h_2 => ?_) (fun h_2 => ?_)
  · replace H := HS.cnd_t h_2 H
    try simp -implicitDefEqProofs +decide (maxSteps := 2000000) [-selQ_sel, hokQ_of, h_1, h_2]
    obtain ⟨v2, h_3, H⟩ := HS.bnd H
    try simp -implicitDefEqProofs +decide (maxSteps := 2000000) [-selQ_sel, hokQ_of, h_1, h_2, h_3]
    refine Hid.brV (fun h_4 => ?_) (fun h_4 => ?_)
    · replace H := HS.cnd_t h_4 H
      try simp -implicitDefEqProofs +decide (maxSteps := 2000000) [-selQ_sel, hokQ_of, h_1, h_2, h_3, h_4]
      obtain ⟨v3, h_5, H⟩ := HS.bnd H
      try simp -implicitDefEqProofs +decide (maxSteps := 2000000) [-selQ_sel, hokQ_of, h_1, h_2, h_3, h_4, h_5]
      obtain ⟨v4, h_6, H⟩ := HS.bnd H
      try simp -implicitDefEqProofs +decide (maxSteps := 2000000) [-selQ_sel, hokQ_of, h_1, h_2, h_3, h_4, h_5, h_6]
      obtain ⟨v5, h_7, H⟩ := HS.bnd H
      try simp -implicitDefEqProofs +decide (maxSteps := 2000000) [-selQ_sel, hokQ_of, h_1, h_2, h_3, h_4, h_5, h_6, h_7]
      obtain ⟨v6, h_8, H⟩ := HS.bnd H
      try simp -implicitDefEqProofs +decide (maxSteps := 2000000) [-selQ_sel, hokQ_of, h_1, h_2, h_3, h_4, h_5, h_6, h_7, h_8]
      have hr := (HS.some H).symm; subst hr
      refine Hid.mk ⟨_, Wk.refl _, ?_⟩
      try simp -implicitDefEqProofs +decide (maxSteps := 2000000) [-selQ_sel, hokQ_of, h_1, h_2, h_3, h_4, h_5, h_6, h_7, h_8]
    · replace H := HS.cnd_f h_4 H
      try simp -implicitDefEqProofs +decide (maxSteps := 2000000) [-selQ_sel, hokQ_of, h_1, h_2, h_3, h_4]
      have hr := (HS.some H).symm; subst hr
      refine Hid.mk ⟨_, Wk.refl _, ?_⟩
      try simp -implicitDefEqProofs +decide (maxSteps := 2000000) [-selQ_sel, hokQ_of, h_1, h_2, h_3, h_4]
  · replace H := HS.cnd_f h_2 H
    try simp -implicitDefEqProofs +decide (maxSteps := 2000000) [-selQ_sel, hokQ_of, h_1, h_2]
    have hr := (HS.some H).symm; subst hr
    refine Hid.mk ⟨_, Wk.refl _, ?_⟩
    try simp -implicitDefEqProofs +decide (maxSteps := 2000000) [-selQ_sel, hokQ_of, h_1, h_2]
theorem spec_l01Below_ok0 (hm : Try.prog.follows .mixedOrders = true) (k_spec_l01Byte : Sound Try.prog 109 spec_l01Byte_x) : Sound Try.prog 110 spec_l01Below_x := by
  refine xOf_sound fun q r h => ?_
  obtain ⟨a0, a1⟩ := q
  refine fn_ok E0 hm Try.func110 rfl (by decide +kernel) (by rfl) fun Γ hn hk => ?_
  dsimp only [spec_l01Below_e, spec_l01Below_v]
  replace hn : Γ.n = 37 := hn
  replace hk : Γ.k = 1 := hk
  have H : HS (spec_l01Below a0 a1) r := h
  clear h; unfold spec_l01Below at H
  try simp -implicitDefEqProofs at H
  refine Tr.of_vc (cl := tabC [(109, spec_l01Byte_x)]) (E := E0) [] (tab_cons k_spec_l01Byte tab_nil) hm (by rw [hn]; decide +kernel) ?_
  try simp -implicitDefEqProofs (maxSteps := 2000000) [-selQ_sel]
  refine Hid.brV (fun h_1 => ?_) (fun h_1 => ?_)
  · replace H := HS.cnd_t h_1 H
    try simp -implicitDefEqProofs (maxSteps := 2000000) [-selQ_sel, h_1]
    have hr := (HS.some H).symm; subst hr
    refine Hid.mk ⟨_, Wk.refl _, ?_⟩
    try simp -implicitDefEqProofs (maxSteps := 2000000) [-selQ_sel, h_1]
  · replace H := HS.cnd_f h_1 H
    try simp -implicitDefEqProofs (maxSteps := 2000000) [-selQ_sel, h_1]
    refine Hid.brV (fun h_2 => ?_) (fun h_2 => ?_)
    · replace H := HS.cnd_t h_2 H
      try simp -implicitDefEqProofs (maxSteps := 2000000) [-selQ_sel, h_1, h_2]
      obtain ⟨⟨w2, w3⟩, h_3, H⟩ := HS.bnd H
      dsimp only at H
      try simp -implicitDefEqProofs (maxSteps := 2000000) [-selQ_sel, h_1, h_2, h_3]
      obtain ⟨h_4, H⟩ := HS.chkP H
      try simp -implicitDefEqProofs (maxSteps := 2000000) [-selQ_sel, h_1, h_2, h_3, h_4]
      have hr := (HS.some H).symm; subst hr
      refine Hid.mk ⟨_, Wk.refl _, ?_⟩
      try simp -implicitDefEqProofs (maxSteps := 2000000) [-selQ_sel, h_1, h_2, h_3, h_4]
    · replace H := HS.cnd_f h_2 H
      try simp -implicitDefEqProofs (maxSteps := 2000000) [-selQ_sel, h_1, h_2]
      obtain ⟨⟨w5, w6⟩, h_5, H⟩ := HS.bnd H
      dsimp only at H
      try simp -implicitDefEqProofs (maxSteps := 2000000) [-selQ_sel, h_1, h_2, h_5]
      obtain ⟨⟨w8, w9⟩, h_6, H⟩ := HS.bnd H
      dsimp only at H
      try simp -implicitDefEqProofs (maxSteps := 2000000) [-selQ_sel, h_1, h_2, h_5, h_6]
      obtain ⟨⟨w11, w12⟩, h_7, H⟩ := HS.bnd H
      dsimp only at H
      try simp -implicitDefEqProofs (maxSteps := 2000000) [-selQ_sel, h_1, h_2, h_5, h_6, h_7]
      obtain ⟨⟨w14, w15⟩, h_8, H⟩ := HS.bnd H
      dsimp only at H
      try simp -implicitDefEqProofs (maxSteps := 2000000) [-selQ_sel, h_1, h_2, h_5, h_6, h_7, h_8]
      obtain ⟨h_9, H⟩ := HS.chkP H
      try simp -implicitDefEqProofs (maxSteps := 2000000) [-selQ_sel, h_1, h_2, h_5, h_6, h_7, h_8, h_9]
      have hr := (HS.some H).symm; subst hr
      refine Hid.mk ⟨_, Wk.refl _, ?_⟩
      try simp -implicitDefEqProofs (maxSteps := 2000000) [-selQ_sel, h_1, h_2, h_5, h_6, h_7, h_8, h_9]
theorem spec_PartOf_ok0 (hm : Try.prog.follows .mixedOrders = true) (k_spec_PaintOk : Sound Try.prog 125 spec_PaintOk_x) (k_spec_Clamp : Sound Try.prog 194 spec_Clamp_x) (k_spec_FloorDiv : Sound Try.prog 195 spec_FloorDiv_x) : Sound Try.prog 127 spec_PartOf_x := by
  refine xOf_sound fun q r h => ?_
  obtain ⟨a0, a1, a2⟩ := q
  refine fn_ok E0 hm Try.func127 rfl (by decide +kernel) (by rfl) fun Γ hn hk => ?_
  dsimp only [spec_PartOf_e, spec_PartOf_v]
  replace hn : Γ.n = 68 := hn
  replace hk : Γ.k = 0 := hk
  have H : HS (spec_PartOf a0 a1 a2) r := h
  clear h; unfold spec_PartOf at H
  try simp -implicitDefEqProofs at H
  refine Tr.of_vc (cl := tabC [(125, spec_PaintOk_x), (194, spec_Clamp_x), (195, spec_FloorDiv_x)]) (E := E0) [] (tab_cons k_spec_PaintOk (tab_cons k_spec_Clamp (tab_cons k_spec_FloorDiv tab_nil))) hm (by rw [hn]; decide +kernel) ?_
  try simp -implicitDefEqProofs (maxSteps := 2000000) [-selQ_sel]
  refine Hid.selQ (fun h_1 => ?_) (fun h_1 => ?_)
  · replace H := HS.cnd_t h_1 H
    try simp -implicitDefEqProofs (maxSteps := 2000000) [-selQ_sel, h_1]
    obtain ⟨v1, h_2, H⟩ := HS.bnd H
    try simp -implicitDefEqProofs (maxSteps := 2000000) [-selQ_sel, h_1, h_2]
    refine Hid.brV (fun h_3 => ?_) (fun h_3 => ?_)
    · replace H := HS.cnd_t h_3 H
      try simp -implicitDefEqProofs (maxSteps := 2000000) [-selQ_sel, h_1, h_2, h_3]
      obtain ⟨v2, h_4, H⟩ := HS.bnd H
      try simp -implicitDefEqProofs (maxSteps := 2000000) [-selQ_sel, h_1, h_2, h_3, h_4]
      obtain ⟨v3, h_5, H⟩ := HS.bnd H
      try simp -implicitDefEqProofs (maxSteps := 2000000) [-selQ_sel, h_1, h_2, h_3, h_4, h_5]
      obtain ⟨v4, h_6, H⟩ := HS.bnd H
      try simp -implicitDefEqProofs (maxSteps := 2000000) [-selQ_sel, h_1, h_2, h_3, h_4, h_5, h_6]
      obtain ⟨v5, h_7, H⟩ := HS.bnd H
      try simp -implicitDefEqProofs (maxSteps := 2000000) [-selQ_sel, h_1, h_2, h_3, h_4, h_5, h_6, h_7]
      have hr := (HS.some H).symm; subst hr
      refine Hid.mk ⟨_, Wk.refl _, ?_⟩
      try simp -implicitDefEqProofs (maxSteps := 2000000) [-selQ_sel, h_1, h_2, h_3, h_4, h_5, h_6, h_7]
    · replace H := HS.cnd_f h_3 H
      try simp -implicitDefEqProofs (maxSteps := 2000000) [-selQ_sel, h_1, h_2, h_3]
      have hr := (HS.some H).symm; subst hr
      refine Hid.mk ⟨_, Wk.refl _, ?_⟩
      try simp -implicitDefEqProofs (maxSteps := 2000000) [-selQ_sel, h_1, h_2, h_3]
  · replace H := HS.cnd_f h_1 H
    try simp -implicitDefEqProofs (maxSteps := 2000000) [-selQ_sel, h_1]
    have hr := (HS.some H).symm; subst hr
    refine Hid.mk ⟨_, Wk.refl _, ?_⟩
    try simp -implicitDefEqProofs (maxSteps := 2000000) [-selQ_sel, h_1]
theorem impl_LaidOk_ok0 (hm : Try.prog.follows .mixedOrders = true) (k_impl_ColorOk : Sound Try.prog 180 impl_ColorOk_x) : Sound Try.prog 112 impl_LaidOk_x := by
  refine xOf_sound fun q r h => ?_
  revert h; revert r; revert q; intro a0 r h
  refine fn_ok E0 hm Try.func112 rfl (by decide +kernel) (by rfl) fun Γ hn hk => ?_
  dsimp only [impl_LaidOk_e, impl_LaidOk_v]
  replace hn : Γ.n = 26 := hn
  replace hk : Γ.k = 0 := hk
  have H : HS (impl_LaidOk a0) r := h
  clear h; unfold impl_LaidOk at H
  try simp -implicitDefEqProofs at H
  refine Tr.of_vc (cl := tabC [(180, impl_ColorOk_x)]) (E := E0) [] (tab_cons k_impl_ColorOk tab_nil) hm (by rw [hn]; decide +kernel) ?_
  try simp -implicitDefEqProofs (maxSteps := 2000000) [-selQ_sel]
  obtain ⟨v1, h_1, H⟩ := HS.bnd H
  try simp -implicitDefEqProofs (maxSteps := 2000000) [-selQ_sel, h_1]
  refine Hid.selQ (fun h_2 => ?_) (fun h_2 => ?_)
  · replace H := HS.cnd_t h_2 H
    try simp -implicitDefEqProofs (maxSteps := 2000000) [-selQ_sel, h_1, h_2]
    refine Hid.selQ (fun h_3 => ?_) (fun h_3 => ?_)
    · replace H := HS.cnd_t h_3 H
      try simp -implicitDefEqProofs (maxSteps := 2000000) [-selQ_sel, h_1, h_2, h_3]
      refine Hid.selQ (fun h_4 => ?_) (fun h_4 => ?_)
      · replace H := HS.cnd_t h_4 H
        try simp -implicitDefEqProofs (maxSteps := 2000000) [-selQ_sel, h_1, h_2, h_3, h_4]
        have hr := (HS.some H).symm; subst hr
        refine Hid.mk ⟨_, Wk.refl _, ?_⟩
        try simp -implicitDefEqProofs (maxSteps := 2000000) [-selQ_sel, h_1, h_2, h_3, h_4]
      · replace H := HS.cnd_f h_4 H
        try simp -implicitDefEqProofs (maxSteps := 2000000) [-selQ_sel, h_1, h_2, h_3, h_4]
        have hr := (HS.some H).symm; subst hr
        refine Hid.mk ⟨_, Wk.refl _, ?_⟩
        try simp -implicitDefEqProofs (maxSteps := 2000000) [-selQ_sel, h_1, h_2, h_3, h_4]
    · replace H := HS.cnd_f h_3 H
      try simp -implicitDefEqProofs (maxSteps := 2000000) [-selQ_sel, h_1, h_2, h_3]
      have hr := (HS.some H).symm; subst hr
      refine Hid.mk ⟨_, Wk.refl _, ?_⟩
      try simp -implicitDefEqProofs (maxSteps := 2000000) [-selQ_sel, h_1, h_2, h_3]
  · replace H := HS.cnd_f h_2 H
    try simp -implicitDefEqProofs (maxSteps := 2000000) [-selQ_sel, h_1, h_2]
    have hr := (HS.some H).symm; subst hr
    refine Hid.mk ⟨_, Wk.refl _, ?_⟩
    try simp -implicitDefEqProofs (maxSteps := 2000000) [-selQ_sel, h_1, h_2]
theorem spec_InBox_ok0 (hm : Try.prog.follows .mixedOrders = true) : Sound Try.prog 192 spec_InBox_x := by
  refine xOf_sound fun q r h => ?_
  obtain ⟨a0, a1⟩ := q
  refine fn_ok E0 hm Try.func192 rfl (by decide +kernel) (by rfl) fun Γ hn hk => ?_
  dsimp only [spec_InBox_e, spec_InBox_v]
  replace hn : Γ.n = 31 := hn
  replace hk : Γ.k = 0 := hk
  have H : HS (spec_InBox a0 a1) r := h
  clear h; unfold spec_InBox at H
  try simp -implicitDefEqProofs at H
  refine Tr.of_vc (cl := tabC []) (E := E0) [] tab_nil hm (by rw [hn]; decide +kernel) ?_
  try simp -implicitDefEqProofs (maxSteps := 2000000) [-selQ_sel]
  refine Hid.selQ (fun h_1 => ?_) (fun h_1 => ?_)
  · replace H := HS.cnd_t h_1 H
    try simp -implicitDefEqProofs (maxSteps := 2000000) [-selQ_sel, h_1]
    refine Hid.selQ (fun h_2 => ?_) (fun h_2 => ?_)
    · replace H := HS.cnd_t h_2 H
      try simp -implicitDefEqProofs (maxSteps := 2000000) [-selQ_sel, h_1, h_2]
      have hr := (HS.some H).symm; subst hr
      refine Hid.mk ⟨_, Wk.refl _, ?_⟩
      try simp -implicitDefEqProofs (maxSteps := 2000000) [-selQ_sel, h_1, h_2]
    · replace H := HS.cnd_f h_2 H
      try simp -implicitDefEqProofs (maxSteps := 2000000) [-selQ_sel, h_1, h_2]
      refine Hid.selQ (fun h_3 => ?_) (fun h_3 => ?_)
      · replace H := HS.cnd_t h_3 H
        try simp -implicitDefEqProofs (maxSteps := 2000000) [-selQ_sel, h_1, h_2, h_3]
        have hr := (HS.some H).symm; subst hr
        refine Hid.mk ⟨_, Wk.refl _, ?_⟩
        try simp -implicitDefEqProofs (maxSteps := 2000000) [-selQ_sel, h_1, h_2, h_3]
      · replace H := HS.cnd_f h_3 H
        try simp -implicitDefEqProofs (maxSteps := 2000000) [-selQ_sel, h_1, h_2, h_3]
        have hr := (HS.some H).symm; subst hr
        refine Hid.mk ⟨_, Wk.refl _, ?_⟩
        try simp -implicitDefEqProofs (maxSteps := 2000000) [-selQ_sel, h_1, h_2, h_3]
  · replace H := HS.cnd_f h_1 H
    try simp -implicitDefEqProofs (maxSteps := 2000000) [-selQ_sel, h_1]
    have hr := (HS.some H).symm; subst hr
    refine Hid.mk ⟨_, Wk.refl _, ?_⟩
    try simp -implicitDefEqProofs (maxSteps := 2000000) [-selQ_sel, h_1]
theorem impl_PaintMask_1_ok0 (hm : Try.prog.follows .mixedOrders = true) (k_impl_Mask_bitsAt : Sound Try.prog 118 impl_Mask_bitsAt_x) (k_impl_inked : Sound Try.prog 119 impl_inked_x) (k_impl_Blend : Sound Try.prog 107 impl_Blend_x) : Sound Try.prog 117 impl_PaintMask_1_x := by
  refine xOf_sound fun q r h => ?_
  obtain ⟨a0, a1, a2, a3, a4, a5, a6⟩ := q
  refine fn_ok E0 hm Try.func117 rfl (by decide +kernel) (by rfl) fun Γ hn hk => ?_
  dsimp only [impl_PaintMask_1_e, impl_PaintMask_1_v]
  replace hn : Γ.n = 27 := hn
  replace hk : Γ.k = 0 := hk
  have H : HS (impl_PaintMask_1 a0 a1 a2 a3 a4 a5 a6) r := h
  clear h; unfold impl_PaintMask_1 at H
  try simp -implicitDefEqProofs at H
  refine Tr.of_vc (cl := tabC [(118, impl_Mask_bitsAt_x), (119, impl_inked_x), (107, impl_Blend_x)]) (E := E0) [] (tab_cons k_impl_Mask_bitsAt (tab_cons k_impl_inked (tab_cons k_impl_Blend tab_nil))) hm (by rw [hn]; decide +kernel) ?_
  try simp -implicitDefEqProofs +decide (maxSteps := 2000000) [-selQ_sel, hokQ_of]
  obtain ⟨v1, h_1, H⟩ := HS.bnd H
  try simp -implicitDefEqProofs +decide (maxSteps := 2000000) [-selQ_sel, hokQ_of, h_1]
  refine Hid.brV (fun h_2 => ?_) (fun h_2 => ?_)
  · replace H := HS.cnd_t h_2 H
    try simp -implicitDefEqProofs +decide (maxSteps := 2000000) [-selQ_sel, hokQ_of, h_1, h_2]
    have hr := (HS.some H).symm; subst hr
    refine Hid.mk ⟨_, Wk.refl _, ?_⟩
    try simp -implicitDefEqProofs +decide (maxSteps := 2000000) [-selQ_sel, hokQ_of, h_1, h_2]
  · replace H := HS.cnd_f h_2 H
    try simp -implicitDefEqProofs +decide (maxSteps := 2000000) [-selQ_sel, hokQ_of, h_1, h_2]
    obtain ⟨v2, h_3, H⟩ := HS.bnd H
    try simp -implicitDefEqProofs +decide (maxSteps := 2000000) [-selQ_sel, hokQ_of, h_1, h_2, h_3]
    obtain ⟨v3, h_4, H⟩ := HS.bnd H
    try simp -implicitDefEqProofs +decide (maxSteps := 2000000) [-selQ_sel, hokQ_of, h_1, h_2, h_3, h_4]
    have hr := (HS.some H).symm; subst hr
    refine Hid.mk ⟨_, Wk.refl _, ?_⟩
    try simp -implicitDefEqProofs +decide (maxSteps := 2000000) [-selQ_sel, hokQ_of, h_1, h_2, h_3, h_4]
theorem impl_SameSurface_ok0 (hm : Try.prog.follows .mixedOrders = true) (k_slices_Equal_Color : Sound Try.prog 111 slices_Equal_Color_x) : Sound Try.prog 33 impl_SameSurface_x := by
  refine xOf_sound fun q r h => ?_
  obtain ⟨a0, a1⟩ := q
  refine fn_ok E0 hm Try.func33 rfl (by decide +kernel) (by rfl) fun Γ hn hk => ?_
  dsimp only [impl_SameSurface_e, impl_SameSurface_v]
  replace hn : Γ.n = 24 := hn
  replace hk : Γ.k = 0 := hk
  have H : HS (impl_SameSurface a0 a1) r := h
  clear h; unfold impl_SameSurface at H
  try simp -implicitDefEqProofs at H
  refine Tr.of_vc (cl := tabC [(111, slices_Equal_Color_x)]) (E := E0) [] (tab_cons k_slices_Equal_Color tab_nil) hm (by rw [hn]; decide +kernel) ?_
  try simp -implicitDefEqProofs (maxSteps := 2000000) [-selQ_sel]
  refine Hid.selQ (fun h_1 => ?_) (fun h_1 => ?_)
  · replace H := HS.cnd_t h_1 H
    try simp -implicitDefEqProofs (maxSteps := 2000000) [-selQ_sel, h_1]
    refine Hid.selQ (fun h_2 => ?_) (fun h_2 => ?_)
    · replace H := HS.cnd_t h_2 H
      try simp -implicitDefEqProofs (maxSteps := 2000000) [-selQ_sel, h_1, h_2]
      obtain ⟨v1, h_3, H⟩ := HS.bnd H
      try simp -implicitDefEqProofs (maxSteps := 2000000) [-selQ_sel, h_1, h_2, h_3]
      have hr := (HS.some H).symm; subst hr
      refine Hid.mk ⟨_, Wk.refl _, ?_⟩
      try simp -implicitDefEqProofs (maxSteps := 2000000) [-selQ_sel, h_1, h_2, h_3]
    · replace H := HS.cnd_f h_2 H
      try simp -implicitDefEqProofs (maxSteps := 2000000) [-selQ_sel, h_1, h_2]
      have hr := (HS.some H).symm; subst hr
      refine Hid.mk ⟨_, Wk.refl _, ?_⟩
      try simp -implicitDefEqProofs (maxSteps := 2000000) [-selQ_sel, h_1, h_2]
  · replace H := HS.cnd_f h_1 H
    try simp -implicitDefEqProofs (maxSteps := 2000000) [-selQ_sel, h_1]
    have hr := (HS.some H).symm; subst hr
    refine Hid.mk ⟨_, Wk.refl _, ?_⟩
    try simp -implicitDefEqProofs (maxSteps := 2000000) [-selQ_sel, h_1]
theorem slices_Clone_Color_ok0 (hm : Try.prog.follows .mixedOrders = true) : Sound Try.prog 172 slices_Clone_Color_x := by
  refine xOf_sound fun q r h => ?_
  revert h; revert r; revert q; intro a0 r h
  refine fn_ok E0 hm Try.func172 rfl (by decide +kernel) (by rfl) fun Γ hn hk => ?_
  dsimp only [slices_Clone_Color_e, slices_Clone_Color_v]
  replace hn : Γ.n = 8 := hn
  replace hk : Γ.k = 0 := hk
  have H : HS (slices_Clone_Color a0) r := h
  clear h; unfold slices_Clone_Color at H
  obtain ⟨h_1, H⟩ := HS.chkP H
  have hr := (HS.some H).symm; subst hr
  refine Tr.of_vc (cl := tabC []) (E := E0) [1] tab_nil hm (by rw [hn]; decide +kernel) ?_
  simp -implicitDefEqProofs [-selQ_sel]
  refine Hid.mk (Tr_nil (E := E0) tab_nil (h1 := rfl) (hd1 := fun d h => by cases h; rw [hn]; decide) (ho := rfl) (hg := rfl) (hd := rfl) (hdn := by rw [hn]; decide) (hu := elt_48) (hx := rfl) fun b hb => ?_)
  refine Tr.of_vc (cl := tabC []) (E := E0) [] tab_nil hm (by rw [hn]; decide +kernel) ?_
  simp -implicitDefEqProofs [-selQ_sel, aft, putT]
  refine Hid.brV (fun h_2 => ?_) (fun h_2 => ?_)
  · simp -implicitDefEqProofs [-selQ_sel]
    have h_3 := hb h_2; simp at h_3; subst h_3
    refine Hid.mk ⟨_, Wk.refl _, ?_⟩
    simp -implicitDefEqProofs [-selQ_sel, h_1]
    refine ⟨⟨[(2, AV.osl 0 0 0 0)], [(0, Ob.arr 4 (List.map eColor []) false)], 1⟩, Wk.ofk [0] hk (by rfl) (by simp -implicitDefEqProofs) (by simp -implicitDefEqProofs), ?_⟩
    simp -implicitDefEqProofs [-selQ_sel, h_1]
  · simp -implicitDefEqProofs [-selQ_sel]
    refine Hid.mk ⟨_, Wk.refl _, ?_⟩
    simp -implicitDefEqProofs [-selQ_sel, h_1]
    refine ⟨⟨[(2, AV.osl 0 0 (List.length a0) (List.length a0))], [(0, Ob.arr 4 (List.map eColor a0) false)], 1⟩, Wk.ofk [0] hk (by rfl) (by simp -implicitDefEqProofs) (by simp -implicitDefEqProofs), ?_⟩
    simp -implicitDefEqProofs [-selQ_sel, h_1]
theorem impl_Mask_bitsAt_ok0 (hm : Try.prog.follows .mixedOrders = true) (k_impl_InBox : Sound Try.prog 188 impl_InBox_x) : Sound Try.prog 118 impl_Mask_bitsAt_x := by
  refine xOf_sound fun q r h => ?_
  obtain ⟨a0, a1, a2⟩ := q
  refine fn_ok E0 hm Try.func118 rfl (by decide +kernel) (by rfl) fun Γ hn hk => ?_
  dsimp only [impl_Mask_bitsAt_e, impl_Mask_bitsAt_v]
  replace hn : Γ.n = 49 := hn
  replace hk : Γ.k = 0 := hk
  have H : HS (impl_Mask_bitsAt a0 a1 a2) r := h
  clear h; unfold impl_Mask_bitsAt at H
  try simp -implicitDefEqProofs at H
  refine Tr.of_vc (cl := tabC [(188, impl_InBox_x)]) (E := E0) [] (tab_cons k_impl_InBox tab_nil) hm (by rw [hn]; decide +kernel) ?_
  try simp -implicitDefEqProofs +decide (maxSteps := 2000000) [-selQ_sel, hokQ_of]
  obtain ⟨v1, h_1, H⟩ := HS.bnd H
  try simp -implicitDefEqProofs +decide (maxSteps := 2000000) [-selQ_sel, hokQ_of, h_1]
  refine Hid.brV (fun h_2 => ?_) (fun h_2 => ?_)
  · replace H := HS.cnd_t h_2 H
    try simp -implicitDefEqProofs +decide (maxSteps := 2000000) [-selQ_sel, hokQ_of, h_1, h_2]
    obtain ⟨v2, h_3, H⟩ := HS.bnd H
    try simp -implicitDefEqProofs +decide (maxSteps := 2000000) [-selQ_sel, hokQ_of, h_1, h_2, h_3]
    have hr := (HS.some H).symm; subst hr
    refine Hid.mk ⟨_, Wk.refl _, ?_⟩
    try simp -implicitDefEqProofs +decide (maxSteps := 2000000) [-selQ_sel, hokQ_of, h_1, h_2, h_3]
  · replace H := HS.cnd_f h_2 H
    try simp -implicitDefEqProofs +decide (maxSteps := 2000000) [-selQ_sel, hokQ_of, h_1, h_2]
    have hr := (HS.some H).symm; subst hr
    refine Hid.mk ⟨_, Wk.refl _, ?_⟩
    try simp -implicitDefEqProofs +decide (maxSteps := 2000000) [-selQ_sel, hokQ_of, h_1, h_2]
theorem spec_Clamp_ok0 (hm : Try.prog.follows .mixedOrders = true) : Sound Try.prog 194 spec_Clamp_x := by
  refine xOf_sound fun q r h => ?_
  obtain ⟨a0, a1, a2⟩ := q
  refine fn_ok E0 hm Try.func194 rfl (by decide +kernel) (by rfl) fun Γ hn hk => ?_
  dsimp only [spec_Clamp_e, spec_Clamp_v]
  replace hn : Γ.n = 16 := hn
  replace hk : Γ.k = 0 := hk
  have H : HS (spec_Clamp a0 a1 a2) r := h
  clear h; unfold spec_Clamp at H
  try simp -implicitDefEqProofs at H
  refine Tr.of_vc (cl := tabC []) (E := E0) [] tab_nil hm (by rw [hn]; decide +kernel) ?_
  try simp -implicitDefEqProofs (maxSteps := 2000000) [-selQ_sel]
  refine Hid.brV (fun h_1 => ?_) (fun h_1 => ?_)
  · replace H := HS.cnd_t h_1 H
    try simp -implicitDefEqProofs (maxSteps := 2000000) [-selQ_sel, h_1]
    refine Hid.brV (fun h_2 => ?_) (fun h_2 => ?_)
    · replace H := HS.cnd_t h_2 H
      try simp -implicitDefEqProofs (maxSteps := 2000000) [-selQ_sel, h_1, h_2]
      have hr := (HS.some H).symm; subst hr
      refine Hid.mk ⟨_, Wk.refl _, ?_⟩
      try simp -implicitDefEqProofs (maxSteps := 2000000) [-selQ_sel, h_1, h_2]
    · replace H := HS.cnd_f h_2 H
      try simp -implicitDefEqProofs (maxSteps := 2000000) [-selQ_sel, h_1, h_2]
      have hr := (HS.some H).symm; subst hr
      refine Hid.mk ⟨_, Wk.refl _, ?_⟩
      try simp -implicitDefEqProofs (maxSteps := 2000000) [-selQ_sel, h_1, h_2]
  · replace H := HS.cnd_f h_1 H
    try simp -implicitDefEqProofs (maxSteps := 2000000) [-selQ_sel, h_1]
    have hr := (HS.some H).symm; subst hr
    refine Hid.mk ⟨_, Wk.refl _, ?_⟩
    try simp -implicitDefEqProofs (maxSteps := 2000000) [-selQ_sel, h_1]
theorem impl_inked_ok0 (hm : Try.prog.follows .mixedOrders = true) (k_impl_ColorAt : Sound Try.prog 190 impl_ColorAt_x) (k_impl_CountOf : Sound Try.prog 191 impl_CountOf_x) (k_impl_Thin : Sound Try.prog 189 impl_Thin_x) (k_impl_Fade : Sound Try.prog 108 impl_Fade_x) : Sound Try.prog 119 impl_inked_x := by
  refine xOf_sound fun q r h => ?_
  obtain ⟨a0, a1, a2, a3, a4⟩ := q
  refine fn_ok E0 hm Try.func119 rfl (by decide +kernel) (by rfl) fun Γ hn hk => ?_
  dsimp only [impl_inked_e, impl_inked_v]
  replace hn : Γ.n = 20 := hn
  replace hk : Γ.k = 0 := hk
  have H : HS (impl_inked a0 a1 a2 a3 a4) r := h
  clear h; unfold impl_inked at H
  try simp -implicitDefEqProofs at H
  refine Tr.of_vc (cl := tabC [(190, impl_ColorAt_x), (191, impl_CountOf_x), (189, impl_Thin_x), (108, impl_Fade_x)]) (E := E0) [] (tab_cons k_impl_ColorAt (tab_cons k_impl_CountOf (tab_cons k_impl_Thin (tab_cons k_impl_Fade tab_nil)))) hm (by rw [hn]; decide +kernel) ?_
  try simp -implicitDefEqProofs (maxSteps := 2000000) [-selQ_sel]
  obtain ⟨v1, h_1, H⟩ := HS.bnd H
  try simp -implicitDefEqProofs (maxSteps := 2000000) [-selQ_sel, h_1]
  obtain ⟨v2, h_2, H⟩ := HS.bnd H
  try simp -implicitDefEqProofs (maxSteps := 2000000) [-selQ_sel, h_1, h_2]
  obtain ⟨v3, h_3, H⟩ := HS.bnd H
  try simp -implicitDefEqProofs (maxSteps := 2000000) [-selQ_sel, h_1, h_2, h_3]
  obtain ⟨v4, h_4, H⟩ := HS.bnd H
  try simp -implicitDefEqProofs (maxSteps := 2000000) [-selQ_sel, h_1, h_2, h_3, h_4]
  have hr := (HS.some H).symm; subst hr
  refine Hid.mk ⟨_, Wk.refl _, ?_⟩
  try simp -implicitDefEqProofs (maxSteps := 2000000) [-selQ_sel, h_1, h_2, h_3, h_4]
theorem spec_l14Copy_ok0 (hm : Try.prog.follows .mixedOrders = true) : Sound Try.prog 113 spec_l14Copy_x := by
  refine xOf_sound fun q r h => ?_
  revert h; revert r; revert q; intro a0 r h
  refine fn_ok E0 hm Try.func113 rfl (by decide +kernel) (by rfl) fun Γ hn hk => ?_
  dsimp only [spec_l14Copy_e, spec_l14Copy_v]
  replace hn : Γ.n = 12 := hn
  replace hk : Γ.k = 0 := hk
  have H : HS (spec_l14Copy a0) r := h
  clear h; unfold spec_l14Copy at H
  try simp -implicitDefEqProofs at H
  refine Tr.of_vc (cl := tabC []) (E := E0) [] tab_nil hm (by rw [hn]; decide +kernel) ?_
  try simp -implicitDefEqProofs +decide (maxSteps := 2000000) [-selQ_sel, hokQ_of]
  obtain ⟨h_1, H⟩ := HS.chkP H
  try simp -implicitDefEqProofs +decide (maxSteps := 2000000) [-selQ_sel, hokQ_of, h_1]
  obtain ⟨l1, h_2, H⟩ := HS.nam H
  have m_3 := congrArg (List.map eColor) h_2
  have q_4 := congrArg List.length h_2
  simp -implicitDefEqProofs at m_3 q_4
  try simp only [q_4] at m_3
  try simp only [q_4] at h_1
  try simp -implicitDefEqProofs +decide (maxSteps := 2000000) [-selQ_sel, hokQ_of, h_1, m_3, q_4]
  have hr := (HS.some H).symm; subst hr
  refine Hid.mk ⟨⟨[(2, AV.optr 0 0 3)], [(0, Ob.box [AV.int .i64 a0.w, AV.int .i64 a0.h, AV.osl 1 0 (List.length l1) (List.length l1)]), (1, Ob.arr 4 (List.map eColor l1) false)], 2⟩, Wk.ofk [1, 2] hk (by rfl) (by simp -implicitDefEqProofs [h_1, m_3, q_4]) (by simp -implicitDefEqProofs [h_1, m_3, q_4]), ?_⟩
  try simp -implicitDefEqProofs +decide (maxSteps := 2000000) [-selQ_sel, hokQ_of, h_1, m_3, q_4]
theorem impl_each_Blend_1_ok0 (hm : Try.prog.follows .mixedOrders = true) (k_impl_Blend_1 : Sound Try.prog 175 impl_Blend_1_x) : Sound Try.prog 174 impl_each_Blend_1_x := by
  refine xOf_sound fun q r h => ?_
  obtain ⟨a0, a1, a2, a3, a4⟩ := q
  refine fn_ok E0 hm Try.func174 rfl (by decide +kernel) (by rfl) fun Γ hn hk => ?_
  dsimp only [impl_each_Blend_1_e, impl_each_Blend_1_v]
  replace hn : Γ.n = 32 := hn
  replace hk : Γ.k = 0 := hk
  have H : HS (impl_each_Blend_1 a0 a1 a2 a3 a4) r := h
  clear h; unfold impl_each_Blend_1 at H
  try simp -implicitDefEqProofs at H
  refine Tr.of_vc (cl := tabC [(175, impl_Blend_1_x)]) (E := E0) [] (tab_cons k_impl_Blend_1 tab_nil) hm (by rw [hn]; decide +kernel) ?_
  try simp -implicitDefEqProofs +decide (maxSteps := 2000000) [-selQ_sel, hokQ_of]
  obtain ⟨v1, h_1, H⟩ := HS.bnd H
  try simp -implicitDefEqProofs +decide (maxSteps := 2000000) [-selQ_sel, hokQ_of, h_1]
  obtain ⟨v2, h_2, H⟩ := HS.bnd H
  try simp -implicitDefEqProofs +decide (maxSteps := 2000000) [-selQ_sel, hokQ_of, h_1, h_2]
  obtain ⟨v3, h_3, H⟩ := HS.bnd H
  try simp -implicitDefEqProofs +decide (maxSteps := 2000000) [-selQ_sel, hokQ_of, h_1, h_2, h_3]
  obtain ⟨v4, h_4, H⟩ := HS.bnd H
  try simp -implicitDefEqProofs +decide (maxSteps := 2000000) [-selQ_sel, hokQ_of, h_1, h_2, h_3, h_4]
  have hr := (HS.some H).symm; subst hr
  refine Hid.mk ⟨_, Wk.refl _, ?_⟩
  try simp -implicitDefEqProofs +decide (maxSteps := 2000000) [-selQ_sel, hokQ_of, h_1, h_2, h_3, h_4]
theorem impl_CountOf_ok0 (hm : Try.prog.follows .mixedOrders = true) (k_impl_inRange : Sound Try.prog 76 impl_inRange_x) : Sound Try.prog 191 impl_CountOf_x := by
  refine xOf_sound fun q r h => ?_
  revert h; revert r; revert q; intro a0 r h
  refine fn_ok E0 hm Try.func191 rfl (by decide +kernel) (by rfl) fun Γ hn hk => ?_
  dsimp only [impl_CountOf_e, impl_CountOf_v]
  replace hn : Γ.n = 19 := hn
  replace hk : Γ.k = 0 := hk
  have H : HS (impl_CountOf a0) r := h
  clear h; unfold impl_CountOf at H
  try simp -implicitDefEqProofs at H
  refine Tr.of_vc (cl := tabC [(76, impl_inRange_x)]) (E := E0) [] (tab_cons k_impl_inRange tab_nil) hm (by rw [hn]; decide +kernel) ?_
  try simp -implicitDefEqProofs (maxSteps := 2000000) [-selQ_sel]
  obtain ⟨v1, h_1, H⟩ := HS.bnd H
  try simp -implicitDefEqProofs (maxSteps := 2000000) [-selQ_sel, h_1]
  refine Hid.brV (fun h_2 => ?_) (fun h_2 => ?_)
  · replace H := HS.cnd_t h_2 H
    try simp -implicitDefEqProofs (maxSteps := 2000000) [-selQ_sel, h_1, h_2]
    have hr := (HS.some H).symm; subst hr
    refine Hid.mk ⟨_, Wk.refl _, ?_⟩
    try simp -implicitDefEqProofs (maxSteps := 2000000) [-selQ_sel, h_1, h_2]
  · replace H := HS.cnd_f h_2 H
    try simp -implicitDefEqProofs (maxSteps := 2000000) [-selQ_sel, h_1, h_2]
    have hr := (HS.some H).symm; subst hr
    refine Hid.mk ⟨_, Wk.refl _, ?_⟩
    try simp -implicitDefEqProofs (maxSteps := 2000000) [-selQ_sel, h_1, h_2]
theorem spec_l01Byte_ok0 (hm : Try.prog.follows .mixedOrders = true) : Sound Try.prog 109 spec_l01Byte_x := by
  refine xOf_sound fun q r h => ?_
  revert h; revert r; revert q; intro a0 r h
  refine fn_ok E0 hm Try.func109 rfl (by decide +kernel) (by rfl) fun Γ hn hk => ?_
  dsimp only [spec_l01Byte_e, spec_l01Byte_v]
  replace hn : Γ.n = 58 := hn
  replace hk : Γ.k = 1 := hk
  have H : HS (spec_l01Byte a0) r := h
  clear h; unfold spec_l01Byte at H
  try simp -implicitDefEqProofs at H
  refine Tr.of_vc (cl := tabC []) (E := E0) [] tab_nil hm (by rw [hn]; decide +kernel) ?_
  try simp -implicitDefEqProofs +decide (maxSteps := 2000000) [-selQ_sel, hokQ_of]
  refine Hid.brV (fun h_1 => ?_) (fun h_1 => ?_)
  · replace H := HS.cnd_t h_1 H
    try simp -implicitDefEqProofs +decide (maxSteps := 2000000) [-selQ_sel, hokQ_of, h_1]
    have hr := (HS.some H).symm; subst hr
    refine Hid.mk ⟨_, Wk.refl _, ?_⟩
    try simp -implicitDefEqProofs +decide (maxSteps := 2000000) [-selQ_sel, hokQ_of, h_1]
  · replace H := HS.cnd_f h_1 H
    try simp -implicitDefEqProofs +decide (maxSteps := 2000000) [-selQ_sel, hokQ_of, h_1]
    obtain ⟨v1, h_2, H⟩ := HS.bnd H
    try simp -implicitDefEqProofs +decide (maxSteps := 2000000) [-selQ_sel, hokQ_of, h_1, h_2]
    have hr := (HS.some H).symm; subst hr
    refine Hid.mk ⟨_, Wk.refl _, ?_⟩
    try simp -implicitDefEqProofs +decide (maxSteps := 2000000) [-selQ_sel, hokQ_of, h_1, h_2]
theorem spec_DrawMasks_ok0 (hm : Try.prog.follows .mixedOrders = true) (k_spec_l01New : Sound Try.prog 101 spec_l01New_x) (k_spec_l11Mask : Sound Try.prog 114 spec_l11Mask_x) : Sound Try.prog 37 spec_DrawMasks_x := by
  refine xOf_sound fun q r h => ?_
  revert h; revert r; revert q; intro a0 r h
  refine fn_ok E0 hm Try.func37 rfl (by decide +kernel) (by rfl) fun Γ hn hk => ?_
  dsimp only [spec_DrawMasks_e, spec_DrawMasks_v]
  replace hn : Γ.n = 11 := hn
  replace hk : Γ.k = 0 := hk
  have H : HS (spec_DrawMasks a0) r := h
  clear h; unfold spec_DrawMasks at H
  try simp -implicitDefEqProofs at H
  refine Tr.of_vc (cl := tabC [(101, spec_l01New_x), (114, spec_l11Mask_x)]) (E := E0) [] (tab_cons k_spec_l01New (tab_cons k_spec_l11Mask tab_nil)) hm (by rw [hn]; decide +kernel) ?_
  try simp -implicitDefEqProofs (maxSteps := 2000000) [-selQ_sel]
  obtain ⟨v1, h_1, H⟩ := HS.bnd H
  try simp -implicitDefEqProofs (maxSteps := 2000000) [-selQ_sel, h_1]
  obtain ⟨⟨w3, w4⟩, h_2, H⟩ := HS.bnd H
  dsimp only at H
  try simp -implicitDefEqProofs (maxSteps := 2000000) [-selQ_sel, h_1, h_2]
  obtain ⟨⟨w6, w7⟩, h_3, H⟩ := HS.bnd H
  dsimp only at H
  try simp -implicitDefEqProofs (maxSteps := 2000000) [-selQ_sel, h_1, h_2, h_3]
  have hr := (HS.some H).symm; subst hr
  refine Hid.mk ⟨_, Wk.refl _, ?_⟩
  try simp -implicitDefEqProofs (maxSteps := 2000000) [-selQ_sel, h_1, h_2, h_3]
theorem spec_DrawSlope_ok0 (hm : Try.prog.follows .mixedOrders = true) (k_spec_l01New : Sound Try.prog 101 spec_l01New_x) (k_spec_l12Paint : Sound Try.prog 115 spec_l12Paint_x) : Sound Try.prog 38 spec_DrawSlope_x := by
  refine xOf_sound fun q r h => ?_
  revert h; revert r; revert q; intro a0 r h
  refine fn_ok E0 hm Try.func38 rfl (by decide +kernel) (by rfl) fun Γ hn hk => ?_
  dsimp only [spec_DrawSlope_e, spec_DrawSlope_v]
  replace hn : Γ.n = 6 := hn
  replace hk : Γ.k = 0 := hk
  have H : HS (spec_DrawSlope a0) r := h
  clear h; unfold spec_DrawSlope at H
  try simp -implicitDefEqProofs at H
  refine Tr.of_vc (cl := tabC [(101, spec_l01New_x), (115, spec_l12Paint_x)]) (E := E0) [] (tab_cons k_spec_l01New (tab_cons k_spec_l12Paint tab_nil)) hm (by rw [hn]; decide +kernel) ?_
  try simp -implicitDefEqProofs (maxSteps := 2000000) [-selQ_sel]
  obtain ⟨v1, h_1, H⟩ := HS.bnd H
  try simp -implicitDefEqProofs (maxSteps := 2000000) [-selQ_sel, h_1]
  obtain ⟨⟨w3, w4⟩, h_2, H⟩ := HS.bnd H
  dsimp only at H
  try simp -implicitDefEqProofs (maxSteps := 2000000) [-selQ_sel, h_1, h_2]
  have hr := (HS.some H).symm; subst hr
  refine Hid.mk ⟨_, Wk.refl _, ?_⟩
  try simp -implicitDefEqProofs (maxSteps := 2000000) [-selQ_sel, h_1, h_2]
theorem spec_Empty_ok0 (hm : Try.prog.follows .mixedOrders = true) : Sound Try.prog 84 spec_Empty_x := by
  refine xOf_sound fun q r h => ?_
  revert h; revert r; revert q; intro a0 r h
  refine fn_ok E0 hm Try.func84 rfl (by decide +kernel) (by rfl) fun Γ hn hk => ?_
  dsimp only [spec_Empty_e, spec_Empty_v]
  replace hn : Γ.n = 15 := hn
  replace hk : Γ.k = 0 := hk
  have H : HS (spec_Empty a0) r := h
  clear h; unfold spec_Empty at H
  try simp -implicitDefEqProofs at H
  refine Tr.of_vc (cl := tabC []) (E := E0) [] tab_nil hm (by rw [hn]; decide +kernel) ?_
  try simp -implicitDefEqProofs (maxSteps := 2000000) [-selQ_sel]
  refine Hid.selQ (fun h_1 => ?_) (fun h_1 => ?_)
  · replace H := HS.cnd_t h_1 H
    try simp -implicitDefEqProofs (maxSteps := 2000000) [-selQ_sel, h_1]
    have hr := (HS.some H).symm; subst hr
    refine Hid.mk ⟨_, Wk.refl _, ?_⟩
    try simp -implicitDefEqProofs (maxSteps := 2000000) [-selQ_sel, h_1]
  · replace H := HS.cnd_f h_1 H
    try simp -implicitDefEqProofs (maxSteps := 2000000) [-selQ_sel, h_1]
    have hr := (HS.some H).symm; subst hr
    refine Hid.mk ⟨_, Wk.refl _, ?_⟩
    try simp -implicitDefEqProofs (maxSteps := 2000000) [-selQ_sel, h_1]
theorem spec_l01PickInt_ok0 (hm : Try.prog.follows .mixedOrders = true) (k_spec_l01Below : Sound Try.prog 110 spec_l01Below_x) : Sound Try.prog 171 spec_l01PickInt_x := by
  refine xOf_sound fun q r h => ?_
  obtain ⟨a0, a1⟩ := q
  refine fn_ok E0 hm Try.func171 rfl (by decide +kernel) (by rfl) fun Γ hn hk => ?_
  dsimp only [spec_l01PickInt_e, spec_l01PickInt_v]
  replace hn : Γ.n = 12 := hn
  replace hk : Γ.k = 2 := hk
  have H : HS (spec_l01PickInt a0 a1) r := h
  clear h; unfold spec_l01PickInt at H
  try simp -implicitDefEqProofs at H
  refine Tr.of_vc (cl := tabC [(110, spec_l01Below_x)]) (E := E0) [] (tab_cons k_spec_l01Below tab_nil) hm (by rw [hn]; decide +kernel) ?_
  try simp -implicitDefEqProofs (maxSteps := 2000000) [-selQ_sel]
  obtain ⟨⟨w2, w3⟩, h_1, H⟩ := HS.bnd H
  dsimp only at H
  try simp -implicitDefEqProofs (maxSteps := 2000000) [-selQ_sel, h_1]
  obtain ⟨v4, h_2, H⟩ := HS.bnd H
  have g_3 := idx_get h_2
  try simp -implicitDefEqProofs (maxSteps := 2000000) [-selQ_sel, h_1, h_2, g_3]
  have hr := (HS.some H).symm; subst hr
  refine Hid.mk ⟨_, Wk.refl _, ?_⟩
  try simp -implicitDefEqProofs (maxSteps := 2000000) [-selQ_sel, h_1, h_2, g_3]
theorem impl_ColorAt_1_ok0 (hm : Try.prog.follows .mixedOrders = true) (k_impl_RoundDiv : Sound Try.prog 177 impl_RoundDiv_x) : Sound Try.prog 230 impl_ColorAt_1_x := by
  refine xOf_sound fun q r h => ?_
  obtain ⟨a0, a1, a2⟩ := q
  refine fn_ok E0 hm Try.func230 rfl (by decide +kernel) (by rfl) fun Γ hn hk => ?_
  dsimp only [impl_ColorAt_1_e, impl_ColorAt_1_v]
  replace hn : Γ.n = 15 := hn
  replace hk : Γ.k = 0 := hk
  have H : HS (impl_ColorAt_1 a0 a1 a2) r := h
  clear h; unfold impl_ColorAt_1 at H
  try simp -implicitDefEqProofs at H
  refine Tr.of_vc (cl := tabC [(177, impl_RoundDiv_x)]) (E := E0) [] (tab_cons k_impl_RoundDiv tab_nil) hm (by rw [hn]; decide +kernel) ?_
  try simp -implicitDefEqProofs (maxSteps := 2000000) [-selQ_sel]
  obtain ⟨v1, h_1, H⟩ := HS.bnd H
  try simp -implicitDefEqProofs (maxSteps := 2000000) [-selQ_sel, h_1]
  have hr := (HS.some H).symm; subst hr
  refine Hid.mk ⟨_, Wk.refl _, ?_⟩
  try simp -implicitDefEqProofs (maxSteps := 2000000) [-selQ_sel, h_1]
theorem spec_l12Mix_ok0 (hm : Try.prog.follows .mixedOrders = true) (k_spec_RoundDiv : Sound Try.prog 124 spec_RoundDiv_x) : Sound Try.prog 128 spec_l12Mix_x := by
  refine xOf_sound fun q r h => ?_
  obtain ⟨a0, a1, a2⟩ := q
  refine fn_ok E0 hm Try.func128 rfl (by decide +kernel) (by rfl) fun Γ hn hk => ?_
  dsimp only [spec_l12Mix_e, spec_l12Mix_v]
  replace hn : Γ.n = 16 := hn
  replace hk : Γ.k = 0 := hk
  have H : HS (spec_l12Mix a0 a1 a2) r := h
  clear h; unfold spec_l12Mix at H
  try simp -implicitDefEqProofs at H
  refine Tr.of_vc (cl := tabC [(124, spec_RoundDiv_x)]) (E := E0) [] (tab_cons k_spec_RoundDiv tab_nil) hm (by rw [hn]; decide +kernel) ?_
  try simp -implicitDefEqProofs (maxSteps := 2000000) [-selQ_sel]
  obtain ⟨v1, h_1, H⟩ := HS.bnd H
  try simp -implicitDefEqProofs (maxSteps := 2000000) [-selQ_sel, h_1]
  have hr := (HS.some H).symm; subst hr
  refine Hid.mk ⟨_, Wk.refl _, ?_⟩
  try simp -implicitDefEqProofs (maxSteps := 2000000) [-selQ_sel, h_1]
theorem impl_isFar_ok0 (hm : Try.prog.follows .mixedOrders = true) (k_impl_inRange : Sound Try.prog 76 impl_inRange_x) : Sound Try.prog 226 impl_isFar_x := by
  refine xOf_sound fun q r h => ?_
  revert h; revert r; revert q; intro a0 r h
  refine fn_ok E0 hm Try.func226 rfl (by decide +kernel) (by rfl) fun Γ hn hk => ?_
  dsimp only [impl_isFar_e, impl_isFar_v]
  replace hn : Γ.n = 5 := hn
  replace hk : Γ.k = 0 := hk
  have H : HS (impl_isFar a0) r := h
  clear h; unfold impl_isFar at H
  try simp -implicitDefEqProofs at H
  refine Tr.of_vc (cl := tabC [(76, impl_inRange_x)]) (E := E0) [] (tab_cons k_impl_inRange tab_nil) hm (by rw [hn]; decide +kernel) ?_
  try simp -implicitDefEqProofs (maxSteps := 2000000) [-selQ_sel]
  obtain ⟨v1, h_1, H⟩ := HS.bnd H
  try simp -implicitDefEqProofs (maxSteps := 2000000) [-selQ_sel, h_1]
  have hr := (HS.some H).symm; subst hr
  refine Hid.mk ⟨_, Wk.refl _, ?_⟩
  try simp -implicitDefEqProofs (maxSteps := 2000000) [-selQ_sel, h_1]
theorem impl_Surface_box_ok0 (hm : Try.prog.follows .mixedOrders = true) : Sound Try.prog 105 impl_Surface_box_x := by
  refine xOf_sound fun q r h => ?_
  revert h; revert r; revert q; intro a0 r h
  refine fn_ok E0 hm Try.func105 rfl (by decide +kernel) (by rfl) fun Γ hn hk => ?_
  dsimp only [impl_Surface_box_e, impl_Surface_box_v]
  replace hn : Γ.n = 12 := hn
  replace hk : Γ.k = 0 := hk
  have H : HS (impl_Surface_box a0) r := h
  clear h; unfold impl_Surface_box at H
  try simp -implicitDefEqProofs at H
  refine Tr.of_vc (cl := tabC []) (E := E0) [] tab_nil hm (by rw [hn]; decide +kernel) ?_
  try simp -implicitDefEqProofs +decide (maxSteps := 2000000) [-selQ_sel, hokQ_of]
  have hr := (HS.some H).symm; subst hr
  refine Hid.mk ⟨_, Wk.refl _, ?_⟩
  try simp -implicitDefEqProofs +decide (maxSteps := 2000000) [-selQ_sel, hokQ_of]
end Go.Proofs.Ytoafihhhdnmliaa.Am
