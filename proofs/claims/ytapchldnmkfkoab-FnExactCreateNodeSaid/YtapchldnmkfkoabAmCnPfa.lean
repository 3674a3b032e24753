import Derived.Test.YtapchldnmkfkoabAmCnMo
set_option linter.unusedVariables false
set_option linter.unusedSimpArgs false
set_option linter.unusedSectionVars false
namespace Go.Proofs.Ytapchldnmkfkoab.Am
open Go Go.Proofs
set_option maxRecDepth 100000
set_option linter.unusedSimpArgs false
set_option linter.unusedVariables false
set_option maxHeartbeats 4000000
theorem laws_heldNodeS_ok0 (hm : Try.prog.follows .mixedOrders = true) (k_laws_heldIntS : Sound Try.prog 113 laws_heldIntS_x) (k_laws_heldPointS : Sound Try.prog 114 laws_heldPointS_x) : Sound Try.prog 73 laws_heldNodeS_x := by
 refine xOf_sound fun q r h => ?_
 obtain ⟨a0, a1⟩ := q
 refine fn_ok E0 hm Try.func73 rfl (by decide +kernel) (by rfl) fun Γ hn hk => ?_
 dsimp only [laws_heldNodeS_e, laws_heldNodeS_v]
 replace hn : Γ.n = 331 := hn
 replace hk : Γ.k = 0 := hk
 have H : HS (laws_heldNodeS a0 a1) r := h
 clear h; unfold laws_heldNodeS at H
 try simp -implicitDefEqProofs at H
 refine Tr.of_vc (cl := tabC [(113, laws_heldIntS_x), (114, laws_heldPointS_x)]) (E := E0) [] (tab_cons k_laws_heldIntS (tab_cons k_laws_heldPointS tab_nil)) hm (by rw [hn]; decide +kernel) ?_
 try simp -implicitDefEqProofs (maxSteps := 999999) [-selQ_sel]
 obtain ⟨q, h_1, H⟩ := HS.bnd H
 refine Hid.mk (Tr.weak (s' := (laws_heldNodeS_l0_S a0) (a1, 0)) (Wk.ofk [] hk (by rfl) (by simp -implicitDefEqProofs [laws_heldNodeS_l0_S]) (by simp -implicitDefEqProofs [laws_heldNodeS_l0_S])) ?_)
 refine wp_loop_of (S := (laws_heldNodeS_l0_S a0)) (f := (laws_heldNodeS_l0 a0)) (xt := (laws_heldNodeS_l0_X a0)) ?_ ?_ h_1 ?_
 ·intro q; rcases q with y15 | ⟨⟩ <;> simp [laws_heldNodeS_l0_X]
 ·clear H h_1 q
  rintro ⟨x7, x8⟩ o R hf hR
  have H : HS (laws_heldNodeS_l0 a0 (x7, x8)) o := hf
  clear hf; unfold laws_heldNodeS_l0 at H
  try simp -implicitDefEqProofs at H
  refine Tr.of_vc (cl := tabC [(113, laws_heldIntS_x), (114, laws_heldPointS_x)]) (E := E0) [] (tab_cons k_laws_heldIntS (tab_cons k_laws_heldPointS tab_nil)) hm (by rw [hn]; decide +kernel) ?_
  try simp -implicitDefEqProofs (maxSteps := 999999) [-selQ_sel, laws_heldNodeS_l0_S]
  refine Hid.brV (fun h_2 => ?_) (fun h_2 => ?_)
  ·replace H := HS.cnd_t h_2 H
   try simp -implicitDefEqProofs (maxSteps := 999999) [-selQ_sel, h_2]
   have hr := (HS.some H).symm; subst hr
   exact Hid.mk ⟨(laws_heldNodeS_l0_X a0 (.inl x7)).2, Wk.ofk [] hk (by rfl) (by simp -implicitDefEqProofs [laws_heldNodeS_l0_X, h_2]) (by simp -implicitDefEqProofs [laws_heldNodeS_l0_X, h_2]), hR⟩
  ·replace H := HS.cnd_f h_2 H
   try simp -implicitDefEqProofs (maxSteps := 999999) [-selQ_sel, h_2]
   obtain ⟨v9, h_3, H⟩ := HS.bnd H
   try simp -implicitDefEqProofs (maxSteps := 999999) [-selQ_sel, h_2, h_3]
   refine Hid.brV (fun h_4 => ?_) (fun h_4 => ?_)
   ·replace H := HS.cnd_t h_4 H
    try simp -implicitDefEqProofs (maxSteps := 999999) [-selQ_sel, h_2, h_3, h_4]
    refine Hid.brV (fun h_5 => ?_) (fun h_5 => ?_)
    ·replace H := HS.cnd_t h_5 H
     try simp -implicitDefEqProofs (maxSteps := 999999) [-selQ_sel, h_2, h_3, h_4, h_5]
     refine Hid.brV (fun h_6 => ?_) (fun h_6 => ?_)
     ·replace H := HS.cnd_t h_6 H
      try simp -implicitDefEqProofs (maxSteps := 999999) [-selQ_sel, h_2, h_3, h_4, h_5, h_6]
      refine Hid.brV (fun h_7 => ?_) (fun h_7 => ?_)
      ·replace H := HS.cnd_t h_7 H
       try simp -implicitDefEqProofs (maxSteps := 999999) [-selQ_sel, h_2, h_3, h_4, h_5, h_6, h_7]
       refine Hid.brV (fun h_8 => ?_) (fun h_8 => ?_)
       ·replace H := HS.cnd_t h_8 H
        try simp -implicitDefEqProofs (maxSteps := 999999) [-selQ_sel, h_2, h_3, h_4, h_5, h_6, h_7, h_8]
        refine Hid.brV (fun h_9 => ?_) (fun h_9 => ?_)
        ·replace H := HS.cnd_t h_9 H
         try simp -implicitDefEqProofs (maxSteps := 999999) [-selQ_sel, h_2, h_3, h_4, h_5, h_6, h_7, h_8, h_9]
         refine Hid.brV (fun h_10 => ?_) (fun h_10 => ?_)
         ·replace H := HS.cnd_t h_10 H
          try simp -implicitDefEqProofs (maxSteps := 999999) [-selQ_sel, h_2, h_3, h_4, h_5, h_6, h_7, h_8, h_9, h_10]
          refine Hid.brV (fun h_11 => ?_) (fun h_11 => ?_)
          ·replace H := HS.cnd_t h_11 H
           try simp -implicitDefEqProofs (maxSteps := 999999) [-selQ_sel, h_2, h_3, h_4, h_5, h_6, h_7, h_8, h_9, h_10, h_11]
           refine Hid.brV (fun h_12 => ?_) (fun h_12 => ?_)
           ·replace H := HS.cnd_t h_12 H
            try simp -implicitDefEqProofs (maxSteps := 999999) [-selQ_sel, h_2, h_3, h_4, h_5, h_6, h_7, h_8, h_9, h_10, h_11, h_12]
            obtain ⟨v10, h_13, H⟩ := HS.bnd H
            try simp -implicitDefEqProofs (maxSteps := 999999) [-selQ_sel, h_2, h_3, h_4, h_5, h_6, h_7, h_8, h_9, h_10, h_11, h_12, h_13]
            refine Hid.brV (fun h_14 => ?_) (fun h_14 => ?_)
            ·replace H := HS.cnd_t h_14 H
             try simp -implicitDefEqProofs (maxSteps := 999999) [-selQ_sel, h_2, h_3, h_4, h_5, h_6, h_7, h_8, h_9, h_10, h_11, h_12, h_13, h_14]
             obtain ⟨v11, h_15, H⟩ := HS.bnd H
             try simp -implicitDefEqProofs (maxSteps := 999999) [-selQ_sel, h_2, h_3, h_4, h_5, h_6, h_7, h_8, h_9, h_10, h_11, h_12, h_13, h_14, h_15]
             refine Hid.brV (fun h_16 => ?_) (fun h_16 => ?_)
             ·replace H := HS.cnd_t h_16 H
              try simp -implicitDefEqProofs (maxSteps := 999999) [-selQ_sel, h_2, h_3, h_4, h_5, h_6, h_7, h_8, h_9, h_10, h_11, h_12, h_13, h_14, h_15, h_16]
              refine Hid.brV (fun h_17 => ?_) (fun h_17 => ?_)
              ·replace H := HS.cnd_t h_17 H
               try simp -implicitDefEqProofs (maxSteps := 999999) [-selQ_sel, h_2, h_3, h_4, h_5, h_6, h_7, h_8, h_9, h_10, h_11, h_12, h_13, h_14, h_15, h_16, h_17]
               refine Hid.brV (fun h_18 => ?_) (fun h_18 => ?_)
               ·replace H := HS.cnd_t h_18 H
                try simp -implicitDefEqProofs (maxSteps := 999999) [-selQ_sel, h_2, h_3, h_4, h_5, h_6, h_7, h_8, h_9, h_10, h_11, h_12, h_13, h_14, h_15, h_16, h_17, h_18]
                obtain ⟨v12, h_19, H⟩ := HS.bnd H
                try simp -implicitDefEqProofs (maxSteps := 999999) [-selQ_sel, h_2, h_3, h_4, h_5, h_6, h_7, h_8, h_9, h_10, h_11, h_12, h_13, h_14, h_15, h_16, h_17, h_18, h_19]
                refine Hid.brV (fun h_20 => ?_) (fun h_20 => ?_)
                ·replace H := HS.cnd_t h_20 H
                 try simp -implicitDefEqProofs (maxSteps := 999999) [-selQ_sel, h_2, h_3, h_4, h_5, h_6, h_7, h_8, h_9, h_10, h_11, h_12, h_13, h_14, h_15, h_16, h_17, h_18, h_19, h_20]
                 refine Hid.brV (fun h_21 => ?_) (fun h_21 => ?_)
                 ·replace H := HS.cnd_t h_21 H
                  try simp -implicitDefEqProofs (maxSteps := 999999) [-selQ_sel, h_2, h_3, h_4, h_5, h_6, h_7, h_8, h_9, h_10, h_11, h_12, h_13, h_14, h_15, h_16, h_17, h_18, h_19, h_20, h_21]
                  refine Hid.brV (fun h_22 => ?_) (fun h_22 => ?_)
                  ·replace H := HS.cnd_t h_22 H
                   try simp -implicitDefEqProofs (maxSteps := 999999) [-selQ_sel, h_2, h_3, h_4, h_5, h_6, h_7, h_8, h_9, h_10, h_11, h_12, h_13, h_14, h_15, h_16, h_17, h_18, h_19, h_20, h_21, h_22]
                   refine Hid.brV (fun h_23 => ?_) (fun h_23 => ?_)
                   ·replace H := HS.cnd_t h_23 H
                    try simp -implicitDefEqProofs (maxSteps := 999999) [-selQ_sel, h_2, h_3, h_4, h_5, h_6, h_7, h_8, h_9, h_10, h_11, h_12, h_13, h_14, h_15, h_16, h_17, h_18, h_19, h_20, h_21, h_22, h_23]
                    refine Hid.brV (fun h_24 => ?_) (fun h_24 => ?_)
                    ·replace H := HS.cnd_t h_24 H
                     try simp -implicitDefEqProofs (maxSteps := 999999) [-selQ_sel, h_2, h_3, h_4, h_5, h_6, h_7, h_8, h_9, h_10, h_11, h_12, h_13, h_14, h_15, h_16, h_17, h_18, h_19, h_20, h_21, h_22, h_23, h_24]
                     refine Hid.brV (fun h_25 => ?_) (fun h_25 => ?_)
                     ·replace H := HS.cnd_t h_25 H
                      try simp -implicitDefEqProofs (maxSteps := 999999) [-selQ_sel, h_2, h_3, h_4, h_5, h_6, h_7, h_8, h_9, h_10, h_11, h_12, h_13, h_14, h_15, h_16, h_17, h_18, h_19, h_20, h_21, h_22, h_23, h_24, h_25]
                      refine Hid.brV (fun h_26 => ?_) (fun h_26 => ?_)
                      ·replace H := HS.cnd_t h_26 H
                       try simp -implicitDefEqProofs (maxSteps := 999999) [-selQ_sel, h_2, h_3, h_4, h_5, h_6, h_7, h_8, h_9, h_10, h_11, h_12, h_13, h_14, h_15, h_16, h_17, h_18, h_19, h_20, h_21, h_22, h_23, h_24, h_25, h_26]
                       refine Hid.brV (fun h_27 => ?_) (fun h_27 => ?_)
                       ·replace H := HS.cnd_t h_27 H
                        try simp -implicitDefEqProofs (maxSteps := 999999) [-selQ_sel, h_2, h_3, h_4, h_5, h_6, h_7, h_8, h_9, h_10, h_11, h_12, h_13, h_14, h_15, h_16, h_17, h_18, h_19, h_20, h_21, h_22, h_23, h_24, h_25, h_26, h_27]
                        refine Hid.brV (fun h_28 => ?_) (fun h_28 => ?_)
                        ·replace H := HS.cnd_t h_28 H
                         try simp -implicitDefEqProofs (maxSteps := 999999) [-selQ_sel, h_2, h_3, h_4, h_5, h_6, h_7, h_8, h_9, h_10, h_11, h_12, h_13, h_14, h_15, h_16, h_17, h_18, h_19, h_20, h_21, h_22, h_23, h_24, h_25, h_26, h_27, h_28]
                         refine Hid.brV (fun h_29 => ?_) (fun h_29 => ?_)
                         ·replace H := HS.cnd_t h_29 H
                          try simp -implicitDefEqProofs (maxSteps := 999999) [-selQ_sel, h_2, h_3, h_4, h_5, h_6, h_7, h_8, h_9, h_10, h_11, h_12, h_13, h_14, h_15, h_16, h_17, h_18, h_19, h_20, h_21, h_22, h_23, h_24, h_25, h_26, h_27, h_28, h_29]
                          refine Hid.brV (fun h_30 => ?_) (fun h_30 => ?_)
                          ·replace H := HS.cnd_t h_30 H
                           try simp -implicitDefEqProofs (maxSteps := 999999) [-selQ_sel, h_2, h_3, h_4, h_5, h_6, h_7, h_8, h_9, h_10, h_11, h_12, h_13, h_14, h_15, h_16, h_17, h_18, h_19, h_20, h_21, h_22, h_23, h_24, h_25, h_26, h_27, h_28, h_29, h_30]
                           refine Hid.brV (fun h_31 => ?_) (fun h_31 => ?_)
                           ·replace H := HS.cnd_t h_31 H
                            try simp -implicitDefEqProofs (maxSteps := 999999) [-selQ_sel, h_2, h_3, h_4, h_5, h_6, h_7, h_8, h_9, h_10, h_11, h_12, h_13, h_14, h_15, h_16, h_17, h_18, h_19, h_20, h_21, h_22, h_23, h_24, h_25, h_26, h_27, h_28, h_29, h_30, h_31]
                            refine Hid.brV (fun h_32 => ?_) (fun h_32 => ?_)
                            ·replace H := HS.cnd_t h_32 H
                             try simp -implicitDefEqProofs (maxSteps := 999999) [-selQ_sel, h_2, h_3, h_4, h_5, h_6, h_7, h_8, h_9, h_10, h_11, h_12, h_13, h_14, h_15, h_16, h_17, h_18, h_19, h_20, h_21, h_22, h_23, h_24, h_25, h_26, h_27, h_28, h_29, h_30, h_31, h_32]
                             refine Hid.brV (fun h_33 => ?_) (fun h_33 => ?_)
                             ·replace H := HS.cnd_t h_33 H
                              try simp -implicitDefEqProofs (maxSteps := 999999) [-selQ_sel, h_2, h_3, h_4, h_5, h_6, h_7, h_8, h_9, h_10, h_11, h_12, h_13, h_14, h_15, h_16, h_17, h_18, h_19, h_20, h_21, h_22, h_23, h_24, h_25, h_26, h_27, h_28, h_29, h_30, h_31, h_32, h_33]
                              refine Hid.brV (fun h_34 => ?_) (fun h_34 => ?_)
                              ·replace H := HS.cnd_t h_34 H
                               try simp -implicitDefEqProofs (maxSteps := 999999) [-selQ_sel, h_2, h_3, h_4, h_5, h_6, h_7, h_8, h_9, h_10, h_11, h_12, h_13, h_14, h_15, h_16, h_17, h_18, h_19, h_20, h_21, h_22, h_23, h_24, h_25, h_26, h_27, h_28, h_29, h_30, h_31, h_32, h_33, h_34]
                               refine Hid.brV (fun h_35 => ?_) (fun h_35 => ?_)
                               ·replace H := HS.cnd_t h_35 H
                                try simp -implicitDefEqProofs (maxSteps := 999999) [-selQ_sel, h_2, h_3, h_4, h_5, h_6, h_7, h_8, h_9, h_10, h_11, h_12, h_13, h_14, h_15, h_16, h_17, h_18, h_19, h_20, h_21, h_22, h_23, h_24, h_25, h_26, h_27, h_28, h_29, h_30, h_31, h_32, h_33, h_34, h_35]
                                obtain ⟨v13, h_36, H⟩ := HS.bnd H
                                try simp -implicitDefEqProofs (maxSteps := 999999) [-selQ_sel, h_2, h_3, h_4, h_5, h_6, h_7, h_8, h_9, h_10, h_11, h_12, h_13, h_14, h_15, h_16, h_17, h_18, h_19, h_20, h_21, h_22, h_23, h_24, h_25, h_26, h_27, h_28, h_29, h_30, h_31, h_32, h_33, h_34, h_35, h_36]
                                refine Hid.brV (fun h_37 => ?_) (fun h_37 => ?_)
                                ·replace H := HS.cnd_t h_37 H
                                 try simp -implicitDefEqProofs (maxSteps := 999999) [-selQ_sel, h_2, h_3, h_4, h_5, h_6, h_7, h_8, h_9, h_10, h_11, h_12, h_13, h_14, h_15, h_16, h_17, h_18, h_19, h_20, h_21, h_22, h_23, h_24, h_25, h_26, h_27, h_28, h_29, h_30, h_31, h_32, h_33, h_34, h_35, h_36, h_37]
                                 obtain ⟨v14, h_38, H⟩ := HS.bnd H
                                 try simp -implicitDefEqProofs (maxSteps := 999999) [-selQ_sel, h_2, h_3, h_4, h_5, h_6, h_7, h_8, h_9, h_10, h_11, h_12, h_13, h_14, h_15, h_16, h_17, h_18, h_19, h_20, h_21, h_22, h_23, h_24, h_25, h_26, h_27, h_28, h_29, h_30, h_31, h_32, h_33, h_34, h_35, h_36, h_37, h_38]
                                 refine Hid.brV (fun h_39 => ?_) (fun h_39 => ?_)
                                 ·replace H := HS.cnd_t h_39 H
                                  try simp -implicitDefEqProofs (maxSteps := 999999) [-selQ_sel, h_2, h_3, h_4, h_5, h_6, h_7, h_8, h_9, h_10, h_11, h_12, h_13, h_14, h_15, h_16, h_17, h_18, h_19, h_20, h_21, h_22, h_23, h_24, h_25, h_26, h_27, h_28, h_29, h_30, h_31, h_32, h_33, h_34, h_35, h_36, h_37, h_38, h_39]
                                  have hr := (HS.some H).symm; subst hr
                                  exact Hid.mk ⟨laws_heldNodeS_l0_S a0 (v14, (IntKind.i64.wrap (x8 + 1))), Wk.ofk [] hk (by rfl) (by simp -implicitDefEqProofs [laws_heldNodeS_l0_S, h_2, h_3, h_4, h_5, h_6, h_7, h_8, h_9, h_10, h_11, h_12, h_13, h_14, h_15, h_16, h_17, h_18, h_19, h_20, h_21, h_22, h_23, h_24, h_25, h_26, h_27, h_28, h_29, h_30, h_31, h_32, h_33, h_34, h_35, h_36, h_37, h_38, h_39]) (by simp -implicitDefEqProofs [laws_heldNodeS_l0_S, h_2, h_3, h_4, h_5, h_6, h_7, h_8, h_9, h_10, h_11, h_12, h_13, h_14, h_15, h_16, h_17, h_18, h_19, h_20, h_21, h_22, h_23, h_24, h_25, h_26, h_27, h_28, h_29, h_30, h_31, h_32, h_33, h_34, h_35, h_36, h_37, h_38, h_39]), hR⟩
                                 ·replace H := HS.cnd_f h_39 H
                                  try simp -implicitDefEqProofs (maxSteps := 999999) [-selQ_sel, h_2, h_3, h_4, h_5, h_6, h_7, h_8, h_9, h_10, h_11, h_12, h_13, h_14, h_15, h_16, h_17, h_18, h_19, h_20, h_21, h_22, h_23, h_24, h_25, h_26, h_27, h_28, h_29, h_30, h_31, h_32, h_33, h_34, h_35, h_36, h_37, h_38, h_39]
                                  have hr := (HS.some H).symm; subst hr
                                  exact Hid.mk ⟨(laws_heldNodeS_l0_X a0 (.inr ())).2, Wk.ofk [] hk (by rfl) (by simp -implicitDefEqProofs [laws_heldNodeS_l0_X, h_2, h_3, h_4, h_5, h_6, h_7, h_8, h_9, h_10, h_11, h_12, h_13, h_14, h_15, h_16, h_17, h_18, h_19, h_20, h_21, h_22, h_23, h_24, h_25, h_26, h_27, h_28, h_29, h_30, h_31, h_32, h_33, h_34, h_35, h_36, h_37, h_38, h_39]) (by simp -implicitDefEqProofs [laws_heldNodeS_l0_X, h_2, h_3, h_4, h_5, h_6, h_7, h_8, h_9, h_10, h_11, h_12, h_13, h_14, h_15, h_16, h_17, h_18, h_19, h_20, h_21, h_22, h_23, h_24, h_25, h_26, h_27, h_28, h_29, h_30, h_31, h_32, h_33, h_34, h_35, h_36, h_37, h_38, h_39]), hR⟩
                                ·replace H := HS.cnd_f h_37 H
                                 try simp -implicitDefEqProofs (maxSteps := 999999) [-selQ_sel, h_2, h_3, h_4, h_5, h_6, h_7, h_8, h_9, h_10, h_11, h_12, h_13, h_14, h_15, h_16, h_17, h_18, h_19, h_20, h_21, h_22, h_23, h_24, h_25, h_26, h_27, h_28, h_29, h_30, h_31, h_32, h_33, h_34, h_35, h_36, h_37]
                                 have hr := (HS.some H).symm; subst hr
                                 exact Hid.mk ⟨(laws_heldNodeS_l0_X a0 (.inr ())).2, Wk.ofk [] hk (by rfl) (by simp -implicitDefEqProofs [laws_heldNodeS_l0_X, h_2, h_3, h_4, h_5, h_6, h_7, h_8, h_9, h_10, h_11, h_12, h_13, h_14, h_15, h_16, h_17, h_18, h_19, h_20, h_21, h_22, h_23, h_24, h_25, h_26, h_27, h_28, h_29, h_30, h_31, h_32, h_33, h_34, h_35, h_36, h_37]) (by simp -implicitDefEqProofs [laws_heldNodeS_l0_X, h_2, h_3, h_4, h_5, h_6, h_7, h_8, h_9, h_10, h_11, h_12, h_13, h_14, h_15, h_16, h_17, h_18, h_19, h_20, h_21, h_22, h_23, h_24, h_25, h_26, h_27, h_28, h_29, h_30, h_31, h_32, h_33, h_34, h_35, h_36, h_37]), hR⟩
                               ·replace H := HS.cnd_f h_35 H
                                try simp -implicitDefEqProofs (maxSteps := 999999) [-selQ_sel, h_2, h_3, h_4, h_5, h_6, h_7, h_8, h_9, h_10, h_11, h_12, h_13, h_14, h_15, h_16, h_17, h_18, h_19, h_20, h_21, h_22, h_23, h_24, h_25, h_26, h_27, h_28, h_29, h_30, h_31, h_32, h_33, h_34, h_35]
                                have hr := (HS.some H).symm; subst hr
                                exact Hid.mk ⟨(laws_heldNodeS_l0_X a0 (.inr ())).2, Wk.ofk [] hk (by rfl) (by simp -implicitDefEqProofs [laws_heldNodeS_l0_X, h_2, h_3, h_4, h_5, h_6, h_7, h_8, h_9, h_10, h_11, h_12, h_13, h_14, h_15, h_16, h_17, h_18, h_19, h_20, h_21, h_22, h_23, h_24, h_25, h_26, h_27, h_28, h_29, h_30, h_31, h_32, h_33, h_34, h_35]) (by simp -implicitDefEqProofs [laws_heldNodeS_l0_X, h_2, h_3, h_4, h_5, h_6, h_7, h_8, h_9, h_10, h_11, h_12, h_13, h_14, h_15, h_16, h_17, h_18, h_19, h_20, h_21, h_22, h_23, h_24, h_25, h_26, h_27, h_28, h_29, h_30, h_31, h_32, h_33, h_34, h_35]), hR⟩
                              ·replace H := HS.cnd_f h_34 H
                               try simp -implicitDefEqProofs (maxSteps := 999999) [-selQ_sel, h_2, h_3, h_4, h_5, h_6, h_7, h_8, h_9, h_10, h_11, h_12, h_13, h_14, h_15, h_16, h_17, h_18, h_19, h_20, h_21, h_22, h_23, h_24, h_25, h_26, h_27, h_28, h_29, h_30, h_31, h_32, h_33, h_34]
                               have hr := (HS.some H).symm; subst hr
                               exact Hid.mk ⟨(laws_heldNodeS_l0_X a0 (.inr ())).2, Wk.ofk [] hk (by rfl) (by simp -implicitDefEqProofs [laws_heldNodeS_l0_X, h_2, h_3, h_4, h_5, h_6, h_7, h_8, h_9, h_10, h_11, h_12, h_13, h_14, h_15, h_16, h_17, h_18, h_19, h_20, h_21, h_22, h_23, h_24, h_25, h_26, h_27, h_28, h_29, h_30, h_31, h_32, h_33, h_34]) (by simp -implicitDefEqProofs [laws_heldNodeS_l0_X, h_2, h_3, h_4, h_5, h_6, h_7, h_8, h_9, h_10, h_11, h_12, h_13, h_14, h_15, h_16, h_17, h_18, h_19, h_20, h_21, h_22, h_23, h_24, h_25, h_26, h_27, h_28, h_29, h_30, h_31, h_32, h_33, h_34]), hR⟩
                             ·replace H := HS.cnd_f h_33 H
                              try simp -implicitDefEqProofs (maxSteps := 999999) [-selQ_sel, h_2, h_3, h_4, h_5, h_6, h_7, h_8, h_9, h_10, h_11, h_12, h_13, h_14, h_15, h_16, h_17, h_18, h_19, h_20, h_21, h_22, h_23, h_24, h_25, h_26, h_27, h_28, h_29, h_30, h_31, h_32, h_33]
                              have hr := (HS.some H).symm; subst hr
                              exact Hid.mk ⟨(laws_heldNodeS_l0_X a0 (.inr ())).2, Wk.ofk [] hk (by rfl) (by simp -implicitDefEqProofs [laws_heldNodeS_l0_X, h_2, h_3, h_4, h_5, h_6, h_7, h_8, h_9, h_10, h_11, h_12, h_13, h_14, h_15, h_16, h_17, h_18, h_19, h_20, h_21, h_22, h_23, h_24, h_25, h_26, h_27, h_28, h_29, h_30, h_31, h_32, h_33]) (by simp -implicitDefEqProofs [laws_heldNodeS_l0_X, h_2, h_3, h_4, h_5, h_6, h_7, h_8, h_9, h_10, h_11, h_12, h_13, h_14, h_15, h_16, h_17, h_18, h_19, h_20, h_21, h_22, h_23, h_24, h_25, h_26, h_27, h_28, h_29, h_30, h_31, h_32, h_33]), hR⟩
                            ·replace H := HS.cnd_f h_32 H
                             try simp -implicitDefEqProofs (maxSteps := 999999) [-selQ_sel, h_2, h_3, h_4, h_5, h_6, h_7, h_8, h_9, h_10, h_11, h_12, h_13, h_14, h_15, h_16, h_17, h_18, h_19, h_20, h_21, h_22, h_23, h_24, h_25, h_26, h_27, h_28, h_29, h_30, h_31, h_32]
                             have hr := (HS.some H).symm; subst hr
                             exact Hid.mk ⟨(laws_heldNodeS_l0_X a0 (.inr ())).2, Wk.ofk [] hk (by rfl) (by simp -implicitDefEqProofs [laws_heldNodeS_l0_X, h_2, h_3, h_4, h_5, h_6, h_7, h_8, h_9, h_10, h_11, h_12, h_13, h_14, h_15, h_16, h_17, h_18, h_19, h_20, h_21, h_22, h_23, h_24, h_25, h_26, h_27, h_28, h_29, h_30, h_31, h_32]) (by simp -implicitDefEqProofs [laws_heldNodeS_l0_X, h_2, h_3, h_4, h_5, h_6, h_7, h_8, h_9, h_10, h_11, h_12, h_13, h_14, h_15, h_16, h_17, h_18, h_19, h_20, h_21, h_22, h_23, h_24, h_25, h_26, h_27, h_28, h_29, h_30, h_31, h_32]), hR⟩
                           ·replace H := HS.cnd_f h_31 H
                            try simp -implicitDefEqProofs (maxSteps := 999999) [-selQ_sel, h_2, h_3, h_4, h_5, h_6, h_7, h_8, h_9, h_10, h_11, h_12, h_13, h_14, h_15, h_16, h_17, h_18, h_19, h_20, h_21, h_22, h_23, h_24, h_25, h_26, h_27, h_28, h_29, h_30, h_31]
                            have hr := (HS.some H).symm; subst hr
                            exact Hid.mk ⟨(laws_heldNodeS_l0_X a0 (.inr ())).2, Wk.ofk [] hk (by rfl) (by simp -implicitDefEqProofs [laws_heldNodeS_l0_X, h_2, h_3, h_4, h_5, h_6, h_7, h_8, h_9, h_10, h_11, h_12, h_13, h_14, h_15, h_16, h_17, h_18, h_19, h_20, h_21, h_22, h_23, h_24, h_25, h_26, h_27, h_28, h_29, h_30, h_31]) (by simp -implicitDefEqProofs [laws_heldNodeS_l0_X, h_2, h_3, h_4, h_5, h_6, h_7, h_8, h_9, h_10, h_11, h_12, h_13, h_14, h_15, h_16, h_17, h_18, h_19, h_20, h_21, h_22, h_23, h_24, h_25, h_26, h_27, h_28, h_29, h_30, h_31]), hR⟩
                          ·replace H := HS.cnd_f h_30 H
                           try simp -implicitDefEqProofs (maxSteps := 999999) [-selQ_sel, h_2, h_3, h_4, h_5, h_6, h_7, h_8, h_9, h_10, h_11, h_12, h_13, h_14, h_15, h_16, h_17, h_18, h_19, h_20, h_21, h_22, h_23, h_24, h_25, h_26, h_27, h_28, h_29, h_30]
                           have hr := (HS.some H).symm; subst hr
                           exact Hid.mk ⟨(laws_heldNodeS_l0_X a0 (.inr ())).2, Wk.ofk [] hk (by rfl) (by simp -implicitDefEqProofs [laws_heldNodeS_l0_X, h_2, h_3, h_4, h_5, h_6, h_7, h_8, h_9, h_10, h_11, h_12, h_13, h_14, h_15, h_16, h_17, h_18, h_19, h_20, h_21, h_22, h_23, h_24, h_25, h_26, h_27, h_28, h_29, h_30]) (by simp -implicitDefEqProofs [laws_heldNodeS_l0_X, h_2, h_3, h_4, h_5, h_6, h_7, h_8, h_9, h_10, h_11, h_12, h_13, h_14, h_15, h_16, h_17, h_18, h_19, h_20, h_21, h_22, h_23, h_24, h_25, h_26, h_27, h_28, h_29, h_30]), hR⟩
                         ·replace H := HS.cnd_f h_29 H
                          try simp -implicitDefEqProofs (maxSteps := 999999) [-selQ_sel, h_2, h_3, h_4, h_5, h_6, h_7, h_8, h_9, h_10, h_11, h_12, h_13, h_14, h_15, h_16, h_17, h_18, h_19, h_20, h_21, h_22, h_23, h_24, h_25, h_26, h_27, h_28, h_29]
                          have hr := (HS.some H).symm; subst hr
                          exact Hid.mk ⟨(laws_heldNodeS_l0_X a0 (.inr ())).2, Wk.ofk [] hk (by rfl) (by simp -implicitDefEqProofs [laws_heldNodeS_l0_X, h_2, h_3, h_4, h_5, h_6, h_7, h_8, h_9, h_10, h_11, h_12, h_13, h_14, h_15, h_16, h_17, h_18, h_19, h_20, h_21, h_22, h_23, h_24, h_25, h_26, h_27, h_28, h_29]) (by simp -implicitDefEqProofs [laws_heldNodeS_l0_X, h_2, h_3, h_4, h_5, h_6, h_7, h_8, h_9, h_10, h_11, h_12, h_13, h_14, h_15, h_16, h_17, h_18, h_19, h_20, h_21, h_22, h_23, h_24, h_25, h_26, h_27, h_28, h_29]), hR⟩
                        ·replace H := HS.cnd_f h_28 H
                         try simp -implicitDefEqProofs (maxSteps := 999999) [-selQ_sel, h_2, h_3, h_4, h_5, h_6, h_7, h_8, h_9, h_10, h_11, h_12, h_13, h_14, h_15, h_16, h_17, h_18, h_19, h_20, h_21, h_22, h_23, h_24, h_25, h_26, h_27, h_28]
                         have hr := (HS.some H).symm; subst hr
                         exact Hid.mk ⟨(laws_heldNodeS_l0_X a0 (.inr ())).2, Wk.ofk [] hk (by rfl) (by simp -implicitDefEqProofs [laws_heldNodeS_l0_X, h_2, h_3, h_4, h_5, h_6, h_7, h_8, h_9, h_10, h_11, h_12, h_13, h_14, h_15, h_16, h_17, h_18, h_19, h_20, h_21, h_22, h_23, h_24, h_25, h_26, h_27, h_28]) (by simp -implicitDefEqProofs [laws_heldNodeS_l0_X, h_2, h_3, h_4, h_5, h_6, h_7, h_8, h_9, h_10, h_11, h_12, h_13, h_14, h_15, h_16, h_17, h_18, h_19, h_20, h_21, h_22, h_23, h_24, h_25, h_26, h_27, h_28]), hR⟩
                       ·replace H := HS.cnd_f h_27 H
                        try simp -implicitDefEqProofs (maxSteps := 999999) [-selQ_sel, h_2, h_3, h_4, h_5, h_6, h_7, h_8, h_9, h_10, h_11, h_12, h_13, h_14, h_15, h_16, h_17, h_18, h_19, h_20, h_21, h_22, h_23, h_24, h_25, h_26, h_27]
                        have hr := (HS.some H).symm; subst hr
                        exact Hid.mk ⟨(laws_heldNodeS_l0_X a0 (.inr ())).2, Wk.ofk [] hk (by rfl) (by simp -implicitDefEqProofs [laws_heldNodeS_l0_X, h_2, h_3, h_4, h_5, h_6, h_7, h_8, h_9, h_10, h_11, h_12, h_13, h_14, h_15, h_16, h_17, h_18, h_19, h_20, h_21, h_22, h_23, h_24, h_25, h_26, h_27]) (by simp -implicitDefEqProofs [laws_heldNodeS_l0_X, h_2, h_3, h_4, h_5, h_6, h_7, h_8, h_9, h_10, h_11, h_12, h_13, h_14, h_15, h_16, h_17, h_18, h_19, h_20, h_21, h_22, h_23, h_24, h_25, h_26, h_27]), hR⟩
                      ·replace H := HS.cnd_f h_26 H
                       try simp -implicitDefEqProofs (maxSteps := 999999) [-selQ_sel, h_2, h_3, h_4, h_5, h_6, h_7, h_8, h_9, h_10, h_11, h_12, h_13, h_14, h_15, h_16, h_17, h_18, h_19, h_20, h_21, h_22, h_23, h_24, h_25, h_26]
                       have hr := (HS.some H).symm; subst hr
                       exact Hid.mk ⟨(laws_heldNodeS_l0_X a0 (.inr ())).2, Wk.ofk [] hk (by rfl) (by simp -implicitDefEqProofs [laws_heldNodeS_l0_X, h_2, h_3, h_4, h_5, h_6, h_7, h_8, h_9, h_10, h_11, h_12, h_13, h_14, h_15, h_16, h_17, h_18, h_19, h_20, h_21, h_22, h_23, h_24, h_25, h_26]) (by simp -implicitDefEqProofs [laws_heldNodeS_l0_X, h_2, h_3, h_4, h_5, h_6, h_7, h_8, h_9, h_10, h_11, h_12, h_13, h_14, h_15, h_16, h_17, h_18, h_19, h_20, h_21, h_22, h_23, h_24, h_25, h_26]), hR⟩
                     ·replace H := HS.cnd_f h_25 H
                      try simp -implicitDefEqProofs (maxSteps := 999999) [-selQ_sel, h_2, h_3, h_4, h_5, h_6, h_7, h_8, h_9, h_10, h_11, h_12, h_13, h_14, h_15, h_16, h_17, h_18, h_19, h_20, h_21, h_22, h_23, h_24, h_25]
                      have hr := (HS.some H).symm; subst hr
                      exact Hid.mk ⟨(laws_heldNodeS_l0_X a0 (.inr ())).2, Wk.ofk [] hk (by rfl) (by simp -implicitDefEqProofs [laws_heldNodeS_l0_X, h_2, h_3, h_4, h_5, h_6, h_7, h_8, h_9, h_10, h_11, h_12, h_13, h_14, h_15, h_16, h_17, h_18, h_19, h_20, h_21, h_22, h_23, h_24, h_25]) (by simp -implicitDefEqProofs [laws_heldNodeS_l0_X, h_2, h_3, h_4, h_5, h_6, h_7, h_8, h_9, h_10, h_11, h_12, h_13, h_14, h_15, h_16, h_17, h_18, h_19, h_20, h_21, h_22, h_23, h_24, h_25]), hR⟩
                    ·replace H := HS.cnd_f h_24 H
                     try simp -implicitDefEqProofs (maxSteps := 999999) [-selQ_sel, h_2, h_3, h_4, h_5, h_6, h_7, h_8, h_9, h_10, h_11, h_12, h_13, h_14, h_15, h_16, h_17, h_18, h_19, h_20, h_21, h_22, h_23, h_24]
                     have hr := (HS.some H).symm; subst hr
                     exact Hid.mk ⟨(laws_heldNodeS_l0_X a0 (.inr ())).2, Wk.ofk [] hk (by rfl) (by simp -implicitDefEqProofs [laws_heldNodeS_l0_X, h_2, h_3, h_4, h_5, h_6, h_7, h_8, h_9, h_10, h_11, h_12, h_13, h_14, h_15, h_16, h_17, h_18, h_19, h_20, h_21, h_22, h_23, h_24]) (by simp -implicitDefEqProofs [laws_heldNodeS_l0_X, h_2, h_3, h_4, h_5, h_6, h_7, h_8, h_9, h_10, h_11, h_12, h_13, h_14, h_15, h_16, h_17, h_18, h_19, h_20, h_21, h_22, h_23, h_24]), hR⟩
                   ·replace H := HS.cnd_f h_23 H
                    try simp -implicitDefEqProofs (maxSteps := 999999) [-selQ_sel, h_2, h_3, h_4, h_5, h_6, h_7, h_8, h_9, h_10, h_11, h_12, h_13, h_14, h_15, h_16, h_17, h_18, h_19, h_20, h_21, h_22, h_23]
                    have hr := (HS.some H).symm; subst hr
                    exact Hid.mk ⟨(laws_heldNodeS_l0_X a0 (.inr ())).2, Wk.ofk [] hk (by rfl) (by simp -implicitDefEqProofs [laws_heldNodeS_l0_X, h_2, h_3, h_4, h_5, h_6, h_7, h_8, h_9, h_10, h_11, h_12, h_13, h_14, h_15, h_16, h_17, h_18, h_19, h_20, h_21, h_22, h_23]) (by simp -implicitDefEqProofs [laws_heldNodeS_l0_X, h_2, h_3, h_4, h_5, h_6, h_7, h_8, h_9, h_10, h_11, h_12, h_13, h_14, h_15, h_16, h_17, h_18, h_19, h_20, h_21, h_22, h_23]), hR⟩
                  ·replace H := HS.cnd_f h_22 H
                   try simp -implicitDefEqProofs (maxSteps := 999999) [-selQ_sel, h_2, h_3, h_4, h_5, h_6, h_7, h_8, h_9, h_10, h_11, h_12, h_13, h_14, h_15, h_16, h_17, h_18, h_19, h_20, h_21, h_22]
                   have hr := (HS.some H).symm; subst hr
                   exact Hid.mk ⟨(laws_heldNodeS_l0_X a0 (.inr ())).2, Wk.ofk [] hk (by rfl) (by simp -implicitDefEqProofs [laws_heldNodeS_l0_X, h_2, h_3, h_4, h_5, h_6, h_7, h_8, h_9, h_10, h_11, h_12, h_13, h_14, h_15, h_16, h_17, h_18, h_19, h_20, h_21, h_22]) (by simp -implicitDefEqProofs [laws_heldNodeS_l0_X, h_2, h_3, h_4, h_5, h_6, h_7, h_8, h_9, h_10, h_11, h_12, h_13, h_14, h_15, h_16, h_17, h_18, h_19, h_20, h_21, h_22]), hR⟩
                 ·replace H := HS.cnd_f h_21 H
                  try simp -implicitDefEqProofs (maxSteps := 999999) [-selQ_sel, h_2, h_3, h_4, h_5, h_6, h_7, h_8, h_9, h_10, h_11, h_12, h_13, h_14, h_15, h_16, h_17, h_18, h_19, h_20, h_21]
                  have hr := (HS.some H).symm; subst hr
                  exact Hid.mk ⟨(laws_heldNodeS_l0_X a0 (.inr ())).2, Wk.ofk [] hk (by rfl) (by simp -implicitDefEqProofs [laws_heldNodeS_l0_X, h_2, h_3, h_4, h_5, h_6, h_7, h_8, h_9, h_10, h_11, h_12, h_13, h_14, h_15, h_16, h_17, h_18, h_19, h_20, h_21]) (by simp -implicitDefEqProofs [laws_heldNodeS_l0_X, h_2, h_3, h_4, h_5, h_6, h_7, h_8, h_9, h_10, h_11, h_12, h_13, h_14, h_15, h_16, h_17, h_18, h_19, h_20, h_21]), hR⟩
                ·replace H := HS.cnd_f h_20 H
                 try simp -implicitDefEqProofs (maxSteps := 999999) [-selQ_sel, h_2, h_3, h_4, h_5, h_6, h_7, h_8, h_9, h_10, h_11, h_12, h_13, h_14, h_15, h_16, h_17, h_18, h_19, h_20]
                 have hr := (HS.some H).symm; subst hr
                 exact Hid.mk ⟨(laws_heldNodeS_l0_X a0 (.inr ())).2, Wk.ofk [] hk (by rfl) (by simp -implicitDefEqProofs [laws_heldNodeS_l0_X, h_2, h_3, h_4, h_5, h_6, h_7, h_8, h_9, h_10, h_11, h_12, h_13, h_14, h_15, h_16, h_17, h_18, h_19, h_20]) (by simp -implicitDefEqProofs [laws_heldNodeS_l0_X, h_2, h_3, h_4, h_5, h_6, h_7, h_8, h_9, h_10, h_11, h_12, h_13, h_14, h_15, h_16, h_17, h_18, h_19, h_20]), hR⟩
               ·replace H := HS.cnd_f h_18 H
                try simp -implicitDefEqProofs (maxSteps := 999999) [-selQ_sel, h_2, h_3, h_4, h_5, h_6, h_7, h_8, h_9, h_10, h_11, h_12, h_13, h_14, h_15, h_16, h_17, h_18]
                have hr := (HS.some H).symm; subst hr
                exact Hid.mk ⟨(laws_heldNodeS_l0_X a0 (.inr ())).2, Wk.ofk [] hk (by rfl) (by simp -implicitDefEqProofs [laws_heldNodeS_l0_X, h_2, h_3, h_4, h_5, h_6, h_7, h_8, h_9, h_10, h_11, h_12, h_13, h_14, h_15, h_16, h_17, h_18]) (by simp -implicitDefEqProofs [laws_heldNodeS_l0_X, h_2, h_3, h_4, h_5, h_6, h_7, h_8, h_9, h_10, h_11, h_12, h_13, h_14, h_15, h_16, h_17, h_18]), hR⟩
              ·replace H := HS.cnd_f h_17 H
               try simp -implicitDefEqProofs (maxSteps := 999999) [-selQ_sel, h_2, h_3, h_4, h_5, h_6, h_7, h_8, h_9, h_10, h_11, h_12, h_13, h_14, h_15, h_16, h_17]
               have hr := (HS.some H).symm; subst hr
               exact Hid.mk ⟨(laws_heldNodeS_l0_X a0 (.inr ())).2, Wk.ofk [] hk (by rfl) (by simp -implicitDefEqProofs [laws_heldNodeS_l0_X, h_2, h_3, h_4, h_5, h_6, h_7, h_8, h_9, h_10, h_11, h_12, h_13, h_14, h_15, h_16, h_17]) (by simp -implicitDefEqProofs [laws_heldNodeS_l0_X, h_2, h_3, h_4, h_5, h_6, h_7, h_8, h_9, h_10, h_11, h_12, h_13, h_14, h_15, h_16, h_17]), hR⟩
             ·replace H := HS.cnd_f h_16 H
              try simp -implicitDefEqProofs (maxSteps := 999999) [-selQ_sel, h_2, h_3, h_4, h_5, h_6, h_7, h_8, h_9, h_10, h_11, h_12, h_13, h_14, h_15, h_16]
              have hr := (HS.some H).symm; subst hr
              exact Hid.mk ⟨(laws_heldNodeS_l0_X a0 (.inr ())).2, Wk.ofk [] hk (by rfl) (by simp -implicitDefEqProofs [laws_heldNodeS_l0_X, h_2, h_3, h_4, h_5, h_6, h_7, h_8, h_9, h_10, h_11, h_12, h_13, h_14, h_15, h_16]) (by simp -implicitDefEqProofs [laws_heldNodeS_l0_X, h_2, h_3, h_4, h_5, h_6, h_7, h_8, h_9, h_10, h_11, h_12, h_13, h_14, h_15, h_16]), hR⟩
            ·replace H := HS.cnd_f h_14 H
             try simp -implicitDefEqProofs (maxSteps := 999999) [-selQ_sel, h_2, h_3, h_4, h_5, h_6, h_7, h_8, h_9, h_10, h_11, h_12, h_13, h_14]
             have hr := (HS.some H).symm; subst hr
             exact Hid.mk ⟨(laws_heldNodeS_l0_X a0 (.inr ())).2, Wk.ofk [] hk (by rfl) (by simp -implicitDefEqProofs [laws_heldNodeS_l0_X, h_2, h_3, h_4, h_5, h_6, h_7, h_8, h_9, h_10, h_11, h_12, h_13, h_14]) (by simp -implicitDefEqProofs [laws_heldNodeS_l0_X, h_2, h_3, h_4, h_5, h_6, h_7, h_8, h_9, h_10, h_11, h_12, h_13, h_14]), hR⟩
           ·replace H := HS.cnd_f h_12 H
            try simp -implicitDefEqProofs (maxSteps := 999999) [-selQ_sel, h_2, h_3, h_4, h_5, h_6, h_7, h_8, h_9, h_10, h_11, h_12]
            have hr := (HS.some H).symm; subst hr
            exact Hid.mk ⟨(laws_heldNodeS_l0_X a0 (.inr ())).2, Wk.ofk [] hk (by rfl) (by simp -implicitDefEqProofs [laws_heldNodeS_l0_X, h_2, h_3, h_4, h_5, h_6, h_7, h_8, h_9, h_10, h_11, h_12]) (by simp -implicitDefEqProofs [laws_heldNodeS_l0_X, h_2, h_3, h_4, h_5, h_6, h_7, h_8, h_9, h_10, h_11, h_12]), hR⟩
          ·replace H := HS.cnd_f h_11 H
           try simp -implicitDefEqProofs (maxSteps := 999999) [-selQ_sel, h_2, h_3, h_4, h_5, h_6, h_7, h_8, h_9, h_10, h_11]
           have hr := (HS.some H).symm; subst hr
           exact Hid.mk ⟨(laws_heldNodeS_l0_X a0 (.inr ())).2, Wk.ofk [] hk (by rfl) (by simp -implicitDefEqProofs [laws_heldNodeS_l0_X, h_2, h_3, h_4, h_5, h_6, h_7, h_8, h_9, h_10, h_11]) (by simp -implicitDefEqProofs [laws_heldNodeS_l0_X, h_2, h_3, h_4, h_5, h_6, h_7, h_8, h_9, h_10, h_11]), hR⟩
         ·replace H := HS.cnd_f h_10 H
          try simp -implicitDefEqProofs (maxSteps := 999999) [-selQ_sel, h_2, h_3, h_4, h_5, h_6, h_7, h_8, h_9, h_10]
          have hr := (HS.some H).symm; subst hr
          exact Hid.mk ⟨(laws_heldNodeS_l0_X a0 (.inr ())).2, Wk.ofk [] hk (by rfl) (by simp -implicitDefEqProofs [laws_heldNodeS_l0_X, h_2, h_3, h_4, h_5, h_6, h_7, h_8, h_9, h_10]) (by simp -implicitDefEqProofs [laws_heldNodeS_l0_X, h_2, h_3, h_4, h_5, h_6, h_7, h_8, h_9, h_10]), hR⟩
        ·replace H := HS.cnd_f h_9 H
         try simp -implicitDefEqProofs (maxSteps := 999999) [-selQ_sel, h_2, h_3, h_4, h_5, h_6, h_7, h_8, h_9]
         have hr := (HS.some H).symm; subst hr
         exact Hid.mk ⟨(laws_heldNodeS_l0_X a0 (.inr ())).2, Wk.ofk [] hk (by rfl) (by simp -implicitDefEqProofs [laws_heldNodeS_l0_X, h_2, h_3, h_4, h_5, h_6, h_7, h_8, h_9]) (by simp -implicitDefEqProofs [laws_heldNodeS_l0_X, h_2, h_3, h_4, h_5, h_6, h_7, h_8, h_9]), hR⟩
       ·replace H := HS.cnd_f h_8 H
        try simp -implicitDefEqProofs (maxSteps := 999999) [-selQ_sel, h_2, h_3, h_4, h_5, h_6, h_7, h_8]
        have hr := (HS.some H).symm; subst hr
        exact Hid.mk ⟨(laws_heldNodeS_l0_X a0 (.inr ())).2, Wk.ofk [] hk (by rfl) (by simp -implicitDefEqProofs [laws_heldNodeS_l0_X, h_2, h_3, h_4, h_5, h_6, h_7, h_8]) (by simp -implicitDefEqProofs [laws_heldNodeS_l0_X, h_2, h_3, h_4, h_5, h_6, h_7, h_8]), hR⟩
      ·replace H := HS.cnd_f h_7 H
       try simp -implicitDefEqProofs (maxSteps := 999999) [-selQ_sel, h_2, h_3, h_4, h_5, h_6, h_7]
       have hr := (HS.some H).symm; subst hr
       exact Hid.mk ⟨(laws_heldNodeS_l0_X a0 (.inr ())).2, Wk.ofk [] hk (by rfl) (by simp -implicitDefEqProofs [laws_heldNodeS_l0_X, h_2, h_3, h_4, h_5, h_6, h_7]) (by simp -implicitDefEqProofs [laws_heldNodeS_l0_X, h_2, h_3, h_4, h_5, h_6, h_7]), hR⟩
     ·replace H := HS.cnd_f h_6 H
      try simp -implicitDefEqProofs (maxSteps := 999999) [-selQ_sel, h_2, h_3, h_4, h_5, h_6]
      have hr := (HS.some H).symm; subst hr
      exact Hid.mk ⟨(laws_heldNodeS_l0_X a0 (.inr ())).2, Wk.ofk [] hk (by rfl) (by simp -implicitDefEqProofs [laws_heldNodeS_l0_X, h_2, h_3, h_4, h_5, h_6]) (by simp -implicitDefEqProofs [laws_heldNodeS_l0_X, h_2, h_3, h_4, h_5, h_6]), hR⟩
    ·replace H := HS.cnd_f h_5 H
     try simp -implicitDefEqProofs (maxSteps := 999999) [-selQ_sel, h_2, h_3, h_4, h_5]
     have hr := (HS.some H).symm; subst hr
     exact Hid.mk ⟨(laws_heldNodeS_l0_X a0 (.inr ())).2, Wk.ofk [] hk (by rfl) (by simp -implicitDefEqProofs [laws_heldNodeS_l0_X, h_2, h_3, h_4, h_5]) (by simp -implicitDefEqProofs [laws_heldNodeS_l0_X, h_2, h_3, h_4, h_5]), hR⟩
   ·replace H := HS.cnd_f h_4 H
    try simp -implicitDefEqProofs (maxSteps := 999999) [-selQ_sel, h_2, h_3, h_4]
    have hr := (HS.some H).symm; subst hr
    exact Hid.mk ⟨(laws_heldNodeS_l0_X a0 (.inr ())).2, Wk.ofk [] hk (by rfl) (by simp -implicitDefEqProofs [laws_heldNodeS_l0_X, h_2, h_3, h_4]) (by simp -implicitDefEqProofs [laws_heldNodeS_l0_X, h_2, h_3, h_4]), hR⟩
 ·rcases q with y15 | ⟨⟩
  ·dsimp only at H
   try simp -implicitDefEqProofs (maxSteps := 999999) [-selQ_sel, laws_heldNodeS_l0_X]
   have hr := (HS.some H).symm; subst hr
   refine Hid.mk ⟨_, Wk.refl _, ?_⟩
   try simp -implicitDefEqProofs (maxSteps := 999999) [-selQ_sel]
  ·dsimp only at H
   try simp -implicitDefEqProofs (maxSteps := 999999) [-selQ_sel, laws_heldNodeS_l0_X]
   have hr := (HS.some H).symm; subst hr
   refine Hid.mk ⟨_, Wk.refl _, ?_⟩
   try simp -implicitDefEqProofs (maxSteps := 999999) [-selQ_sel]
theorem laws_markNodeS_ok0 (hm : Try.prog.follows .mixedOrders = true) (k_laws_markIntS : Sound Try.prog 72 laws_markIntS_x) (k_laws_markPointS : Sound Try.prog 112 laws_markPointS_x) : Sound Try.prog 70 laws_markNodeS_x := by
 refine xOf_sound fun q r h => ?_
 obtain ⟨a0, a1⟩ := q
 refine fn_ok E0 hm Try.func70 rfl (by decide +kernel) (by rfl) fun Γ hn hk => ?_
 dsimp only [laws_markNodeS_e, laws_markNodeS_v]
 replace hn : Γ.n = 269 := hn
 replace hk : Γ.k = 1 := hk
 have H : HS (laws_markNodeS a0 a1) r := h
 clear h; unfold laws_markNodeS at H
 try simp -implicitDefEqProofs at H
 refine Tr.of_vc (cl := tabC [(72, laws_markIntS_x), (112, laws_markPointS_x)]) (E := E0) [] (tab_cons k_laws_markIntS (tab_cons k_laws_markPointS tab_nil)) hm (by rw [hn]; decide +kernel) ?_
 try simp -implicitDefEqProofs (maxSteps := 999999) [-selQ_sel]
 obtain ⟨q, h_1, H⟩ := HS.bnd H
 refine Hid.mk (Tr.weak (s' := laws_markNodeS_l0_S (a0, 0, a1)) (Wk.ofk [0] hk (by rfl) (by simp -implicitDefEqProofs [laws_markNodeS_l0_S]) (by simp -implicitDefEqProofs [laws_markNodeS_l0_S])) ?_)
 refine wp_loop_of (S := laws_markNodeS_l0_S) (f := laws_markNodeS_l0) (xt := laws_markNodeS_l0_X) ?_ ?_ h_1 ?_
 ·intro q; rcases q with ⟨y36, y37⟩ <;> simp [laws_markNodeS_l0_X]
 ·clear H h_1 q
  rintro ⟨x17, x18, x19⟩ o R hf hR
  have H : HS (laws_markNodeS_l0 (x17, x18, x19)) o := hf
  clear hf; unfold laws_markNodeS_l0 at H
  try simp -implicitDefEqProofs at H
  refine Tr.of_vc (cl := tabC [(72, laws_markIntS_x), (112, laws_markPointS_x)]) (E := E0) [] (tab_cons k_laws_markIntS (tab_cons k_laws_markPointS tab_nil)) hm (by rw [hn]; decide +kernel) ?_
  try simp -implicitDefEqProofs (maxSteps := 999999) [-selQ_sel, laws_markNodeS_l0_S]
  refine Hid.brV (fun h_2 => ?_) (fun h_2 => ?_)
  ·replace H := HS.cnd_t h_2 H
   try simp -implicitDefEqProofs (maxSteps := 999999) [-selQ_sel, h_2]
   have hr := (HS.some H).symm; subst hr
   exact Hid.mk ⟨(laws_markNodeS_l0_X (x19, x17)).2, Wk.ofk [0] hk (by rfl) (by simp -implicitDefEqProofs [laws_markNodeS_l0_X, h_2]) (by simp -implicitDefEqProofs [laws_markNodeS_l0_X, h_2]), hR⟩
  ·replace H := HS.cnd_f h_2 H
   try simp -implicitDefEqProofs (maxSteps := 999999) [-selQ_sel, h_2]
   obtain ⟨v20, h_3, H⟩ := HS.bnd H
   have g_4 := idx_get h_3
   have g_5 := idx_lt h_3
   have g_6 := idx_getE h_3
   try simp -implicitDefEqProofs (maxSteps := 999999) [-selQ_sel, h_2, h_3, g_4, g_5, g_6]
   obtain ⟨⟨w22, w23⟩, h_7, H⟩ := HS.bnd H
   dsimp only at H
   have g_8 := laws_markIntS_n h_7
   try simp -implicitDefEqProofs (maxSteps := 999999) [-selQ_sel, h_2, h_3, g_4, g_5, g_6, h_7, g_8]
   obtain ⟨⟨w25, w26⟩, h_9, H⟩ := HS.bnd H
   dsimp only at H
   have g_10 := laws_markPointS_n h_9
   try simp -implicitDefEqProofs (maxSteps := 999999) [-selQ_sel, h_2, h_3, g_4, g_5, g_6, h_7, g_8, h_9, g_10]
   obtain ⟨⟨w28, w29⟩, h_11, H⟩ := HS.bnd H
   dsimp only at H
   have g_12 := laws_markIntS_n h_11
   try simp -implicitDefEqProofs (maxSteps := 999999) [-selQ_sel, h_2, h_3, g_4, g_5, g_6, h_7, g_8, h_9, g_10, h_11, g_12]
   obtain ⟨⟨w31, w32⟩, h_13, H⟩ := HS.bnd H
   dsimp only at H
   have g_14 := laws_markIntS_n h_13
   try simp -implicitDefEqProofs (maxSteps := 999999) [-selQ_sel, h_2, h_3, g_4, g_5, g_6, h_7, g_8, h_9, g_10, h_11, g_12, h_13, g_14]
   obtain ⟨⟨w34, w35⟩, h_15, H⟩ := HS.bnd H
   dsimp only at H
   have g_16 := laws_markPointS_n h_15
   try simp -implicitDefEqProofs (maxSteps := 999999) [-selQ_sel, h_2, h_3, g_4, g_5, g_6, h_7, g_8, h_9, g_10, h_11, g_12, h_13, g_14, h_15, g_16]
   have hr := (HS.some H).symm; subst hr
   exact Hid.mk ⟨laws_markNodeS_l0_S (w34, (IntKind.i64.wrap (x18 + 1)), (List.set x19 (Int.toNat x18) (TNode.mk x17 (IntKind.i64.wrap (x17 + 1)) (ieq (Int.tmod (IntKind.i64.wrap ((IntKind.i64.wrap (x17 + 1)) + 1)) 3) 0) (TMat.mk (IntKind.i64.wrap ((IntKind.i64.wrap ((IntKind.i64.wrap (x17 + 1)) + 1)) + 1)) (IntKind.i64.wrap ((IntKind.i64.wrap ((IntKind.i64.wrap ((IntKind.i64.wrap (x17 + 1)) + 1)) + 1)) + 1)) (IntKind.i64.wrap ((IntKind.i64.wrap ((IntKind.i64.wrap ((IntKind.i64.wrap ((IntKind.i64.wrap (x17 + 1)) + 1)) + 1)) + 1)) + 1)) (IntKind.i64.wrap ((IntKind.i64.wrap ((IntKind.i64.wrap ((IntKind.i64.wrap ((IntKind.i64.wrap ((IntKind.i64.wrap (x17 + 1)) + 1)) + 1)) + 1)) + 1)) + 1)) (IntKind.i64.wrap ((IntKind.i64.wrap ((IntKind.i64.wrap ((IntKind.i64.wrap ((IntKind.i64.wrap ((IntKind.i64.wrap ((IntKind.i64.wrap (x17 + 1)) + 1)) + 1)) + 1)) + 1)) + 1)) + 1)) (IntKind.i64.wrap ((IntKind.i64.wrap ((IntKind.i64.wrap ((IntKind.i64.wrap ((IntKind.i64.wrap ((IntKind.i64.wrap ((IntKind.i64.wrap ((IntKind.i64.wrap (x17 + 1)) + 1)) + 1)) + 1)) + 1)) + 1)) + 1)) + 1))) (TPath.mk w23 w26) (ieq (Int.tmod w25 3) 0) (IntKind.i64.wrap (w25 + 1)) w29 (TPaint.mk w28 (TColor.mk (IntKind.i64.wrap (w28 + 1)) (IntKind.i64.wrap ((IntKind.i64.wrap (w28 + 1)) + 1)) (IntKind.i64.wrap ((IntKind.i64.wrap ((IntKind.i64.wrap (w28 + 1)) + 1)) + 1)) (IntKind.i64.wrap ((IntKind.i64.wrap ((IntKind.i64.wrap ((IntKind.i64.wrap (w28 + 1)) + 1)) + 1)) + 1))) (TColor.mk (IntKind.i64.wrap ((IntKind.i64.wrap ((IntKind.i64.wrap ((IntKind.i64.wrap ((IntKind.i64.wrap (w28 + 1)) + 1)) + 1)) + 1)) + 1)) (IntKind.i64.wrap ((IntKind.i64.wrap ((IntKind.i64.wrap ((IntKind.i64.wrap ((IntKind.i64.wrap ((IntKind.i64.wrap (w28 + 1)) + 1)) + 1)) + 1)) + 1)) + 1)) (IntKind.i64.wrap ((IntKind.i64.wrap ((IntKind.i64.wrap ((IntKind.i64.wrap ((IntKind.i64.wrap ((IntKind.i64.wrap ((IntKind.i64.wrap (w28 + 1)) + 1)) + 1)) + 1)) + 1)) + 1)) + 1)) (IntKind.i64.wrap ((IntKind.i64.wrap ((IntKind.i64.wrap ((IntKind.i64.wrap ((IntKind.i64.wrap ((IntKind.i64.wrap ((IntKind.i64.wrap ((IntKind.i64.wrap (w28 + 1)) + 1)) + 1)) + 1)) + 1)) + 1)) + 1)) + 1))) (TPoint.mk (IntKind.i64.wrap ((IntKind.i64.wrap ((IntKind.i64.wrap ((IntKind.i64.wrap ((IntKind.i64.wrap ((IntKind.i64.wrap ((IntKind.i64.wrap ((IntKind.i64.wrap ((IntKind.i64.wrap (w28 + 1)) + 1)) + 1)) + 1)) + 1)) + 1)) + 1)) + 1)) + 1)) (IntKind.i64.wrap ((IntKind.i64.wrap ((IntKind.i64.wrap ((IntKind.i64.wrap ((IntKind.i64.wrap ((IntKind.i64.wrap ((IntKind.i64.wrap ((IntKind.i64.wrap ((IntKind.i64.wrap ((IntKind.i64.wrap (w28 + 1)) + 1)) + 1)) + 1)) + 1)) + 1)) + 1)) + 1)) + 1)) + 1))) (TPoint.mk (IntKind.i64.wrap ((IntKind.i64.wrap ((IntKind.i64.wrap ((IntKind.i64.wrap ((IntKind.i64.wrap ((IntKind.i64.wrap ((IntKind.i64.wrap ((IntKind.i64.wrap ((IntKind.i64.wrap ((IntKind.i64.wrap ((IntKind.i64.wrap (w28 + 1)) + 1)) + 1)) + 1)) + 1)) + 1)) + 1)) + 1)) + 1)) + 1)) + 1)) (IntKind.i64.wrap ((IntKind.i64.wrap ((IntKind.i64.wrap ((IntKind.i64.wrap ((IntKind.i64.wrap ((IntKind.i64.wrap ((IntKind.i64.wrap ((IntKind.i64.wrap ((IntKind.i64.wrap ((IntKind.i64.wrap ((IntKind.i64.wrap ((IntKind.i64.wrap (w28 + 1)) + 1)) + 1)) + 1)) + 1)) + 1)) + 1)) + 1)) + 1)) + 1)) + 1)) + 1)))) (IntKind.i64.wrap ((IntKind.i64.wrap ((IntKind.i64.wrap ((IntKind.i64.wrap ((IntKind.i64.wrap ((IntKind.i64.wrap ((IntKind.i64.wrap ((IntKind.i64.wrap ((IntKind.i64.wrap ((IntKind.i64.wrap ((IntKind.i64.wrap ((IntKind.i64.wrap ((IntKind.i64.wrap (w28 + 1)) + 1)) + 1)) + 1)) + 1)) + 1)) + 1)) + 1)) + 1)) + 1)) + 1)) + 1)) + 1)) (IntKind.i64.wrap ((IntKind.i64.wrap ((IntKind.i64.wrap ((IntKind.i64.wrap ((IntKind.i64.wrap ((IntKind.i64.wrap ((IntKind.i64.wrap ((IntKind.i64.wrap ((IntKind.i64.wrap ((IntKind.i64.wrap ((IntKind.i64.wrap ((IntKind.i64.wrap ((IntKind.i64.wrap ((IntKind.i64.wrap (w28 + 1)) + 1)) + 1)) + 1)) + 1)) + 1)) + 1)) + 1)) + 1)) + 1)) + 1)) + 1)) + 1)) + 1)) (TPath.mk w32 w35)))), Wk.trans (Wk.abs (id := 0) (j := 1) (js := [2, 3, 4, 5]) (by rfl) (by rfl) (by decide) (by simp -implicitDefEqProofs [laws_markNodeS_l0_S, h_2, h_3, g_4, g_5, g_6, h_7, g_8, h_9, g_10, h_11, g_12, h_13, g_14, h_15, g_16]) (by rfl) (by simp -implicitDefEqProofs [laws_markNodeS_l0_S, h_2, h_3, g_4, g_5, g_6, h_7, g_8, h_9, g_10, h_11, g_12, h_13, g_14, h_15, g_16]) (by simp -implicitDefEqProofs [laws_markNodeS_l0_S, h_2, h_3, g_4, g_5, g_6, h_7, g_8, h_9, g_10, h_11, g_12, h_13, g_14, h_15, g_16])) (Wk.trans (Wk.abs (id := 0) (j := 2) (js := [3, 4, 5]) (by rfl) (by rfl) (by decide) (by simp -implicitDefEqProofs [laws_markNodeS_l0_S, h_2, h_3, g_4, g_5, g_6, h_7, g_8, h_9, g_10, h_11, g_12, h_13, g_14, h_15, g_16]) (by rfl) (by simp -implicitDefEqProofs [laws_markNodeS_l0_S, h_2, h_3, g_4, g_5, g_6, h_7, g_8, h_9, g_10, h_11, g_12, h_13, g_14, h_15, g_16]) (by simp -implicitDefEqProofs [laws_markNodeS_l0_S, h_2, h_3, g_4, g_5, g_6, h_7, g_8, h_9, g_10, h_11, g_12, h_13, g_14, h_15, g_16])) (Wk.trans (Wk.abs (id := 0) (j := 3) (js := [4, 5]) (by rfl) (by rfl) (by decide) (by simp -implicitDefEqProofs [laws_markNodeS_l0_S, h_2, h_3, g_4, g_5, g_6, h_7, g_8, h_9, g_10, h_11, g_12, h_13, g_14, h_15, g_16]) (by rfl) (by simp -implicitDefEqProofs [laws_markNodeS_l0_S, h_2, h_3, g_4, g_5, g_6, h_7, g_8, h_9, g_10, h_11, g_12, h_13, g_14, h_15, g_16]) (by simp -implicitDefEqProofs [laws_markNodeS_l0_S, h_2, h_3, g_4, g_5, g_6, h_7, g_8, h_9, g_10, h_11, g_12, h_13, g_14, h_15, g_16])) (Wk.trans (Wk.abs (id := 0) (j := 4) (js := [5]) (by rfl) (by rfl) (by decide) (by simp -implicitDefEqProofs [laws_markNodeS_l0_S, h_2, h_3, g_4, g_5, g_6, h_7, g_8, h_9, g_10, h_11, g_12, h_13, g_14, h_15, g_16]) (by rfl) (by simp -implicitDefEqProofs [laws_markNodeS_l0_S, h_2, h_3, g_4, g_5, g_6, h_7, g_8, h_9, g_10, h_11, g_12, h_13, g_14, h_15, g_16]) (by simp -implicitDefEqProofs [laws_markNodeS_l0_S, h_2, h_3, g_4, g_5, g_6, h_7, g_8, h_9, g_10, h_11, g_12, h_13, g_14, h_15, g_16])) (Wk.trans (Wk.abs (id := 0) (j := 5) (js := []) (by rfl) (by rfl) (by decide) (by simp -implicitDefEqProofs [laws_markNodeS_l0_S, h_2, h_3, g_4, g_5, g_6, h_7, g_8, h_9, g_10, h_11, g_12, h_13, g_14, h_15, g_16]) (by rfl) (by simp -implicitDefEqProofs [laws_markNodeS_l0_S, h_2, h_3, g_4, g_5, g_6, h_7, g_8, h_9, g_10, h_11, g_12, h_13, g_14, h_15, g_16]) (by simp -implicitDefEqProofs [laws_markNodeS_l0_S, h_2, h_3, g_4, g_5, g_6, h_7, g_8, h_9, g_10, h_11, g_12, h_13, g_14, h_15, g_16])) (Wk.ofk [0] hk (by rfl) (by simp -implicitDefEqProofs [laws_markNodeS_l0_S, h_2, h_3, g_4, g_5, g_6, h_7, g_8, h_9, g_10, h_11, g_12, h_13, g_14, h_15, g_16]) (by simp -implicitDefEqProofs [laws_markNodeS_l0_S, h_2, h_3, g_4, g_5, g_6, h_7, g_8, h_9, g_10, h_11, g_12, h_13, g_14, h_15, g_16])))))), hR⟩
 ·obtain ⟨y36, y37⟩ := q
  try dsimp only at H
  try simp -implicitDefEqProofs (maxSteps := 999999) [-selQ_sel, laws_markNodeS_l0_X]
  have hr := (HS.some H).symm; subst hr
  refine Hid.mk ⟨_, Wk.refl _, ?_⟩
  try simp -implicitDefEqProofs (maxSteps := 999999) [-selQ_sel]
theorem spec_SceneOk_ok0 (hm : Try.prog.follows .mixedOrders = true) (k_spec_NodeOk : Sound Try.prog 57 spec_NodeOk_x) (k_spec_NodeAt : Sound Try.prog 45 spec_NodeAt_x) (k_spec_DepthOf : Sound Try.prog 58 spec_DepthOf_x) (k_spec_l01In : Sound Try.prog 87 spec_l01In_x) : Sound Try.prog 44 spec_SceneOk_x := by
 refine xOf_sound fun q r h => ?_
 revert h; revert r; revert q; intro a0 r h
 refine fn_ok E0 hm Try.func44 rfl (by decide +kernel) (by rfl) fun Γ hn hk => ?_
 dsimp only [spec_SceneOk_e, spec_SceneOk_v]
 replace hn : Γ.n = 61 := hn
 replace hk : Γ.k = 0 := hk
 have H : HS (spec_SceneOk a0) r := h
 clear h; unfold spec_SceneOk at H
 try simp -implicitDefEqProofs at H
 refine Tr.of_vc (cl := tabC [(57, spec_NodeOk_x), (45, spec_NodeAt_x), (58, spec_DepthOf_x), (87, spec_l01In_x)]) (E := E0) [] (tab_cons k_spec_NodeOk (tab_cons k_spec_NodeAt (tab_cons k_spec_DepthOf (tab_cons k_spec_l01In tab_nil)))) hm (by rw [hn]; decide +kernel) ?_
 try simp -implicitDefEqProofs (maxSteps := 999999) [-selQ_sel]
 refine Hid.brV (fun h_1 => ?_) (fun h_1 => ?_)
 ·replace H := HS.cnd_t h_1 H
  try simp -implicitDefEqProofs (maxSteps := 999999) [-selQ_sel, h_1]
  obtain ⟨q, h_2, H⟩ := HS.bnd H
  refine Hid.mk (Tr.weak (s' := (spec_SceneOk_l0_S a0) 0) (Wk.ofk [0] hk (by rfl) (by simp -implicitDefEqProofs [spec_SceneOk_l0_S, h_1]) (by simp -implicitDefEqProofs [spec_SceneOk_l0_S, h_1])) ?_)
  refine wp_loop_of (S := (spec_SceneOk_l0_S a0)) (f := (spec_SceneOk_l0 a0)) (xt := (spec_SceneOk_l0_X a0)) ?_ ?_ h_2 ?_
  ·intro q; rcases q with ⟨⟩ | ⟨⟩ <;> simp [spec_SceneOk_l0_X]
  ·clear H h_2 q
   rintro x8 o R hf hR
   have H : HS (spec_SceneOk_l0 a0 x8) o := hf
   clear hf; unfold spec_SceneOk_l0 at H
   try simp -implicitDefEqProofs at H
   refine Tr.of_vc (cl := tabC [(57, spec_NodeOk_x), (45, spec_NodeAt_x), (58, spec_DepthOf_x), (87, spec_l01In_x)]) (E := E0) [] (tab_cons k_spec_NodeOk (tab_cons k_spec_NodeAt (tab_cons k_spec_DepthOf (tab_cons k_spec_l01In tab_nil)))) hm (by rw [hn]; decide +kernel) ?_
   try simp -implicitDefEqProofs (maxSteps := 999999) [-selQ_sel, spec_SceneOk_l0_S]
   refine Hid.brV (fun h_3 => ?_) (fun h_3 => ?_)
   ·replace H := HS.cnd_t h_3 H
    try simp -implicitDefEqProofs (maxSteps := 999999) [-selQ_sel, h_3]
    have hr := (HS.some H).symm; subst hr
    exact Hid.mk ⟨(spec_SceneOk_l0_X a0 (.inl ())).2, Wk.ofk [] hk (by rfl) (by simp -implicitDefEqProofs [spec_SceneOk_l0_X, h_3]) (by simp -implicitDefEqProofs [spec_SceneOk_l0_X, h_3]), hR⟩
   ·replace H := HS.cnd_f h_3 H
    try simp -implicitDefEqProofs (maxSteps := 999999) [-selQ_sel, h_3]
    obtain ⟨v9, h_4, H⟩ := HS.bnd H
    try simp -implicitDefEqProofs (maxSteps := 999999) [-selQ_sel, h_3, h_4]
    obtain ⟨v10, h_5, H⟩ := HS.bnd H
    try simp -implicitDefEqProofs (maxSteps := 999999) [-selQ_sel, h_3, h_4, h_5]
    refine Hid.selQ (fun h_6 => ?_) (fun h_6 => ?_)
    ·replace H := HS.cnd_t h_6 H
     try simp -implicitDefEqProofs (maxSteps := 999999) [-selQ_sel, h_3, h_4, h_5, h_6]
     obtain ⟨v11, h_7, H⟩ := HS.bnd H
     try simp -implicitDefEqProofs (maxSteps := 999999) [-selQ_sel, h_3, h_4, h_5, h_6, h_7]
     refine Hid.selQ (fun h_8 => ?_) (fun h_8 => ?_)
     ·replace H := HS.cnd_t h_8 H
      try simp -implicitDefEqProofs (maxSteps := 999999) [-selQ_sel, h_3, h_4, h_5, h_6, h_7, h_8]
      obtain ⟨v12, h_9, H⟩ := HS.bnd H
      try simp -implicitDefEqProofs (maxSteps := 999999) [-selQ_sel, h_3, h_4, h_5, h_6, h_7, h_8, h_9]
      obtain ⟨v13, h_10, H⟩ := HS.bnd H
      try simp -implicitDefEqProofs (maxSteps := 999999) [-selQ_sel, h_3, h_4, h_5, h_6, h_7, h_8, h_9, h_10]
      refine Hid.brV (fun h_11 => ?_) (fun h_11 => ?_)
      ·replace H := HS.cnd_t h_11 H
       try simp -implicitDefEqProofs (maxSteps := 999999) [-selQ_sel, h_3, h_4, h_5, h_6, h_7, h_8, h_9, h_10, h_11]
       obtain ⟨v14, h_12, H⟩ := HS.bnd H
       try simp -implicitDefEqProofs (maxSteps := 999999) [-selQ_sel, h_3, h_4, h_5, h_6, h_7, h_8, h_9, h_10, h_11, h_12]
       refine Hid.selQ (fun h_13 => ?_) (fun h_13 => ?_)
       ·replace H := HS.cnd_t h_13 H
        try simp -implicitDefEqProofs (maxSteps := 999999) [-selQ_sel, h_3, h_4, h_5, h_6, h_7, h_8, h_9, h_10, h_11, h_12, h_13]
        have hr := (HS.some H).symm; subst hr
        exact Hid.mk ⟨spec_SceneOk_l0_S a0 (IntKind.i64.wrap (x8 + 1)), Wk.ofk [0] hk (by rfl) (by simp -implicitDefEqProofs [spec_SceneOk_l0_S, h_3, h_4, h_5, h_6, h_7, h_8, h_9, h_10, h_11, h_12, h_13]) (by simp -implicitDefEqProofs [spec_SceneOk_l0_S, h_3, h_4, h_5, h_6, h_7, h_8, h_9, h_10, h_11, h_12, h_13]), hR⟩
       ·replace H := HS.cnd_f h_13 H
        try simp -implicitDefEqProofs (maxSteps := 999999) [-selQ_sel, h_3, h_4, h_5, h_6, h_7, h_8, h_9, h_10, h_11, h_12, h_13]
        refine Hid.selQ (fun h_14 => ?_) (fun h_14 => ?_)
        ·replace H := HS.cnd_t h_14 H
         try simp -implicitDefEqProofs (maxSteps := 999999) [-selQ_sel, h_3, h_4, h_5, h_6, h_7, h_8, h_9, h_10, h_11, h_12, h_13, h_14]
         obtain ⟨v15, h_15, H⟩ := HS.bnd H
         try simp -implicitDefEqProofs (maxSteps := 999999) [-selQ_sel, h_3, h_4, h_5, h_6, h_7, h_8, h_9, h_10, h_11, h_12, h_13, h_14, h_15]
         refine Hid.brV (fun h_16 => ?_) (fun h_16 => ?_)
         ·replace H := HS.cnd_t h_16 H
          try simp -implicitDefEqProofs (maxSteps := 999999) [-selQ_sel, h_3, h_4, h_5, h_6, h_7, h_8, h_9, h_10, h_11, h_12, h_13, h_14, h_15, h_16]
          have hr := (HS.some H).symm; subst hr
          exact Hid.mk ⟨spec_SceneOk_l0_S a0 (IntKind.i64.wrap (x8 + 1)), Wk.ofk [0] hk (by rfl) (by simp -implicitDefEqProofs [spec_SceneOk_l0_S, h_3, h_4, h_5, h_6, h_7, h_8, h_9, h_10, h_11, h_12, h_13, h_14, h_15, h_16]) (by simp -implicitDefEqProofs [spec_SceneOk_l0_S, h_3, h_4, h_5, h_6, h_7, h_8, h_9, h_10, h_11, h_12, h_13, h_14, h_15, h_16]), hR⟩
         ·replace H := HS.cnd_f h_16 H
          try simp -implicitDefEqProofs (maxSteps := 999999) [-selQ_sel, h_3, h_4, h_5, h_6, h_7, h_8, h_9, h_10, h_11, h_12, h_13, h_14, h_15, h_16]
          have hr := (HS.some H).symm; subst hr
          exact Hid.mk ⟨(spec_SceneOk_l0_X a0 (.inr ())).2, Wk.ofk [] hk (by rfl) (by simp -implicitDefEqProofs [spec_SceneOk_l0_X, h_3, h_4, h_5, h_6, h_7, h_8, h_9, h_10, h_11, h_12, h_13, h_14, h_15, h_16]) (by simp -implicitDefEqProofs [spec_SceneOk_l0_X, h_3, h_4, h_5, h_6, h_7, h_8, h_9, h_10, h_11, h_12, h_13, h_14, h_15, h_16]), hR⟩
        ·replace H := HS.cnd_f h_14 H
         try simp -implicitDefEqProofs (maxSteps := 999999) [-selQ_sel, h_3, h_4, h_5, h_6, h_7, h_8, h_9, h_10, h_11, h_12, h_13, h_14]
         have hr := (HS.some H).symm; subst hr
         exact Hid.mk ⟨(spec_SceneOk_l0_X a0 (.inr ())).2, Wk.ofk [] hk (by rfl) (by simp -implicitDefEqProofs [spec_SceneOk_l0_X, h_3, h_4, h_5, h_6, h_7, h_8, h_9, h_10, h_11, h_12, h_13, h_14]) (by simp -implicitDefEqProofs [spec_SceneOk_l0_X, h_3, h_4, h_5, h_6, h_7, h_8, h_9, h_10, h_11, h_12, h_13, h_14]), hR⟩
      ·replace H := HS.cnd_f h_11 H
       try simp -implicitDefEqProofs (maxSteps := 999999) [-selQ_sel, h_3, h_4, h_5, h_6, h_7, h_8, h_9, h_10, h_11]
       have hr := (HS.some H).symm; subst hr
       exact Hid.mk ⟨(spec_SceneOk_l0_X a0 (.inr ())).2, Wk.ofk [] hk (by rfl) (by simp -implicitDefEqProofs [spec_SceneOk_l0_X, h_3, h_4, h_5, h_6, h_7, h_8, h_9, h_10, h_11]) (by simp -implicitDefEqProofs [spec_SceneOk_l0_X, h_3, h_4, h_5, h_6, h_7, h_8, h_9, h_10, h_11]), hR⟩
     ·replace H := HS.cnd_f h_8 H
      try simp -implicitDefEqProofs (maxSteps := 999999) [-selQ_sel, h_3, h_4, h_5, h_6, h_7, h_8]
      have hr := (HS.some H).symm; subst hr
      exact Hid.mk ⟨(spec_SceneOk_l0_X a0 (.inr ())).2, Wk.ofk [] hk (by rfl) (by simp -implicitDefEqProofs [spec_SceneOk_l0_X, h_3, h_4, h_5, h_6, h_7, h_8]) (by simp -implicitDefEqProofs [spec_SceneOk_l0_X, h_3, h_4, h_5, h_6, h_7, h_8]), hR⟩
    ·replace H := HS.cnd_f h_6 H
     try simp -implicitDefEqProofs (maxSteps := 999999) [-selQ_sel, h_3, h_4, h_5, h_6]
     have hr := (HS.some H).symm; subst hr
     exact Hid.mk ⟨(spec_SceneOk_l0_X a0 (.inr ())).2, Wk.ofk [] hk (by rfl) (by simp -implicitDefEqProofs [spec_SceneOk_l0_X, h_3, h_4, h_5, h_6]) (by simp -implicitDefEqProofs [spec_SceneOk_l0_X, h_3, h_4, h_5, h_6]), hR⟩
  ·rcases q with ⟨⟩ | ⟨⟩
   ·dsimp only at H
    try simp -implicitDefEqProofs (maxSteps := 999999) [-selQ_sel, h_1, spec_SceneOk_l0_X]
    have hr := (HS.some H).symm; subst hr
    refine Hid.mk ⟨_, Wk.refl _, ?_⟩
    try simp -implicitDefEqProofs (maxSteps := 999999) [-selQ_sel, h_1]
   ·dsimp only at H
    try simp -implicitDefEqProofs (maxSteps := 999999) [-selQ_sel, h_1, spec_SceneOk_l0_X]
    have hr := (HS.some H).symm; subst hr
    refine Hid.mk ⟨_, Wk.refl _, ?_⟩
    try simp -implicitDefEqProofs (maxSteps := 999999) [-selQ_sel, h_1]
 ·replace H := HS.cnd_f h_1 H
  try simp -implicitDefEqProofs (maxSteps := 999999) [-selQ_sel, h_1]
  have hr := (HS.some H).symm; subst hr
  refine Hid.mk ⟨_, Wk.refl _, ?_⟩
  try simp -implicitDefEqProofs (maxSteps := 999999) [-selQ_sel, h_1]
theorem spec_PaintOk_ok0 (hm : Try.prog.follows .mixedOrders = true) (k_spec_ColorOk : Sound Try.prog 126 spec_ColorOk_x) (k_spec_PointOk : Sound Try.prog 125 spec_PointOk_x) : Sound Try.prog 103 spec_PaintOk_x := by
 refine xOf_sound fun q r h => ?_
 revert h; revert r; revert q; intro a0 r h
 refine fn_ok E0 hm Try.func103 rfl (by decide +kernel) (by rfl) fun Γ hn hk => ?_
 dsimp only [spec_PaintOk_e, spec_PaintOk_v]
 replace hn : Γ.n = 55 := hn
 replace hk : Γ.k = 0 := hk
 have H : HS (spec_PaintOk a0) r := h
 clear h; unfold spec_PaintOk at H
 try simp -implicitDefEqProofs at H
 refine Tr.of_vc (cl := tabC [(126, spec_ColorOk_x), (125, spec_PointOk_x)]) (E := E0) [] (tab_cons k_spec_ColorOk (tab_cons k_spec_PointOk tab_nil)) hm (by rw [hn]; decide +kernel) ?_
 try simp -implicitDefEqProofs (maxSteps := 999999) [-selQ_sel]
 obtain ⟨v1, h_1, H⟩ := HS.bnd H
 try simp -implicitDefEqProofs (maxSteps := 999999) [-selQ_sel, h_1]
 refine Hid.brV (fun h_2 => ?_) (fun h_2 => ?_)
 ·replace H := HS.cnd_t h_2 H
  try simp -implicitDefEqProofs (maxSteps := 999999) [-selQ_sel, h_1, h_2]
  refine Hid.brV (fun h_3 => ?_) (fun h_3 => ?_)
  ·replace H := HS.cnd_t h_3 H
   try simp -implicitDefEqProofs (maxSteps := 999999) [-selQ_sel, h_1, h_2, h_3]
   refine Hid.selQ (fun h_4 => ?_) (fun h_4 => ?_)
   ·replace H := HS.cnd_t h_4 H
    try simp -implicitDefEqProofs (maxSteps := 999999) [-selQ_sel, h_1, h_2, h_3, h_4]
    refine Hid.selQ (fun h_5 => ?_) (fun h_5 => ?_)
    ·replace H := HS.cnd_t h_5 H
     try simp -implicitDefEqProofs (maxSteps := 999999) [-selQ_sel, h_1, h_2, h_3, h_4, h_5]
     have hr := (HS.some H).symm; subst hr
     refine Hid.mk ⟨_, Wk.refl _, ?_⟩
     try simp -implicitDefEqProofs (maxSteps := 999999) [-selQ_sel, h_1, h_2, h_3, h_4, h_5]
    ·replace H := HS.cnd_f h_5 H
     try simp -implicitDefEqProofs (maxSteps := 999999) [-selQ_sel, h_1, h_2, h_3, h_4, h_5]
     have hr := (HS.some H).symm; subst hr
     refine Hid.mk ⟨_, Wk.refl _, ?_⟩
     try simp -implicitDefEqProofs (maxSteps := 999999) [-selQ_sel, h_1, h_2, h_3, h_4, h_5]
   ·replace H := HS.cnd_f h_4 H
    try simp -implicitDefEqProofs (maxSteps := 999999) [-selQ_sel, h_1, h_2, h_3, h_4]
    have hr := (HS.some H).symm; subst hr
    refine Hid.mk ⟨_, Wk.refl _, ?_⟩
    try simp -implicitDefEqProofs (maxSteps := 999999) [-selQ_sel, h_1, h_2, h_3, h_4]
  ·replace H := HS.cnd_f h_3 H
   try simp -implicitDefEqProofs (maxSteps := 999999) [-selQ_sel, h_1, h_2, h_3]
   refine Hid.selQ (fun h_6 => ?_) (fun h_6 => ?_)
   ·replace H := HS.cnd_t h_6 H
    try simp -implicitDefEqProofs (maxSteps := 999999) [-selQ_sel, h_1, h_2, h_3, h_6]
    obtain ⟨v2, h_7, H⟩ := HS.bnd H
    try simp -implicitDefEqProofs (maxSteps := 999999) [-selQ_sel, h_1, h_2, h_3, h_6, h_7]
    refine Hid.selQ (fun h_8 => ?_) (fun h_8 => ?_)
    ·replace H := HS.cnd_t h_8 H
     try simp -implicitDefEqProofs (maxSteps := 999999) [-selQ_sel, h_1, h_2, h_3, h_6, h_7, h_8]
     obtain ⟨v3, h_9, H⟩ := HS.bnd H
     try simp -implicitDefEqProofs (maxSteps := 999999) [-selQ_sel, h_1, h_2, h_3, h_6, h_7, h_8, h_9]
     refine Hid.selQ (fun h_10 => ?_) (fun h_10 => ?_)
     ·replace H := HS.cnd_t h_10 H
      try simp -implicitDefEqProofs (maxSteps := 999999) [-selQ_sel, h_1, h_2, h_3, h_6, h_7, h_8, h_9, h_10]
      obtain ⟨v4, h_11, H⟩ := HS.bnd H
      try simp -implicitDefEqProofs (maxSteps := 999999) [-selQ_sel, h_1, h_2, h_3, h_6, h_7, h_8, h_9, h_10, h_11]
      refine Hid.selQ (fun h_12 => ?_) (fun h_12 => ?_)
      ·replace H := HS.cnd_t h_12 H
       try simp -implicitDefEqProofs (maxSteps := 999999) [-selQ_sel, h_1, h_2, h_3, h_6, h_7, h_8, h_9, h_10, h_11, h_12]
       have hr := (HS.some H).symm; subst hr
       refine Hid.mk ⟨_, Wk.refl _, ?_⟩
       try simp -implicitDefEqProofs (maxSteps := 999999) [-selQ_sel, h_1, h_2, h_3, h_6, h_7, h_8, h_9, h_10, h_11, h_12]
      ·replace H := HS.cnd_f h_12 H
       try simp -implicitDefEqProofs (maxSteps := 999999) [-selQ_sel, h_1, h_2, h_3, h_6, h_7, h_8, h_9, h_10, h_11, h_12]
       have hr := (HS.some H).symm; subst hr
       refine Hid.mk ⟨_, Wk.refl _, ?_⟩
       try simp -implicitDefEqProofs (maxSteps := 999999) [-selQ_sel, h_1, h_2, h_3, h_6, h_7, h_8, h_9, h_10, h_11, h_12]
     ·replace H := HS.cnd_f h_10 H
      try simp -implicitDefEqProofs (maxSteps := 999999) [-selQ_sel, h_1, h_2, h_3, h_6, h_7, h_8, h_9, h_10]
      have hr := (HS.some H).symm; subst hr
      refine Hid.mk ⟨_, Wk.refl _, ?_⟩
      try simp -implicitDefEqProofs (maxSteps := 999999) [-selQ_sel, h_1, h_2, h_3, h_6, h_7, h_8, h_9, h_10]
    ·replace H := HS.cnd_f h_8 H
     try simp -implicitDefEqProofs (maxSteps := 999999) [-selQ_sel, h_1, h_2, h_3, h_6, h_7, h_8]
     have hr := (HS.some H).symm; subst hr
     refine Hid.mk ⟨_, Wk.refl _, ?_⟩
     try simp -implicitDefEqProofs (maxSteps := 999999) [-selQ_sel, h_1, h_2, h_3, h_6, h_7, h_8]
   ·replace H := HS.cnd_f h_6 H
    try simp -implicitDefEqProofs (maxSteps := 999999) [-selQ_sel, h_1, h_2, h_3, h_6]
    have hr := (HS.some H).symm; subst hr
    refine Hid.mk ⟨_, Wk.refl _, ?_⟩
    try simp -implicitDefEqProofs (maxSteps := 999999) [-selQ_sel, h_1, h_2, h_3, h_6]
 ·replace H := HS.cnd_f h_2 H
  try simp -implicitDefEqProofs (maxSteps := 999999) [-selQ_sel, h_1, h_2]
  have hr := (HS.some H).symm; subst hr
  refine Hid.mk ⟨_, Wk.refl _, ?_⟩
  try simp -implicitDefEqProofs (maxSteps := 999999) [-selQ_sel, h_1, h_2]
theorem impl_copyScene_ok0 (hm : Try.prog.follows .mixedOrders = true) (k_impl_copyNode : Sound Try.prog 64 impl_copyNode_x) : Sound Try.prog 35 impl_copyScene_x := by
 refine xOf_sound fun q r h => ?_
 revert h; revert r; revert q; intro a0 r h
 refine fn_ok E0 hm Try.func35 rfl (by decide +kernel) (by rfl) fun Γ hn hk => ?_
 dsimp only [impl_copyScene_e, impl_copyScene_v]
 replace hn : Γ.n = 22 := hn
 replace hk : Γ.k = 0 := hk
 have H : HS (impl_copyScene a0) r := h
 clear h; unfold impl_copyScene at H
 try simp -implicitDefEqProofs at H
 refine Tr.of_vc (cl := tabC [(64, impl_copyNode_x)]) (E := E0) [] (tab_cons k_impl_copyNode tab_nil) hm (by rw [hn]; decide +kernel) ?_
 try simp -implicitDefEqProofs +decide (maxSteps := 999999) [-selQ_sel, hokQ_of]
 obtain ⟨q, h_1, H⟩ := HS.bnd H
 refine Hid.mk (Tr.weak (s' := (impl_copyScene_l0_S a0) (0, [])) (Wk.ofk [1, 2, 3] hk (by rfl) (by simp -implicitDefEqProofs [impl_copyScene_l0_S]) (by simp -implicitDefEqProofs [impl_copyScene_l0_S])) ?_)
 refine wp_loop_of (S := (impl_copyScene_l0_S a0)) (f := (impl_copyScene_l0 a0)) (xt := (impl_copyScene_l0_X a0)) ?_ ?_ h_1 ?_
 ·intro q; simp [impl_copyScene_l0_X]
 ·clear H h_1 q
  rintro ⟨x17, x18⟩ o R hf hR
  have H : HS (impl_copyScene_l0 a0 (x17, x18)) o := hf
  clear hf; unfold impl_copyScene_l0 at H
  try simp -implicitDefEqProofs at H
  refine Tr.of_vc (cl := tabC [(64, impl_copyNode_x)]) (E := E0) [] (tab_cons k_impl_copyNode tab_nil) hm (by rw [hn]; decide +kernel) ?_
  try simp -implicitDefEqProofs +decide (maxSteps := 999999) [-selQ_sel, hokQ_of, impl_copyScene_l0_S]
  refine Hid.brV (fun h_2 => ?_) (fun h_2 => ?_)
  ·replace H := HS.cnd_t h_2 H
   try simp -implicitDefEqProofs +decide (maxSteps := 999999) [-selQ_sel, hokQ_of, h_2]
   have hr := (HS.some H).symm; subst hr
   exact Hid.mk ⟨(impl_copyScene_l0_X a0 x18).2, Wk.ofk [0, 1, 2] hk (by rfl) (by simp -implicitDefEqProofs [impl_copyScene_l0_X, h_2]) (by simp -implicitDefEqProofs [impl_copyScene_l0_X, h_2]), hR⟩
  ·replace H := HS.cnd_f h_2 H
   try simp -implicitDefEqProofs +decide (maxSteps := 999999) [-selQ_sel, hokQ_of, h_2]
   obtain ⟨v19, h_3, H⟩ := HS.bnd H
   try simp -implicitDefEqProofs +decide (maxSteps := 999999) [-selQ_sel, hokQ_of, h_2, h_3]
   obtain ⟨⟨w21, w22, w23, w24, w25, w26, w27, w28, w29, w30, w31, w32, w33, w34⟩, h_4, H⟩ := HS.bnd H
   dsimp only at H
   try simp -implicitDefEqProofs +decide (maxSteps := 999999) [-selQ_sel, hokQ_of, h_2, h_3, h_4]
   obtain ⟨h_5, H⟩ := HS.chkP H
   try simp -implicitDefEqProofs +decide (maxSteps := 999999) [-selQ_sel, hokQ_of, h_2, h_3, h_4, h_5]
   have hr := (HS.some H).symm; subst hr
   exact Hid.mk ⟨impl_copyScene_l0_S a0 ((IntKind.i64.wrap (x17 + 1)), (x18 ++ [(TNode.mk w21 w22 w23 w24 (TPath.mk w30 w31) w25 w26 w32 w27 w28 w29 (TPath.mk w33 w34))])), Wk.trans (Wk.abs (id := 2) (j := 4) (js := [5, 6, 7, 8]) (by rfl) (by rfl) (by decide) (by simp -implicitDefEqProofs [impl_copyScene_l0_S, h_2, h_3, h_4, h_5]) (by rfl) (by simp -implicitDefEqProofs [impl_copyScene_l0_S, h_2, h_3, h_4, h_5]) (by simp -implicitDefEqProofs [impl_copyScene_l0_S, h_2, h_3, h_4, h_5])) (Wk.trans (Wk.abs (id := 2) (j := 5) (js := [6, 7, 8]) (by rfl) (by rfl) (by decide) (by simp -implicitDefEqProofs [impl_copyScene_l0_S, h_2, h_3, h_4, h_5]) (by rfl) (by simp -implicitDefEqProofs [impl_copyScene_l0_S, h_2, h_3, h_4, h_5]) (by simp -implicitDefEqProofs [impl_copyScene_l0_S, h_2, h_3, h_4, h_5])) (Wk.trans (Wk.abs (id := 2) (j := 6) (js := [7, 8]) (by rfl) (by rfl) (by decide) (by simp -implicitDefEqProofs [impl_copyScene_l0_S, h_2, h_3, h_4, h_5]) (by rfl) (by simp -implicitDefEqProofs [impl_copyScene_l0_S, h_2, h_3, h_4, h_5]) (by simp -implicitDefEqProofs [impl_copyScene_l0_S, h_2, h_3, h_4, h_5])) (Wk.trans (Wk.abs (id := 2) (j := 7) (js := [8]) (by rfl) (by rfl) (by decide) (by simp -implicitDefEqProofs [impl_copyScene_l0_S, h_2, h_3, h_4, h_5]) (by rfl) (by simp -implicitDefEqProofs [impl_copyScene_l0_S, h_2, h_3, h_4, h_5]) (by simp -implicitDefEqProofs [impl_copyScene_l0_S, h_2, h_3, h_4, h_5])) (Wk.trans (Wk.abs (id := 2) (j := 8) (js := []) (by rfl) (by rfl) (by decide) (by simp -implicitDefEqProofs [impl_copyScene_l0_S, h_2, h_3, h_4, h_5]) (by rfl) (by simp -implicitDefEqProofs [impl_copyScene_l0_S, h_2, h_3, h_4, h_5]) (by simp -implicitDefEqProofs [impl_copyScene_l0_S, h_2, h_3, h_4, h_5])) (Wk.ofk [0, 1, 2] hk (by rfl) (by simp -implicitDefEqProofs [impl_copyScene_l0_S, h_2, h_3, h_4, h_5]) (by simp -implicitDefEqProofs [impl_copyScene_l0_S, h_2, h_3, h_4, h_5])))))), hR⟩
 ·revert H h_1; revert q; intro y35 h_1 H
  try dsimp only at H
  try simp -implicitDefEqProofs +decide (maxSteps := 999999) [-selQ_sel, hokQ_of, impl_copyScene_l0_X]
  have hr := (HS.some H).symm; subst hr
  refine Hid.mk ⟨⟨[(2, AV.optr 0 0 1)], [(0, Ob.box [AV.osl 1 0 (List.length y35) (List.length y35)]), (1, Ob.nar 31 (List.map eNode y35) [0, 0, 0, 0, 0, 0, 0, 0, 0, 1, 2, 0, 0, 1, 0, 0, 0, 0, 0, 0, 0, 0, 0, 0, 0, 0, 0, 0, 0, 1, 2])], 2⟩, Wk.ofk [0, 2] hk (by rfl) (by simp -implicitDefEqProofs []) (by simp -implicitDefEqProofs []), ?_⟩
  try simp -implicitDefEqProofs +decide (maxSteps := 999999) [-selQ_sel, hokQ_of]
theorem laws_eqPointS_ok0 (hm : Try.prog.follows .mixedOrders = true) (k_laws_eqPoint : Sound Try.prog 111 laws_eqPoint_x) : Sound Try.prog 109 laws_eqPointS_x := by
 refine xOf_sound fun q r h => ?_
 obtain ⟨a0, a1⟩ := q
 refine fn_ok E0 hm Try.func109 rfl (by decide +kernel) (by rfl) fun Γ hn hk => ?_
 dsimp only [laws_eqPointS_e, laws_eqPointS_v]
 replace hn : Γ.n = 27 := hn
 replace hk : Γ.k = 0 := hk
 have H : HS (laws_eqPointS a0 a1) r := h
 clear h; unfold laws_eqPointS at H
 try simp -implicitDefEqProofs at H
 refine Tr.of_vc (cl := tabC [(111, laws_eqPoint_x)]) (E := E0) [] (tab_cons k_laws_eqPoint tab_nil) hm (by rw [hn]; decide +kernel) ?_
 try simp -implicitDefEqProofs +decide (maxSteps := 999999) [-selQ_sel, hokQ_of]
 refine Hid.brV (fun h_1 => ?_) (fun h_1 => ?_)
 ·replace H := HS.cnd_t h_1 H
  try simp -implicitDefEqProofs +decide (maxSteps := 999999) [-selQ_sel, hokQ_of, h_1]
  obtain ⟨q, h_2, H⟩ := HS.bnd H
  refine Hid.mk (Tr.weak (s' := (laws_eqPointS_l0_S a0 a1) 0) (Wk.ofk [] hk (by rfl) (by simp -implicitDefEqProofs [laws_eqPointS_l0_S, h_1]) (by simp -implicitDefEqProofs [laws_eqPointS_l0_S, h_1])) ?_)
  refine wp_loop_of (S := (laws_eqPointS_l0_S a0 a1)) (f := (laws_eqPointS_l0 a0 a1)) (xt := (laws_eqPointS_l0_X a0 a1)) ?_ ?_ h_2 ?_
  ·intro q; rcases q with ⟨⟩ | ⟨⟩ <;> simp [laws_eqPointS_l0_X]
  ·clear H h_2 q
   rintro x4 o R hf hR
   have H : HS (laws_eqPointS_l0 a0 a1 x4) o := hf
   clear hf; unfold laws_eqPointS_l0 at H
   try simp -implicitDefEqProofs at H
   refine Tr.of_vc (cl := tabC [(111, laws_eqPoint_x)]) (E := E0) [] (tab_cons k_laws_eqPoint tab_nil) hm (by rw [hn]; decide +kernel) ?_
   try simp -implicitDefEqProofs +decide (maxSteps := 999999) [-selQ_sel, hokQ_of, laws_eqPointS_l0_S]
   refine Hid.brV (fun h_3 => ?_) (fun h_3 => ?_)
   ·replace H := HS.cnd_t h_3 H
    try simp -implicitDefEqProofs +decide (maxSteps := 999999) [-selQ_sel, hokQ_of, h_3]
    have hr := (HS.some H).symm; subst hr
    exact Hid.mk ⟨(laws_eqPointS_l0_X a0 a1 (.inl ())).2, Wk.ofk [] hk (by rfl) (by simp -implicitDefEqProofs [laws_eqPointS_l0_X, h_3]) (by simp -implicitDefEqProofs [laws_eqPointS_l0_X, h_3]), hR⟩
   ·replace H := HS.cnd_f h_3 H
    try simp -implicitDefEqProofs +decide (maxSteps := 999999) [-selQ_sel, hokQ_of, h_3]
    obtain ⟨v5, h_4, H⟩ := HS.bnd H
    try simp -implicitDefEqProofs +decide (maxSteps := 999999) [-selQ_sel, hokQ_of, h_3, h_4]
    obtain ⟨v6, h_5, H⟩ := HS.bnd H
    try simp -implicitDefEqProofs +decide (maxSteps := 999999) [-selQ_sel, hokQ_of, h_3, h_4, h_5]
    obtain ⟨v7, h_6, H⟩ := HS.bnd H
    try simp -implicitDefEqProofs +decide (maxSteps := 999999) [-selQ_sel, hokQ_of, h_3, h_4, h_5, h_6]
    refine Hid.brV (fun h_7 => ?_) (fun h_7 => ?_)
    ·replace H := HS.cnd_t h_7 H
     try simp -implicitDefEqProofs +decide (maxSteps := 999999) [-selQ_sel, hokQ_of, h_3, h_4, h_5, h_6, h_7]
     have hr := (HS.some H).symm; subst hr
     exact Hid.mk ⟨laws_eqPointS_l0_S a0 a1 (IntKind.i64.wrap (x4 + 1)), Wk.ofk [] hk (by rfl) (by simp -implicitDefEqProofs [laws_eqPointS_l0_S, h_3, h_4, h_5, h_6, h_7]) (by simp -implicitDefEqProofs [laws_eqPointS_l0_S, h_3, h_4, h_5, h_6, h_7]), hR⟩
    ·replace H := HS.cnd_f h_7 H
     try simp -implicitDefEqProofs +decide (maxSteps := 999999) [-selQ_sel, hokQ_of, h_3, h_4, h_5, h_6, h_7]
     have hr := (HS.some H).symm; subst hr
     exact Hid.mk ⟨(laws_eqPointS_l0_X a0 a1 (.inr ())).2, Wk.ofk [] hk (by rfl) (by simp -implicitDefEqProofs [laws_eqPointS_l0_X, h_3, h_4, h_5, h_6, h_7]) (by simp -implicitDefEqProofs [laws_eqPointS_l0_X, h_3, h_4, h_5, h_6, h_7]), hR⟩
  ·rcases q with ⟨⟩ | ⟨⟩
   ·dsimp only at H
    try simp -implicitDefEqProofs +decide (maxSteps := 999999) [-selQ_sel, hokQ_of, h_1, laws_eqPointS_l0_X]
    have hr := (HS.some H).symm; subst hr
    refine Hid.mk ⟨_, Wk.refl _, ?_⟩
    try simp -implicitDefEqProofs +decide (maxSteps := 999999) [-selQ_sel, hokQ_of, h_1]
   ·dsimp only at H
    try simp -implicitDefEqProofs +decide (maxSteps := 999999) [-selQ_sel, hokQ_of, h_1, laws_eqPointS_l0_X]
    have hr := (HS.some H).symm; subst hr
    refine Hid.mk ⟨_, Wk.refl _, ?_⟩
    try simp -implicitDefEqProofs +decide (maxSteps := 999999) [-selQ_sel, hokQ_of, h_1]
 ·replace H := HS.cnd_f h_1 H
  try simp -implicitDefEqProofs +decide (maxSteps := 999999) [-selQ_sel, hokQ_of, h_1]
  have hr := (HS.some H).symm; subst hr
  refine Hid.mk ⟨_, Wk.refl _, ?_⟩
  try simp -implicitDefEqProofs +decide (maxSteps := 999999) [-selQ_sel, hokQ_of, h_1]
theorem impl_MatOk_ok0 (hm : Try.prog.follows .mixedOrders = true) (k_impl_inRange : Sound Try.prog 41 impl_inRange_x) (k_impl_isFar : Sound Try.prog 119 impl_isFar_x) : Sound Try.prog 89 impl_MatOk_x := by
 refine xOf_sound fun q r h => ?_
 revert h; revert r; revert q; intro a0 r h
 refine fn_ok E0 hm Try.func89 rfl (by decide +kernel) (by rfl) fun Γ hn hk => ?_
 dsimp only [impl_MatOk_e, impl_MatOk_v]
 replace hn : Γ.n = 29 := hn
 replace hk : Γ.k = 0 := hk
 have H : HS (impl_MatOk a0) r := h
 clear h; unfold impl_MatOk at H
 try simp -implicitDefEqProofs at H
 refine Tr.of_vc (cl := tabC [(41, impl_inRange_x), (119, impl_isFar_x)]) (E := E0) [] (tab_cons k_impl_inRange (tab_cons k_impl_isFar tab_nil)) hm (by rw [hn]; decide +kernel) ?_
 try simp -implicitDefEqProofs (maxSteps := 999999) [-selQ_sel]
 obtain ⟨q, h_1, H⟩ := HS.bnd H
 refine Hid.mk (Tr.weak (s' := (impl_MatOk_l0_S a0) 0) (Wk.ofk [0] hk (by rfl) (by simp -implicitDefEqProofs [impl_MatOk_l0_S]) (by simp -implicitDefEqProofs [impl_MatOk_l0_S])) ?_)
 refine wp_loop_of (S := (impl_MatOk_l0_S a0)) (f := (impl_MatOk_l0 a0)) (xt := (impl_MatOk_l0_X a0)) ?_ ?_ h_1 ?_
 ·intro q; rcases q with ⟨⟩ | ⟨⟩ <;> simp [impl_MatOk_l0_X]
 ·clear H h_1 q
  rintro x2 o R hf hR
  have H : HS (impl_MatOk_l0 a0 x2) o := hf
  clear hf; unfold impl_MatOk_l0 at H
  try simp -implicitDefEqProofs at H
  refine Tr.of_vc (cl := tabC [(41, impl_inRange_x), (119, impl_isFar_x)]) (E := E0) [] (tab_cons k_impl_inRange (tab_cons k_impl_isFar tab_nil)) hm (by rw [hn]; decide +kernel) ?_
  try simp -implicitDefEqProofs (maxSteps := 999999) [-selQ_sel, impl_MatOk_l0_S]
  refine Hid.brV (fun h_2 => ?_) (fun h_2 => ?_)
  ·replace H := HS.cnd_t h_2 H
   try simp -implicitDefEqProofs (maxSteps := 999999) [-selQ_sel, h_2]
   have hr := (HS.some H).symm; subst hr
   exact Hid.mk ⟨(impl_MatOk_l0_X a0 (.inl ())).2, Wk.ofk [0] hk (by rfl) (by simp -implicitDefEqProofs [impl_MatOk_l0_X, h_2]) (by simp -implicitDefEqProofs [impl_MatOk_l0_X, h_2]), hR⟩
  ·replace H := HS.cnd_f h_2 H
   try simp -implicitDefEqProofs (maxSteps := 999999) [-selQ_sel, h_2]
   obtain ⟨v3, h_3, H⟩ := HS.bnd H
   have g_4 := idx_map (e := (AV.int .i64)) h_3
   simp only [List.map_cons, List.map_nil] at g_4
   try simp -implicitDefEqProofs (maxSteps := 999999) [-selQ_sel, h_2, h_3, g_4]
   obtain ⟨v4, h_5, H⟩ := HS.bnd H
   try simp -implicitDefEqProofs (maxSteps := 999999) [-selQ_sel, h_2, h_3, g_4, h_5]
   refine Hid.brV (fun h_6 => ?_) (fun h_6 => ?_)
   ·replace H := HS.cnd_t h_6 H
    try simp -implicitDefEqProofs (maxSteps := 999999) [-selQ_sel, h_2, h_3, g_4, h_5, h_6]
    have hr := (HS.some H).symm; subst hr
    exact Hid.mk ⟨impl_MatOk_l0_S a0 (IntKind.i64.wrap (x2 + 1)), Wk.ofk [0] hk (by rfl) (by simp -implicitDefEqProofs [impl_MatOk_l0_S, h_2, h_3, g_4, h_5, h_6]) (by simp -implicitDefEqProofs [impl_MatOk_l0_S, h_2, h_3, g_4, h_5, h_6]), hR⟩
   ·replace H := HS.cnd_f h_6 H
    try simp -implicitDefEqProofs (maxSteps := 999999) [-selQ_sel, h_2, h_3, g_4, h_5, h_6]
    have hr := (HS.some H).symm; subst hr
    exact Hid.mk ⟨(impl_MatOk_l0_X a0 (.inr ())).2, Wk.ofk [] hk (by rfl) (by simp -implicitDefEqProofs [impl_MatOk_l0_X, h_2, h_3, g_4, h_5, h_6]) (by simp -implicitDefEqProofs [impl_MatOk_l0_X, h_2, h_3, g_4, h_5, h_6]), hR⟩
 ·rcases q with ⟨⟩ | ⟨⟩
  ·dsimp only at H
   try simp -implicitDefEqProofs (maxSteps := 999999) [-selQ_sel, impl_MatOk_l0_X]
   obtain ⟨v5, h_7, H⟩ := HS.bnd H
   try simp -implicitDefEqProofs (maxSteps := 999999) [-selQ_sel, h_7]
   refine Hid.selQ (fun h_8 => ?_) (fun h_8 => ?_)
   ·replace H := HS.cnd_t h_8 H
    try simp -implicitDefEqProofs (maxSteps := 999999) [-selQ_sel, h_7, h_8]
    obtain ⟨v6, h_9, H⟩ := HS.bnd H
    try simp -implicitDefEqProofs (maxSteps := 999999) [-selQ_sel, h_7, h_8, h_9]
    have hr := (HS.some H).symm; subst hr
    refine Hid.mk ⟨_, Wk.refl _, ?_⟩
    try simp -implicitDefEqProofs (maxSteps := 999999) [-selQ_sel, h_7, h_8, h_9]
   ·replace H := HS.cnd_f h_8 H
    try simp -implicitDefEqProofs (maxSteps := 999999) [-selQ_sel, h_7, h_8]
    have hr := (HS.some H).symm; subst hr
    refine Hid.mk ⟨_, Wk.refl _, ?_⟩
    try simp -implicitDefEqProofs (maxSteps := 999999) [-selQ_sel, h_7, h_8]
  ·dsimp only at H
   try simp -implicitDefEqProofs (maxSteps := 999999) [-selQ_sel, impl_MatOk_l0_X]
   have hr := (HS.some H).symm; subst hr
   refine Hid.mk ⟨_, Wk.refl _, ?_⟩
   try simp -implicitDefEqProofs (maxSteps := 999999) [-selQ_sel]
theorem laws_szNodeS_ok0 (hm : Try.prog.follows .mixedOrders = true) (k_laws_szNode : Sound Try.prog 17 laws_szNode_x) : Sound Try.prog 54 laws_szNodeS_x := by
 refine xOf_sound fun q r h => ?_
 obtain ⟨a0, a1⟩ := q
 refine fn_ok E0 hm Try.func54 rfl (by decide +kernel) (by rfl) fun Γ hn hk => ?_
 dsimp only [laws_szNodeS_e, laws_szNodeS_v]
 replace hn : Γ.n = 27 := hn
 replace hk : Γ.k = 0 := hk
 have H : HS (laws_szNodeS a0 a1) r := h
 clear h; unfold laws_szNodeS at H
 try simp -implicitDefEqProofs at H
 refine Tr.of_vc (cl := tabC [(17, laws_szNode_x)]) (E := E0) [] (tab_cons k_laws_szNode tab_nil) hm (by rw [hn]; decide +kernel) ?_
 try simp -implicitDefEqProofs (maxSteps := 999999) [-selQ_sel]
 refine Hid.brV (fun h_1 => ?_) (fun h_1 => ?_)
 ·replace H := HS.cnd_t h_1 H
  try simp -implicitDefEqProofs (maxSteps := 999999) [-selQ_sel, h_1]
  obtain ⟨q, h_2, H⟩ := HS.bnd H
  refine Hid.mk (Tr.weak (s' := (laws_szNodeS_l0_S a0) ((IntKind.i64.wrap (a1 - (List.length a0 : Int))), 0)) (Wk.ofk [] hk (by rfl) (by simp -implicitDefEqProofs [laws_szNodeS_l0_S, h_1]) (by simp -implicitDefEqProofs [laws_szNodeS_l0_S, h_1])) ?_)
  refine wp_loop_of (S := (laws_szNodeS_l0_S a0)) (f := (laws_szNodeS_l0 a0)) (xt := (laws_szNodeS_l0_X a0)) ?_ ?_ h_2 ?_
  ·intro q; rcases q with y7 | ⟨⟩ <;> simp [laws_szNodeS_l0_X]
  ·clear H h_2 q
   rintro ⟨x3, x4⟩ o R hf hR
   have H : HS (laws_szNodeS_l0 a0 (x3, x4)) o := hf
   clear hf; unfold laws_szNodeS_l0 at H
   try simp -implicitDefEqProofs at H
   refine Tr.of_vc (cl := tabC [(17, laws_szNode_x)]) (E := E0) [] (tab_cons k_laws_szNode tab_nil) hm (by rw [hn]; decide +kernel) ?_
   try simp -implicitDefEqProofs (maxSteps := 999999) [-selQ_sel, laws_szNodeS_l0_S]
   refine Hid.brV (fun h_3 => ?_) (fun h_3 => ?_)
   ·replace H := HS.cnd_t h_3 H
    try simp -implicitDefEqProofs (maxSteps := 999999) [-selQ_sel, h_3]
    have hr := (HS.some H).symm; subst hr
    exact Hid.mk ⟨(laws_szNodeS_l0_X a0 (.inl x3)).2, Wk.ofk [] hk (by rfl) (by simp -implicitDefEqProofs [laws_szNodeS_l0_X, h_3]) (by simp -implicitDefEqProofs [laws_szNodeS_l0_X, h_3]), hR⟩
   ·replace H := HS.cnd_f h_3 H
    try simp -implicitDefEqProofs (maxSteps := 999999) [-selQ_sel, h_3]
    obtain ⟨v5, h_4, H⟩ := HS.bnd H
    try simp -implicitDefEqProofs (maxSteps := 999999) [-selQ_sel, h_3, h_4]
    obtain ⟨v6, h_5, H⟩ := HS.bnd H
    try simp -implicitDefEqProofs (maxSteps := 999999) [-selQ_sel, h_3, h_4, h_5]
    refine Hid.brV (fun h_6 => ?_) (fun h_6 => ?_)
    ·replace H := HS.cnd_t h_6 H
     try simp -implicitDefEqProofs (maxSteps := 999999) [-selQ_sel, h_3, h_4, h_5, h_6]
     have hr := (HS.some H).symm; subst hr
     exact Hid.mk ⟨laws_szNodeS_l0_S a0 (v6, (IntKind.i64.wrap (x4 + 1))), Wk.ofk [] hk (by rfl) (by simp -implicitDefEqProofs [laws_szNodeS_l0_S, h_3, h_4, h_5, h_6]) (by simp -implicitDefEqProofs [laws_szNodeS_l0_S, h_3, h_4, h_5, h_6]), hR⟩
    ·replace H := HS.cnd_f h_6 H
     try simp -implicitDefEqProofs (maxSteps := 999999) [-selQ_sel, h_3, h_4, h_5, h_6]
     have hr := (HS.some H).symm; subst hr
     exact Hid.mk ⟨(laws_szNodeS_l0_X a0 (.inr ())).2, Wk.ofk [] hk (by rfl) (by simp -implicitDefEqProofs [laws_szNodeS_l0_X, h_3, h_4, h_5, h_6]) (by simp -implicitDefEqProofs [laws_szNodeS_l0_X, h_3, h_4, h_5, h_6]), hR⟩
  ·rcases q with y7 | ⟨⟩
   ·dsimp only at H
    try simp -implicitDefEqProofs (maxSteps := 999999) [-selQ_sel, h_1, laws_szNodeS_l0_X]
    have hr := (HS.some H).symm; subst hr
    refine Hid.mk ⟨_, Wk.refl _, ?_⟩
    try simp -implicitDefEqProofs (maxSteps := 999999) [-selQ_sel, h_1]
   ·dsimp only at H
    try simp -implicitDefEqProofs (maxSteps := 999999) [-selQ_sel, h_1, laws_szNodeS_l0_X]
    have hr := (HS.some H).symm; subst hr
    refine Hid.mk ⟨_, Wk.refl _, ?_⟩
    try simp -implicitDefEqProofs (maxSteps := 999999) [-selQ_sel, h_1]
 ·replace H := HS.cnd_f h_1 H
  try simp -implicitDefEqProofs (maxSteps := 999999) [-selQ_sel, h_1]
  have hr := (HS.some H).symm; subst hr
  refine Hid.mk ⟨_, Wk.refl _, ?_⟩
  try simp -implicitDefEqProofs (maxSteps := 999999) [-selQ_sel, h_1]
theorem impl_DashOk_ok0 (hm : Try.prog.follows .mixedOrders = true) (k_impl_inRange : Sound Try.prog 41 impl_inRange_x) : Sound Try.prog 91 impl_DashOk_x := by
 refine xOf_sound fun q r h => ?_
 revert h; revert r; revert q; intro a0 r h
 refine fn_ok E0 hm Try.func91 rfl (by decide +kernel) (by rfl) fun Γ hn hk => ?_
 dsimp only [impl_DashOk_e, impl_DashOk_v]
 replace hn : Γ.n = 24 := hn
 replace hk : Γ.k = 0 := hk
 have H : HS (impl_DashOk a0) r := h
 clear h; unfold impl_DashOk at H
 try simp -implicitDefEqProofs at H
 refine Tr.of_vc (cl := tabC [(41, impl_inRange_x)]) (E := E0) [] (tab_cons k_impl_inRange tab_nil) hm (by rw [hn]; decide +kernel) ?_
 try simp -implicitDefEqProofs (maxSteps := 999999) [-selQ_sel]
 obtain ⟨q, h_1, H⟩ := HS.bnd H
 refine Hid.mk (Tr.weak (s' := (impl_DashOk_l0_S a0) 0) (Wk.ofk [] hk (by rfl) (by simp -implicitDefEqProofs [impl_DashOk_l0_S]) (by simp -implicitDefEqProofs [impl_DashOk_l0_S])) ?_)
 refine wp_loop_of (S := (impl_DashOk_l0_S a0)) (f := (impl_DashOk_l0 a0)) (xt := (impl_DashOk_l0_X a0)) ?_ ?_ h_1 ?_
 ·intro q; rcases q with ⟨⟩ | ⟨⟩ <;> simp [impl_DashOk_l0_X]
 ·clear H h_1 q
  rintro x3 o R hf hR
  have H : HS (impl_DashOk_l0 a0 x3) o := hf
  clear hf; unfold impl_DashOk_l0 at H
  try simp -implicitDefEqProofs at H
  refine Tr.of_vc (cl := tabC [(41, impl_inRange_x)]) (E := E0) [] (tab_cons k_impl_inRange tab_nil) hm (by rw [hn]; decide +kernel) ?_
  try simp -implicitDefEqProofs (maxSteps := 999999) [-selQ_sel, impl_DashOk_l0_S]
  refine Hid.brV (fun h_2 => ?_) (fun h_2 => ?_)
  ·replace H := HS.cnd_t h_2 H
   try simp -implicitDefEqProofs (maxSteps := 999999) [-selQ_sel, h_2]
   have hr := (HS.some H).symm; subst hr
   exact Hid.mk ⟨(impl_DashOk_l0_X a0 (.inl ())).2, Wk.ofk [] hk (by rfl) (by simp -implicitDefEqProofs [impl_DashOk_l0_X, h_2]) (by simp -implicitDefEqProofs [impl_DashOk_l0_X, h_2]), hR⟩
  ·replace H := HS.cnd_f h_2 H
   try simp -implicitDefEqProofs (maxSteps := 999999) [-selQ_sel, h_2]
   obtain ⟨v4, h_3, H⟩ := HS.bnd H
   try simp -implicitDefEqProofs (maxSteps := 999999) [-selQ_sel, h_2, h_3]
   obtain ⟨v5, h_4, H⟩ := HS.bnd H
   try simp -implicitDefEqProofs (maxSteps := 999999) [-selQ_sel, h_2, h_3, h_4]
   refine Hid.brV (fun h_5 => ?_) (fun h_5 => ?_)
   ·replace H := HS.cnd_t h_5 H
    try simp -implicitDefEqProofs (maxSteps := 999999) [-selQ_sel, h_2, h_3, h_4, h_5]
    have hr := (HS.some H).symm; subst hr
    exact Hid.mk ⟨impl_DashOk_l0_S a0 (IntKind.i64.wrap (x3 + 1)), Wk.ofk [] hk (by rfl) (by simp -implicitDefEqProofs [impl_DashOk_l0_S, h_2, h_3, h_4, h_5]) (by simp -implicitDefEqProofs [impl_DashOk_l0_S, h_2, h_3, h_4, h_5]), hR⟩
   ·replace H := HS.cnd_f h_5 H
    try simp -implicitDefEqProofs (maxSteps := 999999) [-selQ_sel, h_2, h_3, h_4, h_5]
    have hr := (HS.some H).symm; subst hr
    exact Hid.mk ⟨(impl_DashOk_l0_X a0 (.inr ())).2, Wk.ofk [] hk (by rfl) (by simp -implicitDefEqProofs [impl_DashOk_l0_X, h_2, h_3, h_4, h_5]) (by simp -implicitDefEqProofs [impl_DashOk_l0_X, h_2, h_3, h_4, h_5]), hR⟩
 ·rcases q with ⟨⟩ | ⟨⟩
  ·dsimp only at H
   try simp -implicitDefEqProofs (maxSteps := 999999) [-selQ_sel, impl_DashOk_l0_X]
   refine Hid.selQ (fun h_6 => ?_) (fun h_6 => ?_)
   ·replace H := HS.cnd_t h_6 H
    try simp -implicitDefEqProofs (maxSteps := 999999) [-selQ_sel, h_6]
    have hr := (HS.some H).symm; subst hr
    refine Hid.mk ⟨_, Wk.refl _, ?_⟩
    try simp -implicitDefEqProofs (maxSteps := 999999) [-selQ_sel, h_6]
   ·replace H := HS.cnd_f h_6 H
    try simp -implicitDefEqProofs (maxSteps := 999999) [-selQ_sel, h_6]
    have hr := (HS.some H).symm; subst hr
    refine Hid.mk ⟨_, Wk.refl _, ?_⟩
    try simp -implicitDefEqProofs (maxSteps := 999999) [-selQ_sel, h_6]
  ·dsimp only at H
   try simp -implicitDefEqProofs (maxSteps := 999999) [-selQ_sel, impl_DashOk_l0_X]
   have hr := (HS.some H).symm; subst hr
   refine Hid.mk ⟨_, Wk.refl _, ?_⟩
   try simp -implicitDefEqProofs (maxSteps := 999999) [-selQ_sel]
theorem laws_eqPaint_ok0 (hm : Try.prog.follows .mixedOrders = true) (k_laws_eqColor : Sound Try.prog 110 laws_eqColor_x) (k_laws_eqPoint : Sound Try.prog 111 laws_eqPoint_x) : Sound Try.prog 69 laws_eqPaint_x := by
 refine xOf_sound fun q r h => ?_
 obtain ⟨a0, a1⟩ := q
 refine fn_ok E0 hm Try.func69 rfl (by decide +kernel) (by rfl) fun Γ hn hk => ?_
 dsimp only [laws_eqPaint_e, laws_eqPaint_v]
 replace hn : Γ.n = 34 := hn
 replace hk : Γ.k = 0 := hk
 have H : HS (laws_eqPaint a0 a1) r := h
 clear h; unfold laws_eqPaint at H
 try simp -implicitDefEqProofs at H
 refine Tr.of_vc (cl := tabC [(110, laws_eqColor_x), (111, laws_eqPoint_x)]) (E := E0) [] (tab_cons k_laws_eqColor (tab_cons k_laws_eqPoint tab_nil)) hm (by rw [hn]; decide +kernel) ?_
 try simp -implicitDefEqProofs (maxSteps := 999999) [-selQ_sel]
 refine Hid.brV (fun h_1 => ?_) (fun h_1 => ?_)
 ·replace H := HS.cnd_t h_1 H
  try simp -implicitDefEqProofs (maxSteps := 999999) [-selQ_sel, h_1]
  obtain ⟨v1, h_2, H⟩ := HS.bnd H
  try simp -implicitDefEqProofs (maxSteps := 999999) [-selQ_sel, h_1, h_2]
  refine Hid.brV (fun h_3 => ?_) (fun h_3 => ?_)
  ·replace H := HS.cnd_t h_3 H
   try simp -implicitDefEqProofs (maxSteps := 999999) [-selQ_sel, h_1, h_2, h_3]
   obtain ⟨v2, h_4, H⟩ := HS.bnd H
   try simp -implicitDefEqProofs (maxSteps := 999999) [-selQ_sel, h_1, h_2, h_3, h_4]
   refine Hid.brV (fun h_5 => ?_) (fun h_5 => ?_)
   ·replace H := HS.cnd_t h_5 H
    try simp -implicitDefEqProofs (maxSteps := 999999) [-selQ_sel, h_1, h_2, h_3, h_4, h_5]
    obtain ⟨v3, h_6, H⟩ := HS.bnd H
    try simp -implicitDefEqProofs (maxSteps := 999999) [-selQ_sel, h_1, h_2, h_3, h_4, h_5, h_6]
    refine Hid.brV (fun h_7 => ?_) (fun h_7 => ?_)
    ·replace H := HS.cnd_t h_7 H
     try simp -implicitDefEqProofs (maxSteps := 999999) [-selQ_sel, h_1, h_2, h_3, h_4, h_5, h_6, h_7]
     obtain ⟨v4, h_8, H⟩ := HS.bnd H
     try simp -implicitDefEqProofs (maxSteps := 999999) [-selQ_sel, h_1, h_2, h_3, h_4, h_5, h_6, h_7, h_8]
     refine Hid.brV (fun h_9 => ?_) (fun h_9 => ?_)
     ·replace H := HS.cnd_t h_9 H
      try simp -implicitDefEqProofs (maxSteps := 999999) [-selQ_sel, h_1, h_2, h_3, h_4, h_5, h_6, h_7, h_8, h_9]
      have hr := (HS.some H).symm; subst hr
      refine Hid.mk ⟨_, Wk.refl _, ?_⟩
      try simp -implicitDefEqProofs (maxSteps := 999999) [-selQ_sel, h_1, h_2, h_3, h_4, h_5, h_6, h_7, h_8, h_9]
     ·replace H := HS.cnd_f h_9 H
      try simp -implicitDefEqProofs (maxSteps := 999999) [-selQ_sel, h_1, h_2, h_3, h_4, h_5, h_6, h_7, h_8, h_9]
      have hr := (HS.some H).symm; subst hr
      refine Hid.mk ⟨_, Wk.refl _, ?_⟩
      try simp -implicitDefEqProofs (maxSteps := 999999) [-selQ_sel, h_1, h_2, h_3, h_4, h_5, h_6, h_7, h_8, h_9]
    ·replace H := HS.cnd_f h_7 H
     try simp -implicitDefEqProofs (maxSteps := 999999) [-selQ_sel, h_1, h_2, h_3, h_4, h_5, h_6, h_7]
     have hr := (HS.some H).symm; subst hr
     refine Hid.mk ⟨_, Wk.refl _, ?_⟩
     try simp -implicitDefEqProofs (maxSteps := 999999) [-selQ_sel, h_1, h_2, h_3, h_4, h_5, h_6, h_7]
   ·replace H := HS.cnd_f h_5 H
    try simp -implicitDefEqProofs (maxSteps := 999999) [-selQ_sel, h_1, h_2, h_3, h_4, h_5]
    have hr := (HS.some H).symm; subst hr
    refine Hid.mk ⟨_, Wk.refl _, ?_⟩
    try simp -implicitDefEqProofs (maxSteps := 999999) [-selQ_sel, h_1, h_2, h_3, h_4, h_5]
  ·replace H := HS.cnd_f h_3 H
   try simp -implicitDefEqProofs (maxSteps := 999999) [-selQ_sel, h_1, h_2, h_3]
   have hr := (HS.some H).symm; subst hr
   refine Hid.mk ⟨_, Wk.refl _, ?_⟩
   try simp -implicitDefEqProofs (maxSteps := 999999) [-selQ_sel, h_1, h_2, h_3]
 ·replace H := HS.cnd_f h_1 H
  try simp -implicitDefEqProofs (maxSteps := 999999) [-selQ_sel, h_1]
  have hr := (HS.some H).symm; subst hr
  refine Hid.mk ⟨_, Wk.refl _, ?_⟩
  try simp -implicitDefEqProofs (maxSteps := 999999) [-selQ_sel, h_1]
theorem laws_eqMat_ok0 (hm : Try.prog.follows .mixedOrders = true) : Sound Try.prog 66 laws_eqMat_x := by
 refine xOf_sound fun q r h => ?_
 obtain ⟨a0, a1⟩ := q
 refine fn_ok E0 hm Try.func66 rfl (by decide +kernel) (by rfl) fun Γ hn hk => ?_
 dsimp only [laws_eqMat_e, laws_eqMat_v]
 replace hn : Γ.n = 35 := hn
 replace hk : Γ.k = 0 := hk
 have H : HS (laws_eqMat a0 a1) r := h
 clear h; unfold laws_eqMat at H
 try simp -implicitDefEqProofs at H
 refine Tr.of_vc (cl := tabC []) (E := E0) [] tab_nil hm (by rw [hn]; decide +kernel) ?_
 try simp -implicitDefEqProofs (maxSteps := 999999) [-selQ_sel]
 refine Hid.brV (fun h_1 => ?_) (fun h_1 => ?_)
 ·replace H := HS.cnd_t h_1 H
  try simp -implicitDefEqProofs (maxSteps := 999999) [-selQ_sel, h_1]
  refine Hid.brV (fun h_2 => ?_) (fun h_2 => ?_)
  ·replace H := HS.cnd_t h_2 H
   try simp -implicitDefEqProofs (maxSteps := 999999) [-selQ_sel, h_1, h_2]
   refine Hid.brV (fun h_3 => ?_) (fun h_3 => ?_)
   ·replace H := HS.cnd_t h_3 H
    try simp -implicitDefEqProofs (maxSteps := 999999) [-selQ_sel, h_1, h_2, h_3]
    refine Hid.brV (fun h_4 => ?_) (fun h_4 => ?_)
    ·replace H := HS.cnd_t h_4 H
     try simp -implicitDefEqProofs (maxSteps := 999999) [-selQ_sel, h_1, h_2, h_3, h_4]
     refine Hid.brV (fun h_5 => ?_) (fun h_5 => ?_)
     ·replace H := HS.cnd_t h_5 H
      try simp -implicitDefEqProofs (maxSteps := 999999) [-selQ_sel, h_1, h_2, h_3, h_4, h_5]
      refine Hid.brV (fun h_6 => ?_) (fun h_6 => ?_)
      ·replace H := HS.cnd_t h_6 H
       try simp -implicitDefEqProofs (maxSteps := 999999) [-selQ_sel, h_1, h_2, h_3, h_4, h_5, h_6]
       have hr := (HS.some H).symm; subst hr
       refine Hid.mk ⟨_, Wk.refl _, ?_⟩
       try simp -implicitDefEqProofs (maxSteps := 999999) [-selQ_sel, h_1, h_2, h_3, h_4, h_5, h_6]
      ·replace H := HS.cnd_f h_6 H
       try simp -implicitDefEqProofs (maxSteps := 999999) [-selQ_sel, h_1, h_2, h_3, h_4, h_5, h_6]
       have hr := (HS.some H).symm; subst hr
       refine Hid.mk ⟨_, Wk.refl _, ?_⟩
       try simp -implicitDefEqProofs (maxSteps := 999999) [-selQ_sel, h_1, h_2, h_3, h_4, h_5, h_6]
     ·replace H := HS.cnd_f h_5 H
      try simp -implicitDefEqProofs (maxSteps := 999999) [-selQ_sel, h_1, h_2, h_3, h_4, h_5]
      have hr := (HS.some H).symm; subst hr
      refine Hid.mk ⟨_, Wk.refl _, ?_⟩
      try simp -implicitDefEqProofs (maxSteps := 999999) [-selQ_sel, h_1, h_2, h_3, h_4, h_5]
    ·replace H := HS.cnd_f h_4 H
     try simp -implicitDefEqProofs (maxSteps := 999999) [-selQ_sel, h_1, h_2, h_3, h_4]
     have hr := (HS.some H).symm; subst hr
     refine Hid.mk ⟨_, Wk.refl _, ?_⟩
     try simp -implicitDefEqProofs (maxSteps := 999999) [-selQ_sel, h_1, h_2, h_3, h_4]
   ·replace H := HS.cnd_f h_3 H
    try simp -implicitDefEqProofs (maxSteps := 999999) [-selQ_sel, h_1, h_2, h_3]
    have hr := (HS.some H).symm; subst hr
    refine Hid.mk ⟨_, Wk.refl _, ?_⟩
    try simp -implicitDefEqProofs (maxSteps := 999999) [-selQ_sel, h_1, h_2, h_3]
  ·replace H := HS.cnd_f h_2 H
   try simp -implicitDefEqProofs (maxSteps := 999999) [-selQ_sel, h_1, h_2]
   have hr := (HS.some H).symm; subst hr
   refine Hid.mk ⟨_, Wk.refl _, ?_⟩
   try simp -implicitDefEqProofs (maxSteps := 999999) [-selQ_sel, h_1, h_2]
 ·replace H := HS.cnd_f h_1 H
  try simp -implicitDefEqProofs (maxSteps := 999999) [-selQ_sel, h_1]
  have hr := (HS.some H).symm; subst hr
  refine Hid.mk ⟨_, Wk.refl _, ?_⟩
  try simp -implicitDefEqProofs (maxSteps := 999999) [-selQ_sel, h_1]
theorem spec_NodeAt_ok0 (hm : Try.prog.follows .mixedOrders = true) : Sound Try.prog 45 spec_NodeAt_x := by
 refine xOf_sound fun q r h => ?_
 obtain ⟨a0, a1⟩ := q
 refine fn_ok E0 hm Try.func45 rfl (by decide +kernel) (by rfl) fun Γ hn hk => ?_
 dsimp only [spec_NodeAt_e, spec_NodeAt_v]
 replace hn : Γ.n = 22 := hn
 replace hk : Γ.k = 0 := hk
 have H : HS (spec_NodeAt a0 a1) r := h
 clear h; unfold spec_NodeAt at H
 try simp -implicitDefEqProofs at H
 refine Tr.of_vc (cl := tabC []) (E := E0) [] tab_nil hm (by rw [hn]; decide +kernel) ?_
 try simp -implicitDefEqProofs (maxSteps := 999999) [-selQ_sel]
 obtain ⟨q, h_1, H⟩ := HS.bnd H
 refine Hid.mk (Tr.weak (s' := (spec_NodeAt_l0_S a0 a1) 0) (Wk.ofk [0] hk (by rfl) (by simp -implicitDefEqProofs [spec_NodeAt_l0_S]) (by simp -implicitDefEqProofs [spec_NodeAt_l0_S])) ?_)
 refine wp_loop_of (S := (spec_NodeAt_l0_S a0 a1)) (f := (spec_NodeAt_l0 a0 a1)) (xt := (spec_NodeAt_l0_X a0 a1)) ?_ ?_ h_1 ?_
 ·intro q; rcases q with ⟨⟩ | y4 <;> simp [spec_NodeAt_l0_X]
 ·clear H h_1 q
  rintro x2 o R hf hR
  have H : HS (spec_NodeAt_l0 a0 a1 x2) o := hf
  clear hf; unfold spec_NodeAt_l0 at H
  try simp -implicitDefEqProofs at H
  refine Tr.of_vc (cl := tabC []) (E := E0) [] tab_nil hm (by rw [hn]; decide +kernel) ?_
  try simp -implicitDefEqProofs (maxSteps := 999999) [-selQ_sel, spec_NodeAt_l0_S]
  refine Hid.brV (fun h_2 => ?_) (fun h_2 => ?_)
  ·replace H := HS.cnd_t h_2 H
   try simp -implicitDefEqProofs (maxSteps := 999999) [-selQ_sel, h_2]
   have hr := (HS.some H).symm; subst hr
   exact Hid.mk ⟨(spec_NodeAt_l0_X a0 a1 (.inl ())).2, Wk.ofk [] hk (by rfl) (by simp -implicitDefEqProofs [spec_NodeAt_l0_X, h_2]) (by simp -implicitDefEqProofs [spec_NodeAt_l0_X, h_2]), hR⟩
  ·replace H := HS.cnd_f h_2 H
   try simp -implicitDefEqProofs (maxSteps := 999999) [-selQ_sel, h_2]
   obtain ⟨v3, h_3, H⟩ := HS.bnd H
   try simp -implicitDefEqProofs (maxSteps := 999999) [-selQ_sel, h_2, h_3]
   refine Hid.brV (fun h_4 => ?_) (fun h_4 => ?_)
   ·replace H := HS.cnd_t h_4 H
    try simp -implicitDefEqProofs (maxSteps := 999999) [-selQ_sel, h_2, h_3, h_4]
    have hr := (HS.some H).symm; subst hr
    exact Hid.mk ⟨(spec_NodeAt_l0_X a0 a1 (.inr x2)).2, Wk.ofk [] hk (by rfl) (by simp -implicitDefEqProofs [spec_NodeAt_l0_X, h_2, h_3, h_4]) (by simp -implicitDefEqProofs [spec_NodeAt_l0_X, h_2, h_3, h_4]), hR⟩
   ·replace H := HS.cnd_f h_4 H
    try simp -implicitDefEqProofs (maxSteps := 999999) [-selQ_sel, h_2, h_3, h_4]
    have hr := (HS.some H).symm; subst hr
    exact Hid.mk ⟨spec_NodeAt_l0_S a0 a1 (IntKind.i64.wrap (x2 + 1)), Wk.ofk [0] hk (by rfl) (by simp -implicitDefEqProofs [spec_NodeAt_l0_S, h_2, h_3, h_4]) (by simp -implicitDefEqProofs [spec_NodeAt_l0_S, h_2, h_3, h_4]), hR⟩
 ·rcases q with ⟨⟩ | y4
  ·dsimp only at H
   try simp -implicitDefEqProofs (maxSteps := 999999) [-selQ_sel, spec_NodeAt_l0_X]
   have hr := (HS.some H).symm; subst hr
   refine Hid.mk ⟨_, Wk.refl _, ?_⟩
   try simp -implicitDefEqProofs (maxSteps := 999999) [-selQ_sel]
  ·dsimp only at H
   try simp -implicitDefEqProofs (maxSteps := 999999) [-selQ_sel, spec_NodeAt_l0_X]
   have hr := (HS.some H).symm; subst hr
   refine Hid.mk ⟨_, Wk.refl _, ?_⟩
   try simp -implicitDefEqProofs (maxSteps := 999999) [-selQ_sel]
theorem laws_markIntS_ok0 (hm : Try.prog.follows .mixedOrders = true) : Sound Try.prog 72 laws_markIntS_x := by
 refine xOf_sound fun q r h => ?_
 obtain ⟨a0, a1⟩ := q
 refine fn_ok E0 hm Try.func72 rfl (by decide +kernel) (by rfl) fun Γ hn hk => ?_
 dsimp only [laws_markIntS_e, laws_markIntS_v]
 replace hn : Γ.n = 19 := hn
 replace hk : Γ.k = 1 := hk
 have H : HS (laws_markIntS a0 a1) r := h
 clear h; unfold laws_markIntS at H
 try simp -implicitDefEqProofs at H
 refine Tr.of_vc (cl := tabC []) (E := E0) [] tab_nil hm (by rw [hn]; decide +kernel) ?_
 try simp -implicitDefEqProofs (maxSteps := 999999) [-selQ_sel]
 obtain ⟨q, h_1, H⟩ := HS.bnd H
 refine Hid.mk (Tr.weak (s' := laws_markIntS_l0_S (a0, 0, a1)) (Wk.ofk [0] hk (by rfl) (by simp -implicitDefEqProofs [laws_markIntS_l0_S]) (by simp -implicitDefEqProofs [laws_markIntS_l0_S])) ?_)
 refine wp_loop_of (S := laws_markIntS_l0_S) (f := laws_markIntS_l0) (xt := laws_markIntS_l0_X) ?_ ?_ h_1 ?_
 ·intro q; rcases q with ⟨y8, y9⟩ <;> simp [laws_markIntS_l0_X]
 ·clear H h_1 q
  rintro ⟨x3, x4, x5⟩ o R hf hR
  have H : HS (laws_markIntS_l0 (x3, x4, x5)) o := hf
  clear hf; unfold laws_markIntS_l0 at H
  try simp -implicitDefEqProofs at H
  refine Tr.of_vc (cl := tabC []) (E := E0) [] tab_nil hm (by rw [hn]; decide +kernel) ?_
  try simp -implicitDefEqProofs (maxSteps := 999999) [-selQ_sel, laws_markIntS_l0_S]
  refine Hid.brV (fun h_2 => ?_) (fun h_2 => ?_)
  ·replace H := HS.cnd_t h_2 H
   try simp -implicitDefEqProofs (maxSteps := 999999) [-selQ_sel, h_2]
   have hr := (HS.some H).symm; subst hr
   exact Hid.mk ⟨(laws_markIntS_l0_X (x5, x3)).2, Wk.ofk [0] hk (by rfl) (by simp -implicitDefEqProofs [laws_markIntS_l0_X, h_2]) (by simp -implicitDefEqProofs [laws_markIntS_l0_X, h_2]), hR⟩
  ·replace H := HS.cnd_f h_2 H
   try simp -implicitDefEqProofs (maxSteps := 999999) [-selQ_sel, h_2]
   obtain ⟨v6, h_3, H⟩ := HS.bnd H
   have g_4 := idx_get h_3
   try simp -implicitDefEqProofs (maxSteps := 999999) [-selQ_sel, h_2, h_3, g_4]
   obtain ⟨l7, h_5, H⟩ := HS.nam H
   have m_6 := congrArg (List.map (AV.int .i64)) h_5
   have q_7 := congrArg List.length h_5
   simp -implicitDefEqProofs at m_6 q_7
   try simp only [q_7] at m_6
   try simp only [q_7] at g_4
   try simp -implicitDefEqProofs (maxSteps := 999999) [-selQ_sel, h_2, h_3, g_4, m_6, q_7]
   have hr := (HS.some H).symm; subst hr
   exact Hid.mk ⟨laws_markIntS_l0_S ((IntKind.i64.wrap (x3 + 1)), (IntKind.i64.wrap (x4 + 1)), l7), Wk.ofk [0] hk (by rfl) (by simp -implicitDefEqProofs [laws_markIntS_l0_S, h_2, h_3, g_4, m_6, q_7]) (by simp -implicitDefEqProofs [laws_markIntS_l0_S, h_2, h_3, g_4, m_6, q_7]), hR⟩
 ·obtain ⟨y8, y9⟩ := q
  try dsimp only at H
  try simp -implicitDefEqProofs (maxSteps := 999999) [-selQ_sel, laws_markIntS_l0_X]
  have hr := (HS.some H).symm; subst hr
  refine Hid.mk ⟨_, Wk.refl _, ?_⟩
  try simp -implicitDefEqProofs (maxSteps := 999999) [-selQ_sel]
theorem impl_copyNode_ok0 (hm : Try.prog.follows .mixedOrders = true) (k_impl_copyPath : Sound Try.prog 107 impl_copyPath_x) (k_slices_Clone_int : Sound Try.prog 108 slices_Clone_int_x) : Sound Try.prog 64 impl_copyNode_x := by
 refine xOf_sound fun q r h => ?_
 revert h; revert r; revert q; intro a0 r h
 refine fn_ok E0 hm Try.func64 rfl (by decide +kernel) (by rfl) fun Γ hn hk => ?_
 dsimp only [impl_copyNode_e, impl_copyNode_v]
 replace hn : Γ.n = 16 := hn
 replace hk : Γ.k = 0 := hk
 have H : HS (impl_copyNode a0) r := h
 clear h; unfold impl_copyNode at H
 try simp -implicitDefEqProofs at H
 refine Tr.of_vc (cl := tabC [(107, impl_copyPath_x), (108, slices_Clone_int_x)]) (E := E0) [] (tab_cons k_impl_copyPath (tab_cons k_slices_Clone_int tab_nil)) hm (by rw [hn]; decide +kernel) ?_
 try simp -implicitDefEqProofs +decide (maxSteps := 999999) [-selQ_sel, hokQ_of]
 obtain ⟨⟨w2, w3⟩, h_1, H⟩ := HS.bnd H
 dsimp only at H
 try simp -implicitDefEqProofs +decide (maxSteps := 999999) [-selQ_sel, hokQ_of, h_1]
 obtain ⟨⟨w5, w6⟩, h_2, H⟩ := HS.bnd H
 dsimp only at H
 try simp -implicitDefEqProofs +decide (maxSteps := 999999) [-selQ_sel, hokQ_of, h_1, h_2]
 obtain ⟨v7, h_3, H⟩ := HS.bnd H
 try simp -implicitDefEqProofs +decide (maxSteps := 999999) [-selQ_sel, hokQ_of, h_1, h_2, h_3]
 have hr := (HS.some H).symm; subst hr
 refine Hid.mk ⟨⟨[(2, AV.optr 0 0 31)], [(0, Ob.box [AV.int .i64 a0.id, AV.int .i64 a0.parent, AV.bool a0.group, AV.int .i64 a0.mat.a, AV.int .i64 a0.mat.b, AV.int .i64 a0.mat.c, AV.int .i64 a0.mat.d, AV.int .i64 a0.mat.e, AV.int .i64 a0.mat.f, AV.osl 1 0 (List.length w2) (List.length w2), AV.osl 2 0 (List.length w3) (List.length w3), AV.bool a0.even, AV.int .i64 a0.width, AV.osl 3 0 (List.length v7) (List.length v7), AV.int .i64 a0.paint.kind, AV.int .i64 a0.paint.first.r, AV.int .i64 a0.paint.first.g, AV.int .i64 a0.paint.first.b, AV.int .i64 a0.paint.first.a, AV.int .i64 a0.paint.last.r, AV.int .i64 a0.paint.last.g, AV.int .i64 a0.paint.last.b, AV.int .i64 a0.paint.last.a, AV.int .i64 a0.paint.from_.x, AV.int .i64 a0.paint.from_.y, AV.int .i64 a0.paint.to.x, AV.int .i64 a0.paint.to.y, AV.int .i64 a0.mode, AV.int .i64 a0.fade, AV.osl 4 0 (List.length w5) (List.length w5), AV.osl 5 0 (List.length w6) (List.length w6)]), (1, Ob.arr 1 (List.map (AV.int .i64) w2) false), (2, Ob.arr 2 (List.map ePoint w3) false), (3, Ob.arr 1 (List.map (AV.int .i64) v7) false), (4, Ob.arr 1 (List.map (AV.int .i64) w5) false), (5, Ob.arr 2 (List.map ePoint w6) false)], 6⟩, Wk.ofk [1, 2, 3, 6, 4, 5] hk (by rfl) (by simp -implicitDefEqProofs [h_1, h_2, h_3]) (by simp -implicitDefEqProofs [h_1, h_2, h_3]), ?_⟩
 try simp -implicitDefEqProofs +decide (maxSteps := 999999) [-selQ_sel, hokQ_of, h_1, h_2, h_3]
theorem laws_eqColor_ok0 (hm : Try.prog.follows .mixedOrders = true) : Sound Try.prog 110 laws_eqColor_x := by
 refine xOf_sound fun q r h => ?_
 obtain ⟨a0, a1⟩ := q
 refine fn_ok E0 hm Try.func110 rfl (by decide +kernel) (by rfl) fun Γ hn hk => ?_
 dsimp only [laws_eqColor_e, laws_eqColor_v]
 replace hn : Γ.n = 25 := hn
 replace hk : Γ.k = 0 := hk
 have H : HS (laws_eqColor a0 a1) r := h
 clear h; unfold laws_eqColor at H
 try simp -implicitDefEqProofs at H
 refine Tr.of_vc (cl := tabC []) (E := E0) [] tab_nil hm (by rw [hn]; decide +kernel) ?_
 try simp -implicitDefEqProofs (maxSteps := 999999) [-selQ_sel]
 refine Hid.brV (fun h_1 => ?_) (fun h_1 => ?_)
 ·replace H := HS.cnd_t h_1 H
  try simp -implicitDefEqProofs (maxSteps := 999999) [-selQ_sel, h_1]
  refine Hid.brV (fun h_2 => ?_) (fun h_2 => ?_)
  ·replace H := HS.cnd_t h_2 H
   try simp -implicitDefEqProofs (maxSteps := 999999) [-selQ_sel, h_1, h_2]
   refine Hid.brV (fun h_3 => ?_) (fun h_3 => ?_)
   ·replace H := HS.cnd_t h_3 H
    try simp -implicitDefEqProofs (maxSteps := 999999) [-selQ_sel, h_1, h_2, h_3]
    refine Hid.brV (fun h_4 => ?_) (fun h_4 => ?_)
    ·replace H := HS.cnd_t h_4 H
     try simp -implicitDefEqProofs (maxSteps := 999999) [-selQ_sel, h_1, h_2, h_3, h_4]
     have hr := (HS.some H).symm; subst hr
     refine Hid.mk ⟨_, Wk.refl _, ?_⟩
     try simp -implicitDefEqProofs (maxSteps := 999999) [-selQ_sel, h_1, h_2, h_3, h_4]
    ·replace H := HS.cnd_f h_4 H
     try simp -implicitDefEqProofs (maxSteps := 999999) [-selQ_sel, h_1, h_2, h_3, h_4]
     have hr := (HS.some H).symm; subst hr
     refine Hid.mk ⟨_, Wk.refl _, ?_⟩
     try simp -implicitDefEqProofs (maxSteps := 999999) [-selQ_sel, h_1, h_2, h_3, h_4]
   ·replace H := HS.cnd_f h_3 H
    try simp -implicitDefEqProofs (maxSteps := 999999) [-selQ_sel, h_1, h_2, h_3]
    have hr := (HS.some H).symm; subst hr
    refine Hid.mk ⟨_, Wk.refl _, ?_⟩
    try simp -implicitDefEqProofs (maxSteps := 999999) [-selQ_sel, h_1, h_2, h_3]
  ·replace H := HS.cnd_f h_2 H
   try simp -implicitDefEqProofs (maxSteps := 999999) [-selQ_sel, h_1, h_2]
   have hr := (HS.some H).symm; subst hr
   refine Hid.mk ⟨_, Wk.refl _, ?_⟩
   try simp -implicitDefEqProofs (maxSteps := 999999) [-selQ_sel, h_1, h_2]
 ·replace H := HS.cnd_f h_1 H
  try simp -implicitDefEqProofs (maxSteps := 999999) [-selQ_sel, h_1]
  have hr := (HS.some H).symm; subst hr
  refine Hid.mk ⟨_, Wk.refl _, ?_⟩
  try simp -implicitDefEqProofs (maxSteps := 999999) [-selQ_sel, h_1]
theorem laws_szPath_ok0 (hm : Try.prog.follows .mixedOrders = true) (k_laws_szIntS : Sound Try.prog 56 laws_szIntS_x) (k_laws_szPointS : Sound Try.prog 97 laws_szPointS_x) : Sound Try.prog 55 laws_szPath_x := by
 refine xOf_sound fun q r h => ?_
 obtain ⟨a0, a1⟩ := q
 refine fn_ok E0 hm Try.func55 rfl (by decide +kernel) (by rfl) fun Γ hn hk => ?_
 dsimp only [laws_szPath_e, laws_szPath_v]
 replace hn : Γ.n = 18 := hn
 replace hk : Γ.k = 0 := hk
 have H : HS (laws_szPath a0 a1) r := h
 clear h; unfold laws_szPath at H
 try simp -implicitDefEqProofs at H
 refine Tr.of_vc (cl := tabC [(56, laws_szIntS_x), (97, laws_szPointS_x)]) (E := E0) [] (tab_cons k_laws_szIntS (tab_cons k_laws_szPointS tab_nil)) hm (by rw [hn]; decide +kernel) ?_
 try simp -implicitDefEqProofs (maxSteps := 999999) [-selQ_sel]
 obtain ⟨v1, h_1, H⟩ := HS.bnd H
 try simp -implicitDefEqProofs (maxSteps := 999999) [-selQ_sel, h_1]
 refine Hid.brV (fun h_2 => ?_) (fun h_2 => ?_)
 ·replace H := HS.cnd_t h_2 H
  try simp -implicitDefEqProofs (maxSteps := 999999) [-selQ_sel, h_1, h_2]
  obtain ⟨v2, h_3, H⟩ := HS.bnd H
  try simp -implicitDefEqProofs (maxSteps := 999999) [-selQ_sel, h_1, h_2, h_3]
  refine Hid.brV (fun h_4 => ?_) (fun h_4 => ?_)
  ·replace H := HS.cnd_t h_4 H
   try simp -implicitDefEqProofs (maxSteps := 999999) [-selQ_sel, h_1, h_2, h_3, h_4]
   have hr := (HS.some H).symm; subst hr
   refine Hid.mk ⟨_, Wk.refl _, ?_⟩
   try simp -implicitDefEqProofs (maxSteps := 999999) [-selQ_sel, h_1, h_2, h_3, h_4]
  ·replace H := HS.cnd_f h_4 H
   try simp -implicitDefEqProofs (maxSteps := 999999) [-selQ_sel, h_1, h_2, h_3, h_4]
   have hr := (HS.some H).symm; subst hr
   refine Hid.mk ⟨_, Wk.refl _, ?_⟩
   try simp -implicitDefEqProofs (maxSteps := 999999) [-selQ_sel, h_1, h_2, h_3, h_4]
 ·replace H := HS.cnd_f h_2 H
  try simp -implicitDefEqProofs (maxSteps := 999999) [-selQ_sel, h_1, h_2]
  have hr := (HS.some H).symm; subst hr
  refine Hid.mk ⟨_, Wk.refl _, ?_⟩
  try simp -implicitDefEqProofs (maxSteps := 999999) [-selQ_sel, h_1, h_2]
theorem slices_Clone_Point_ok0 (hm : Try.prog.follows .mixedOrders = true) : Sound Try.prog 127 slices_Clone_Point_x := by
 refine xOf_sound fun q r h => ?_
 revert h; revert r; revert q; intro a0 r h
 refine fn_ok E0 hm Try.func127 rfl (by decide +kernel) (by rfl) fun Γ hn hk => ?_
 dsimp only [slices_Clone_Point_e, slices_Clone_Point_v]
 replace hn : Γ.n = 8 := hn
 replace hk : Γ.k = 0 := hk
 have H : HS (slices_Clone_Point a0) r := h
 clear h; unfold slices_Clone_Point at H
 obtain ⟨h_1, H⟩ := HS.chkP H
 have hr := (HS.some H).symm; subst hr
 refine Tr.of_vc (cl := tabC []) (E := E0) [1] tab_nil hm (by rw [hn]; decide +kernel) ?_
 simp -implicitDefEqProofs [-selQ_sel]
 refine Hid.mk (Tr_nil (E := E0) tab_nil (h1 := rfl) (hd1 := fun d h => by cases h; rw [hn]; decide) (ho := rfl) (hg := rfl) (hd := rfl) (hdn := by rw [hn]; decide) (hu := elt_37) (hx := rfl) fun b hb => ?_)
 refine Tr.of_vc (cl := tabC []) (E := E0) [] tab_nil hm (by rw [hn]; decide +kernel) ?_
 simp -implicitDefEqProofs [-selQ_sel, aft, putT]
 refine Hid.brV (fun h_2 => ?_) (fun h_2 => ?_)
 ·simp -implicitDefEqProofs [-selQ_sel]
  have h_3 := hb h_2; simp at h_3; subst h_3
  refine Hid.mk ⟨_, Wk.refl _, ?_⟩
  simp -implicitDefEqProofs [-selQ_sel, h_1]
  refine ⟨⟨[(2, AV.osl 0 0 0 0)], [(0, Ob.arr 2 (List.map ePoint []) false)], 1⟩, Wk.ofk [0] hk (by rfl) (by simp -implicitDefEqProofs) (by simp -implicitDefEqProofs), ?_⟩
  simp -implicitDefEqProofs [-selQ_sel, h_1]
 ·simp -implicitDefEqProofs [-selQ_sel]
  refine Hid.mk ⟨_, Wk.refl _, ?_⟩
  simp -implicitDefEqProofs [-selQ_sel, h_1]
  refine ⟨⟨[(2, AV.osl 0 0 (List.length a0) (List.length a0))], [(0, Ob.arr 2 (List.map ePoint a0) false)], 1⟩, Wk.ofk [0] hk (by rfl) (by simp -implicitDefEqProofs) (by simp -implicitDefEqProofs), ?_⟩
  simp -implicitDefEqProofs [-selQ_sel, h_1]
theorem laws_eqPoint_ok0 (hm : Try.prog.follows .mixedOrders = true) : Sound Try.prog 111 laws_eqPoint_x := by
 refine xOf_sound fun q r h => ?_
 obtain ⟨a0, a1⟩ := q
 refine fn_ok E0 hm Try.func111 rfl (by decide +kernel) (by rfl) fun Γ hn hk => ?_
 dsimp only [laws_eqPoint_e, laws_eqPoint_v]
 replace hn : Γ.n = 15 := hn
 replace hk : Γ.k = 0 := hk
 have H : HS (laws_eqPoint a0 a1) r := h
 clear h; unfold laws_eqPoint at H
 try simp -implicitDefEqProofs at H
 refine Tr.of_vc (cl := tabC []) (E := E0) [] tab_nil hm (by rw [hn]; decide +kernel) ?_
 try simp -implicitDefEqProofs (maxSteps := 999999) [-selQ_sel]
 refine Hid.brV (fun h_1 => ?_) (fun h_1 => ?_)
 ·replace H := HS.cnd_t h_1 H
  try simp -implicitDefEqProofs (maxSteps := 999999) [-selQ_sel, h_1]
  refine Hid.brV (fun h_2 => ?_) (fun h_2 => ?_)
  ·replace H := HS.cnd_t h_2 H
   try simp -implicitDefEqProofs (maxSteps := 999999) [-selQ_sel, h_1, h_2]
   have hr := (HS.some H).symm; subst hr
   refine Hid.mk ⟨_, Wk.refl _, ?_⟩
   try simp -implicitDefEqProofs (maxSteps := 999999) [-selQ_sel, h_1, h_2]
  ·replace H := HS.cnd_f h_2 H
   try simp -implicitDefEqProofs (maxSteps := 999999) [-selQ_sel, h_1, h_2]
   have hr := (HS.some H).symm; subst hr
   refine Hid.mk ⟨_, Wk.refl _, ?_⟩
   try simp -implicitDefEqProofs (maxSteps := 999999) [-selQ_sel, h_1, h_2]
 ·replace H := HS.cnd_f h_1 H
  try simp -implicitDefEqProofs (maxSteps := 999999) [-selQ_sel, h_1]
  have hr := (HS.some H).symm; subst hr
  refine Hid.mk ⟨_, Wk.refl _, ?_⟩
  try simp -implicitDefEqProofs (maxSteps := 999999) [-selQ_sel, h_1]
theorem laws_toPath_ok0 (hm : Try.prog.follows .mixedOrders = true) (k_laws_toIntS : Sound Try.prog 62 laws_toIntS_x) (k_laws_toPointS : Sound Try.prog 104 laws_toPointS_x) : Sound Try.prog 61 laws_toPath_x := by
 refine xOf_sound fun q r h => ?_
 revert h; revert r; revert q; intro a0 r h
 refine fn_ok E0 hm Try.func61 rfl (by decide +kernel) (by rfl) fun Γ hn hk => ?_
 dsimp only [laws_toPath_e, laws_toPath_v]
 replace hn : Γ.n = 13 := hn
 replace hk : Γ.k = 0 := hk
 have H : HS (laws_toPath a0) r := h
 clear h; unfold laws_toPath at H
 try simp -implicitDefEqProofs at H
 refine Tr.of_vc (cl := tabC [(62, laws_toIntS_x), (104, laws_toPointS_x)]) (E := E0) [] (tab_cons k_laws_toIntS (tab_cons k_laws_toPointS tab_nil)) hm (by rw [hn]; decide +kernel) ?_
 try simp -implicitDefEqProofs (maxSteps := 999999) [-selQ_sel]
 obtain ⟨v1, h_1, H⟩ := HS.bnd H
 try simp -implicitDefEqProofs (maxSteps := 999999) [-selQ_sel, h_1]
 obtain ⟨v2, h_2, H⟩ := HS.bnd H
 try simp -implicitDefEqProofs (maxSteps := 999999) [-selQ_sel, h_1, h_2]
 have hr := (HS.some H).symm; subst hr
 refine Hid.mk ⟨⟨[(2, AV.optr 0 0 2)], [(0, Ob.box [AV.osl 1 0 (List.length v1) (List.length v1), AV.osl 2 0 (List.length v2) (List.length v2)]), (1, Ob.arr 1 (List.map (AV.int .i64) v1) false), (2, Ob.arr 2 (List.map ePoint v2) false)], 3⟩, Wk.ofk [1, 3, 4] hk (by rfl) (by simp -implicitDefEqProofs [h_1, h_2]) (by simp -implicitDefEqProofs [h_1, h_2]), ?_⟩
 try simp -implicitDefEqProofs (maxSteps := 999999) [-selQ_sel, h_1, h_2]
theorem laws_szScene_ok0 (hm : Try.prog.follows .mixedOrders = true) (k_laws_szNodeS : Sound Try.prog 54 laws_szNodeS_x) : Sound Try.prog 16 laws_szScene_x := by
 refine xOf_sound fun q r h => ?_
 obtain ⟨a0, a1⟩ := q
 refine fn_ok E0 hm Try.func16 rfl (by decide +kernel) (by rfl) fun Γ hn hk => ?_
 dsimp only [laws_szScene_e, laws_szScene_v]
 replace hn : Γ.n = 12 := hn
 replace hk : Γ.k = 0 := hk
 have H : HS (laws_szScene a0 a1) r := h
 clear h; unfold laws_szScene at H
 try simp -implicitDefEqProofs at H
 refine Tr.of_vc (cl := tabC [(54, laws_szNodeS_x)]) (E := E0) [] (tab_cons k_laws_szNodeS tab_nil) hm (by rw [hn]; decide +kernel) ?_
 try simp -implicitDefEqProofs (maxSteps := 999999) [-selQ_sel]
 obtain ⟨v1, h_1, H⟩ := HS.bnd H
 try simp -implicitDefEqProofs (maxSteps := 999999) [-selQ_sel, h_1]
 refine Hid.brV (fun h_2 => ?_) (fun h_2 => ?_)
 ·replace H := HS.cnd_t h_2 H
  try simp -implicitDefEqProofs (maxSteps := 999999) [-selQ_sel, h_1, h_2]
  have hr := (HS.some H).symm; subst hr
  refine Hid.mk ⟨_, Wk.refl _, ?_⟩
  try simp -implicitDefEqProofs (maxSteps := 999999) [-selQ_sel, h_1, h_2]
 ·replace H := HS.cnd_f h_2 H
  try simp -implicitDefEqProofs (maxSteps := 999999) [-selQ_sel, h_1, h_2]
  have hr := (HS.some H).symm; subst hr
  refine Hid.mk ⟨_, Wk.refl _, ?_⟩
  try simp -implicitDefEqProofs (maxSteps := 999999) [-selQ_sel, h_1, h_2]
theorem laws_toScene_ok0 (hm : Try.prog.follows .mixedOrders = true) (k_laws_toNodeS : Sound Try.prog 59 laws_toNodeS_x) : Sound Try.prog 19 laws_toScene_x := by
 refine xOf_sound fun q r h => ?_
 revert h; revert r; revert q; intro a0 r h
 refine fn_ok E0 hm Try.func19 rfl (by decide +kernel) (by rfl) fun Γ hn hk => ?_
 dsimp only [laws_toScene_e, laws_toScene_v]
 replace hn : Γ.n = 9 := hn
 replace hk : Γ.k = 0 := hk
 have H : HS (laws_toScene a0) r := h
 clear h; unfold laws_toScene at H
 try simp -implicitDefEqProofs at H
 refine Tr.of_vc (cl := tabC [(59, laws_toNodeS_x)]) (E := E0) [] (tab_cons k_laws_toNodeS tab_nil) hm (by rw [hn]; decide +kernel) ?_
 try simp -implicitDefEqProofs (maxSteps := 999999) [-selQ_sel]
 obtain ⟨v1, h_1, H⟩ := HS.bnd H
 try simp -implicitDefEqProofs (maxSteps := 999999) [-selQ_sel, h_1]
 have hr := (HS.some H).symm; subst hr
 refine Hid.mk ⟨⟨[(2, AV.optr 0 0 1)], [(0, Ob.box [AV.osl 1 0 (List.length v1) (List.length v1)]), (1, Ob.nar 31 (List.map eNode v1) [0, 0, 0, 0, 0, 0, 0, 0, 0, 1, 2, 0, 0, 1, 0, 0, 0, 0, 0, 0, 0, 0, 0, 0, 0, 0, 0, 0, 0, 1, 2])], 2⟩, Wk.ofk [1, 3] hk (by rfl) (by simp -implicitDefEqProofs [h_1]) (by simp -implicitDefEqProofs [h_1]), ?_⟩
 try simp -implicitDefEqProofs (maxSteps := 999999) [-selQ_sel, h_1]
theorem spec_l15NoPath_ok0 (hm : Try.prog.follows .mixedOrders = true) : Sound Try.prog 101 spec_l15NoPath_x := by
 refine xOf_sound fun q r h => ?_
 revert h; revert r; revert q; intro a0 r h
 refine fn_ok E0 hm Try.func101 rfl (by decide +kernel) (by rfl) fun Γ hn hk => ?_
 dsimp only [spec_l15NoPath_e, spec_l15NoPath_v]
 replace hn : Γ.n = 13 := hn
 replace hk : Γ.k = 0 := hk
 have H : HS (spec_l15NoPath a0) r := h
 clear h; unfold spec_l15NoPath at H
 try simp -implicitDefEqProofs at H
 refine Tr.of_vc (cl := tabC []) (E := E0) [] tab_nil hm (by rw [hn]; decide +kernel) ?_
 try simp -implicitDefEqProofs (maxSteps := 999999) [-selQ_sel]
 refine Hid.selQ (fun h_1 => ?_) (fun h_1 => ?_)
 ·replace H := HS.cnd_t h_1 H
  try simp -implicitDefEqProofs (maxSteps := 999999) [-selQ_sel, h_1]
  have hr := (HS.some H).symm; subst hr
  refine Hid.mk ⟨_, Wk.refl _, ?_⟩
  try simp -implicitDefEqProofs (maxSteps := 999999) [-selQ_sel, h_1]
 ·replace H := HS.cnd_f h_1 H
  try simp -implicitDefEqProofs (maxSteps := 999999) [-selQ_sel, h_1]
  have hr := (HS.some H).symm; subst hr
  refine Hid.mk ⟨_, Wk.refl _, ?_⟩
  try simp -implicitDefEqProofs (maxSteps := 999999) [-selQ_sel, h_1]
theorem spec_l01In_ok0 (hm : Try.prog.follows .mixedOrders = true) : Sound Try.prog 87 spec_l01In_x := by
 refine xOf_sound fun q r h => ?_
 obtain ⟨a0, a1, a2⟩ := q
 refine fn_ok E0 hm Try.func87 rfl (by decide +kernel) (by rfl) fun Γ hn hk => ?_
 dsimp only [spec_l01In_e, spec_l01In_v]
 replace hn : Γ.n = 15 := hn
 replace hk : Γ.k = 0 := hk
 have H : HS (spec_l01In a0 a1 a2) r := h
 clear h; unfold spec_l01In at H
 try simp -implicitDefEqProofs at H
 refine Tr.of_vc (cl := tabC []) (E := E0) [] tab_nil hm (by rw [hn]; decide +kernel) ?_
 try simp -implicitDefEqProofs (maxSteps := 999999) [-selQ_sel]
 refine Hid.selQ (fun h_1 => ?_) (fun h_1 => ?_)
 ·replace H := HS.cnd_t h_1 H
  try simp -implicitDefEqProofs (maxSteps := 999999) [-selQ_sel, h_1]
  have hr := (HS.some H).symm; subst hr
  refine Hid.mk ⟨_, Wk.refl _, ?_⟩
  try simp -implicitDefEqProofs (maxSteps := 999999) [-selQ_sel, h_1]
 ·replace H := HS.cnd_f h_1 H
  try simp -implicitDefEqProofs (maxSteps := 999999) [-selQ_sel, h_1]
  have hr := (HS.some H).symm; subst hr
  refine Hid.mk ⟨_, Wk.refl _, ?_⟩
  try simp -implicitDefEqProofs (maxSteps := 999999) [-selQ_sel, h_1]
theorem impl_isMode_ok0 (hm : Try.prog.follows .mixedOrders = true) (k_impl_inRange : Sound Try.prog 41 impl_inRange_x) : Sound Try.prog 92 impl_isMode_x := by
 refine xOf_sound fun q r h => ?_
 revert h; revert r; revert q; intro a0 r h
 refine fn_ok E0 hm Try.func92 rfl (by decide +kernel) (by rfl) fun Γ hn hk => ?_
 dsimp only [impl_isMode_e, impl_isMode_v]
 replace hn : Γ.n = 5 := hn
 replace hk : Γ.k = 0 := hk
 have H : HS (impl_isMode a0) r := h
 clear h; unfold impl_isMode at H
 try simp -implicitDefEqProofs at H
 refine Tr.of_vc (cl := tabC [(41, impl_inRange_x)]) (E := E0) [] (tab_cons k_impl_inRange tab_nil) hm (by rw [hn]; decide +kernel) ?_
 try simp -implicitDefEqProofs (maxSteps := 999999) [-selQ_sel]
 obtain ⟨v1, h_1, H⟩ := HS.bnd H
 try simp -implicitDefEqProofs (maxSteps := 999999) [-selQ_sel, h_1]
 have hr := (HS.some H).symm; subst hr
 refine Hid.mk ⟨_, Wk.refl _, ?_⟩
 try simp -implicitDefEqProofs (maxSteps := 999999) [-selQ_sel, h_1]
theorem impl_isFar_ok0 (hm : Try.prog.follows .mixedOrders = true) (k_impl_inRange : Sound Try.prog 41 impl_inRange_x) : Sound Try.prog 119 impl_isFar_x := by
 refine xOf_sound fun q r h => ?_
 revert h; revert r; revert q; intro a0 r h
 refine fn_ok E0 hm Try.func119 rfl (by decide +kernel) (by rfl) fun Γ hn hk => ?_
 dsimp only [impl_isFar_e, impl_isFar_v]
 replace hn : Γ.n = 5 := hn
 replace hk : Γ.k = 0 := hk
 have H : HS (impl_isFar a0) r := h
 clear h; unfold impl_isFar at H
 try simp -implicitDefEqProofs at H
 refine Tr.of_vc (cl := tabC [(41, impl_inRange_x)]) (E := E0) [] (tab_cons k_impl_inRange tab_nil) hm (by rw [hn]; decide +kernel) ?_
 try simp -implicitDefEqProofs (maxSteps := 999999) [-selQ_sel]
 obtain ⟨v1, h_1, H⟩ := HS.bnd H
 try simp -implicitDefEqProofs (maxSteps := 999999) [-selQ_sel, h_1]
 have hr := (HS.some H).symm; subst hr
 refine Hid.mk ⟨_, Wk.refl _, ?_⟩
 try simp -implicitDefEqProofs (maxSteps := 999999) [-selQ_sel, h_1]
theorem laws_toMat_ok0 (hm : Try.prog.follows .mixedOrders = true) : Sound Try.prog 60 laws_toMat_x := by
 refine xOf_sound fun q r h => ?_
 revert h; revert r; revert q; intro a0 r h
 refine fn_ok E0 hm Try.func60 rfl (by decide +kernel) (by rfl) fun Γ hn hk => ?_
 dsimp only [laws_toMat_e, laws_toMat_v]
 replace hn : Γ.n = 23 := hn
 replace hk : Γ.k = 0 := hk
 have H : HS (laws_toMat a0) r := h
 clear h; unfold laws_toMat at H
 try simp -implicitDefEqProofs at H
 refine Tr.of_vc (cl := tabC []) (E := E0) [] tab_nil hm (by rw [hn]; decide +kernel) ?_
 try simp -implicitDefEqProofs (maxSteps := 999999) [-selQ_sel]
 have hr := (HS.some H).symm; subst hr
 refine Hid.mk ⟨_, Wk.refl _, ?_⟩
 try simp -implicitDefEqProofs (maxSteps := 999999) [-selQ_sel]
end Go.Proofs.Ytapchldnmkfkoab.Am
