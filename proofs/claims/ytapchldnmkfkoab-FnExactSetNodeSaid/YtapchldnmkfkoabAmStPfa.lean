import Derived.Test.YtapchldnmkfkoabAmStMo
set_option linter.unusedVariables false
set_option linter.unusedSimpArgs false
set_option linter.unusedSectionVars false
namespace Go.Proofs.Ytapchldnmkfkoab.Am
open Go Go.Proofs
set_option maxRecDepth 100000
set_option linter.unusedSimpArgs false
set_option linter.unusedVariables false
set_option maxHeartbeats 4000000
theorem laws_heldNodeS_ok0 (hm : Try.prog.follows .mixedOrders = true) (k_laws_heldIntS : Sound Try.prog 113 laws_heldIntS_x) (k_laws_heldPointS : Sound Try.prog 114 laws_heldPointS_x) : Sound Try.prog 73 laws_heldNodeS_x := by
 refine xOf_sound fun q r h => ?_
 obtain ⟨a0, a1⟩ := q
 refine fn_ok E0 hm Try.func73 rfl (by decide +kernel) (by rfl) fun Γ hn hk => ?_
 dsimp only [laws_heldNodeS_e, laws_heldNodeS_v]
 replace hn : Γ.n = 331 := hn
 replace hk : Γ.k = 0 := hk
 have H : HS (laws_heldNodeS a0 a1) r := h
 clear h; unfold laws_heldNodeS at H
 try simp -implicitDefEqProofs at H
 refine Tr.of_vc (cl := tabC [(113, laws_heldIntS_x), (114, laws_heldPointS_x)]) (E := E0) [] (tab_cons k_laws_heldIntS (tab_cons k_laws_heldPointS tab_nil)) hm (by rw [hn]; decide +kernel) ?_
 try simp -implicitDefEqProofs (maxSteps := 999999) [-selQ_sel]
 obtain ⟨q, h_1, H⟩ := HS.bnd H
 refine Hid.mk (Tr.weak (s' := (laws_heldNodeS_l0_S a0) (a1, 0)) (Wk.ofk [] hk (by rfl) (by simp -implicitDefEqProofs [laws_heldNodeS_l0_S]) (by simp -implicitDefEqProofs [laws_heldNodeS_l0_S])) ?_)
 refine wp_loop_of (S := (laws_heldNodeS_l0_S a0)) (f := (laws_heldNodeS_l0 a0)) (xt := (laws_heldNodeS_l0_X a0)) ?_ ?_ h_1 ?_
 ·intro q; rcases q with y15 | ⟨⟩ <;> simp [laws_heldNodeS_l0_X]
 ·clear H h_1 q
  rintro ⟨x7, x8⟩ o R hf hR
  have H : HS (laws_heldNodeS_l0 a0 (x7, x8)) o := hf
  clear hf; unfold laws_heldNodeS_l0 at H
  try simp -implicitDefEqProofs at H
  refine Tr.of_vc (cl := tabC [(113, laws_heldIntS_x), (114, laws_heldPointS_x)]) (E := E0) [] (tab_cons k_laws_heldIntS (tab_cons k_laws_heldPointS tab_nil)) hm (by rw [hn]; decide +kernel) ?_
  try simp -implicitDefEqProofs (maxSteps := 999999) [-selQ_sel, laws_heldNodeS_l0_S]
  refine Hid.brV (fun h_2 => ?_) (fun h_2 => ?_)
  ·replace H := HS.cnd_t h_2 H
   try simp -implicitDefEqProofs (maxSteps := 999999) [-selQ_sel, h_2]
   have hr := (HS.some H).symm; subst hr
   exact Hid.mk ⟨(laws_heldNodeS_l0_X a0 (.inl x7)).2, Wk.ofk [] hk (by rfl) (by simp -implicitDefEqProofs [laws_heldNodeS_l0_X, h_2]) (by simp -implicitDefEqProofs [laws_heldNodeS_l0_X, h_2]), hR⟩
  ·replace H := HS.cnd_f h_2 H
   try simp -implicitDefEqProofs (maxSteps := 999999) [-selQ_sel, h_2]
   obtain ⟨v9, h_3, H⟩ := HS.bnd H
   try simp -implicitDefEqProofs (maxSteps := 999999) [-selQ_sel, h_2, h_3]
   refine Hid.brV (fun h_4 => ?_) (fun h_4 => ?_)
   ·replace H := HS.cnd_t h_4 H
    try simp -implicitDefEqProofs (maxSteps := 999999) [-selQ_sel, h_2, h_3, h_4]
    refine Hid.brV (fun h_5 => ?_) (fun h_5 => ?_)
    ·replace H := HS.cnd_t h_5 H
     try simp -implicitDefEqProofs (maxSteps := 999999) [-selQ_sel, h_2, h_3, h_4, h_5]
     refine Hid.brV (fun h_6 => ?_) (fun h_6 => ?_)
     ·replace H := HS.cnd_t h_6 H
      try simp -implicitDefEqProofs (maxSteps := 999999) [-selQ_sel, h_2, h_3, h_4, h_5, h_6]
      refine Hid.brV (fun h_7 => ?_) (fun h_7 => ?_)
      ·replace H := HS.cnd_t h_7 H
       try simp -implicitDefEqProofs (maxSteps := 999999) [-selQ_sel, h_2, h_3, h_4, h_5, h_6, h_7]
       refine Hid.brV (fun h_8 => ?_) (fun h_8 => ?_)
       ·replace H := HS.cnd_t h_8 H
        try simp -implicitDefEqProofs (maxSteps := 999999) [-selQ_sel, h_2, h_3, h_4, h_5, h_6, h_7, h_8]
        refine Hid.brV (fun h_9 => ?_) (fun h_9 => ?_)
        ·replace H := HS.cnd_t h_9 H
         try simp -implicitDefEqProofs (maxSteps := 999999) [-selQ_sel, h_2, h_3, h_4, h_5, h_6, h_7, h_8, h_9]
         refine Hid.brV (fun h_10 => ?_) (fun h_10 => ?_)
         ·replace H := HS.cnd_t h_10 H
          try simp -implicitDefEqProofs (maxSteps := 999999) [-selQ_sel, h_2, h_3, h_4, h_5, h_6, h_7, h_8, h_9, h_10]
          refine Hid.brV (fun h_11 => ?_) (fun h_11 => ?_)
          ·replace H := HS.cnd_t h_11 H
           try simp -implicitDefEqProofs (maxSteps := 999999) [-selQ_sel, h_2, h_3, h_4, h_5, h_6, h_7, h_8, h_9, h_10, h_11]
           refine Hid.brV (fun h_12 => ?_) (fun h_12 => ?_)
           ·replace H := HS.cnd_t h_12 H
            try simp -implicitDefEqProofs (maxSteps := 999999) [-selQ_sel, h_2, h_3, h_4, h_5, h_6, h_7, h_8, h_9, h_10, h_11, h_12]
            obtain ⟨v10, h_13, H⟩ := HS.bnd H
            try simp -implicitDefEqProofs (maxSteps := 999999) [-selQ_sel, h_2, h_3, h_4, h_5, h_6, h_7, h_8, h_9, h_10, h_11, h_12, h_13]
            refine Hid.brV (fun h_14 => ?_) (fun h_14 => ?_)
            ·replace H := HS.cnd_t h_14 H
             try simp -implicitDefEqProofs (maxSteps := 999999) [-selQ_sel, h_2, h_3, h_4, h_5, h_6, h_7, h_8, h_9, h_10, h_11, h_12, h_13, h_14]
             obtain ⟨v11, h_15, H⟩ := HS.bnd H
             try simp -implicitDefEqProofs (maxSteps := 999999) [-selQ_sel, h_2, h_3, h_4, h_5, h_6, h_7, h_8, h_9, h_10, h_11, h_12, h_13, h_14, h_15]
             refine Hid.brV (fun h_16 => ?_) (fun h_16 => ?_)
             ·replace H := HS.cnd_t h_16 H
              try simp -implicitDefEqProofs (maxSteps := 999999) [-selQ_sel, h_2, h_3, h_4, h_5, h_6, h_7, h_8, h_9, h_10, h_11, h_12, h_13, h_14, h_15, h_16]
              refine Hid.brV (fun h_17 => ?_) (fun h_17 => ?_)
              ·replace H := HS.cnd_t h_17 H
               try simp -implicitDefEqProofs (maxSteps := 999999) [-selQ_sel, h_2, h_3, h_4, h_5, h_6, h_7, h_8, h_9, h_10, h_11, h_12, h_13, h_14, h_15, h_16, h_17]
               refine Hid.brV (fun h_18 => ?_) (fun h_18 => ?_)
               ·replace H := HS.cnd_t h_18 H
                try simp -implicitDefEqProofs (maxSteps := 999999) [-selQ_sel, h_2, h_3, h_4, h_5, h_6, h_7, h_8, h_9, h_10, h_11, h_12, h_13, h_14, h_15, h_16, h_17, h_18]
                obtain ⟨v12, h_19, H⟩ := HS.bnd H
                try simp -implicitDefEqProofs (maxSteps := 999999) [-selQ_sel, h_2, h_3, h_4, h_5, h_6, h_7, h_8, h_9, h_10, h_11, h_12, h_13, h_14, h_15, h_16, h_17, h_18, h_19]
                refine Hid.brV (fun h_20 => ?_) (fun h_20 => ?_)
                ·replace H := HS.cnd_t h_20 H
                 try simp -implicitDefEqProofs (maxSteps := 999999) [-selQ_sel, h_2, h_3, h_4, h_5, h_6, h_7, h_8, h_9, h_10, h_11, h_12, h_13, h_14, h_15, h_16, h_17, h_18, h_19, h_20]
                 refine Hid.brV (fun h_21 => ?_) (fun h_21 => ?_)
                 ·replace H := HS.cnd_t h_21 H
                  try simp -implicitDefEqProofs (maxSteps := 999999) [-selQ_sel, h_2, h_3, h_4, h_5, h_6, h_7, h_8, h_9, h_10, h_11, h_12, h_13, h_14, h_15, h_16, h_17, h_18, h_19, h_20, h_21]
                  refine Hid.brV (fun h_22 => ?_) (fun h_22 => ?_)
                  ·replace H := HS.cnd_t h_22 H
                   try simp -implicitDefEqProofs (maxSteps := 999999) [-selQ_sel, h_2, h_3, h_4, h_5, h_6, h_7, h_8, h_9, h_10, h_11, h_12, h_13, h_14, h_15, h_16, h_17, h_18, h_19, h_20, h_21, h_22]
                   refine Hid.brV (fun h_23 => ?_) (fun h_23 => ?_)
                   ·replace H := HS.cnd_t h_23 H
                    try simp -implicitDefEqProofs (maxSteps := 999999) [-selQ_sel, h_2, h_3, h_4, h_5, h_6, h_7, h_8, h_9, h_10, h_11, h_12, h_13, h_14, h_15, h_16, h_17, h_18, h_19, h_20, h_21, h_22, h_23]
                    refine Hid.brV (fun h_24 => ?_) (fun h_24 => ?_)
                    ·replace H := HS.cnd_t h_24 H
                     try simp -implicitDefEqProofs (maxSteps := 999999) [-selQ_sel, h_2, h_3, h_4, h_5, h_6, h_7, h_8, h_9, h_10, h_11, h_12, h_13, h_14, h_15, h_16, h_17, h_18, h_19, h_20, h_21, h_22, h_23, h_24]
                     refine Hid.brV (fun h_25 => ?_) (fun h_25 => ?_)
                     ·replace H := HS.cnd_t h_25 H
                      try simp -implicitDefEqProofs (maxSteps := 999999) [-selQ_sel, h_2, h_3, h_4, h_5, h_6, h_7, h_8, h_9, h_10, h_11, h_12, h_13, h_14, h_15, h_16, h_17, h_18, h_19, h_20, h_21, h_22, h_23, h_24, h_25]
                      refine Hid.brV (fun h_26 => ?_) (fun h_26 => ?_)
                      ·replace H := HS.cnd_t h_26 H
                       try simp -implicitDefEqProofs (maxSteps := 999999) [-selQ_sel, h_2, h_3, h_4, h_5, h_6, h_7, h_8, h_9, h_10, h_11, h_12, h_13, h_14, h_15, h_16, h_17, h_18, h_19, h_20, h_21, h_22, h_23, h_24, h_25, h_26]
                       refine Hid.brV (fun h_27 => ?_) (fun h_27 => ?_)
                       ·replace H := HS.cnd_t h_27 H
                        try simp -implicitDefEqProofs (maxSteps := 999999) [-selQ_sel, h_2, h_3, h_4, h_5, h_6, h_7, h_8, h_9, h_10, h_11, h_12, h_13, h_14, h_15, h_16, h_17, h_18, h_19, h_20, h_21, h_22, h_23, h_24, h_25, h_26, h_27]
                        refine Hid.brV (fun h_28 => ?_) (fun h_28 => ?_)
                        ·replace H := HS.cnd_t h_28 H
                         try simp -implicitDefEqProofs (maxSteps := 999999) [-selQ_sel, h_2, h_3, h_4, h_5, h_6, h_7, h_8, h_9, h_10, h_11, h_12, h_13, h_14, h_15, h_16, h_17, h_18, h_19, h_20, h_21, h_22, h_23, h_24, h_25, h_26, h_27, h_28]
                         refine Hid.brV (fun h_29 => ?_) (fun h_29 => ?_)
                         ·replace H := HS.cnd_t h_29 H
                          try simp -implicitDefEqProofs (maxSteps := 999999) [-selQ_sel, h_2, h_3, h_4, h_5, h_6, h_7, h_8, h_9, h_10, h_11, h_12, h_13, h_14, h_15, h_16, h_17, h_18, h_19, h_20, h_21, h_22, h_23, h_24, h_25, h_26, h_27, h_28, h_29]
                          refine Hid.brV (fun h_30 => ?_) (fun h_30 => ?_)
                          ·replace H := HS.cnd_t h_30 H
                           try simp -implicitDefEqProofs (maxSteps := 999999) [-selQ_sel, h_2, h_3, h_4, h_5, h_6, h_7, h_8, h_9, h_10, h_11, h_12, h_13, h_14, h_15, h_16, h_17, h_18, h_19, h_20, h_21, h_22, h_23, h_24, h_25, h_26, h_27, h_28, h_29, h_30]
                           refine Hid.brV (fun h_31 => ?_) (fun h_31 => ?_)
                           ·replace H := HS.cnd_t h_31 H
                            try simp -implicitDefEqProofs (maxSteps := 999999) [-selQ_sel, h_2, h_3, h_4, h_5, h_6, h_7, h_8, h_9, h_10, h_11, h_12, h_13, h_14, h_15, h_16, h_17, h_18, h_19, h_20, h_21, h_22, h_23, h_24, h_25, h_26, h_27, h_28, h_29, h_30, h_31]
                            refine Hid.brV (fun h_32 => ?_) (fun h_32 => ?_)
                            ·replace H := HS.cnd_t h_32 H
                             try simp -implicitDefEqProofs (maxSteps := 999999) [-selQ_sel, h_2, h_3, h_4, h_5, h_6, h_7, h_8, h_9, h_10, h_11, h_12, h_13, h_14, h_15, h_16, h_17, h_18, h_19, h_20, h_21, h_22, h_23, h_24, h_25, h_26, h_27, h_28, h_29, h_30, h_31, h_32]
                             refine Hid.brV (fun h_33 => ?_) (fun h_33 => ?_)
                             ·replace H := HS.cnd_t h_33 H
                              try simp -implicitDefEqProofs (maxSteps := 999999) [-selQ_sel, h_2, h_3, h_4, h_5, h_6, h_7, h_8, h_9, h_10, h_11, h_12, h_13, h_14, h_15, h_16, h_17, h_18, h_19, h_20, h_21, h_22, h_23, h_24, h_25, h_26, h_27, h_28, h_29, h_30, h_31, h_32, h_33]
                              refine Hid.brV (fun h_34 => ?_) (fun h_34 => ?_)
                              ·replace H := HS.cnd_t h_34 H
                               try simp -implicitDefEqProofs (maxSteps := 999999) [-selQ_sel, h_2, h_3, h_4, h_5, h_6, h_7, h_8, h_9, h_10, h_11, h_12, h_13, h_14, h_15, h_16, h_17, h_18, h_19, h_20, h_21, h_22, h_23, h_24, h_25, h_26, h_27, h_28, h_29, h_30, h_31, h_32, h_33, h_34]
                               refine Hid.brV (fun h_35 => ?_) (fun h_35 => ?_)
                               ·replace H := HS.cnd_t h_35 H
                                try simp -implicitDefEqProofs (maxSteps := 999999) [-selQ_sel, h_2, h_3, h_4, h_5, h_6, h_7, h_8, h_9, h_10, h_11, h_12, h_13, h_14, h_15, h_16, h_17, h_18, h_19, h_20, h_21, h_22, h_23, h_24, h_25, h_26, h_27, h_28, h_29, h_30, h_31, h_32, h_33, h_34, h_35]
                                obtain ⟨v13, h_36, H⟩ := HS.bnd H
                                try simp -implicitDefEqProofs (maxSteps := 999999) [-selQ_sel, h_2, h_3, h_4, h_5, h_6, h_7, h_8, h_9, h_10, h_11, h_12, h_13, h_14, h_15, h_16, h_17, h_18, h_19, h_20, h_21, h_22, h_23, h_24, h_25, h_26, h_27, h_28, h_29, h_30, h_31, h_32, h_33, h_34, h_35, h_36]
                                refine Hid.brV (fun h_37 => ?_) (fun h_37 => ?_)
                                ·replace H := HS.cnd_t h_37 H
                                 try simp -implicitDefEqProofs (maxSteps := 999999) [-selQ_sel, h_2, h_3, h_4, h_5, h_6, h_7, h_8, h_9, h_10, h_11, h_12, h_13, h_14, h_15, h_16, h_17, h_18, h_19, h_20, h_21, h_22, h_23, h_24, h_25, h_26, h_27, h_28, h_29, h_30, h_31, h_32, h_33, h_34, h_35, h_36, h_37]
                                 obtain ⟨v14, h_38, H⟩ := HS.bnd H
                                 try simp -implicitDefEqProofs (maxSteps := 999999) [-selQ_sel, h_2, h_3, h_4, h_5, h_6, h_7, h_8, h_9, h_10, h_11, h_12, h_13, h_14, h_15, h_16, h_17, h_18, h_19, h_20, h_21, h_22, h_23, h_24, h_25, h_26, h_27, h_28, h_29, h_30, h_31, h_32, h_33, h_34, h_35, h_36, h_37, h_38]
                                 refine Hid.brV (fun h_39 => ?_) (fun h_39 => ?_)
                                 ·replace H := HS.cnd_t h_39 H
                                  try simp -implicitDefEqProofs (maxSteps := 999999) [-selQ_sel, h_2, h_3, h_4, h_5, h_6, h_7, h_8, h_9, h_10, h_11, h_12, h_13, h_14, h_15, h_16, h_17, h_18, h_19, h_20, h_21, h_22, h_23, h_24, h_25, h_26, h_27, h_28, h_29, h_30, h_31, h_32, h_33, h_34, h_35, h_36, h_37, h_38, h_39]
                                  have hr := (HS.some H).symm; subst hr
                                  exact Hid.mk ⟨laws_heldNodeS_l0_S a0 (v14, (IntKind.i64.wrap (x8 + 1))), Wk.ofk [] hk (by rfl) (by simp -implicitDefEqProofs [laws_heldNodeS_l0_S, h_2, h_3, h_4, h_5, h_6, h_7, h_8, h_9, h_10, h_11, h_12, h_13, h_14, h_15, h_16, h_17, h_18, h_19, h_20, h_21, h_22, h_23, h_24, h_25, h_26, h_27, h_28, h_29, h_30, h_31, h_32, h_33, h_34, h_35, h_36, h_37, h_38, h_39]) (by simp -implicitDefEqProofs [laws_heldNodeS_l0_S, h_2, h_3, h_4, h_5, h_6, h_7, h_8, h_9, h_10, h_11, h_12, h_13, h_14, h_15, h_16, h_17, h_18, h_19, h_20, h_21, h_22, h_23, h_24, h_25, h_26, h_27, h_28, h_29, h_30, h_31, h_32, h_33, h_34, h_35, h_36, h_37, h_38, h_39]), hR⟩
                                 ·replace H := HS.cnd_f h_39 H
                                  try simp -implicitDefEqProofs (maxSteps := 999999) [-selQ_sel, h_2, h_3, h_4, h_5, h_6, h_7, h_8, h_9, h_10, h_11, h_12, h_13, h_14, h_15, h_16, h_17, h_18, h_19, h_20, h_21, h_22, h_23, h_24, h_25, h_26, h_27, h_28, h_29, h_30, h_31, h_32, h_33, h_34, h_35, h_36, h_37, h_38, h_39]
                                  have hr := (HS.some H).symm; subst hr
                                  exact Hid.mk ⟨(laws_heldNodeS_l0_X a0 (.inr ())).2, Wk.ofk [] hk (by rfl) (by simp -implicitDefEqProofs [laws_heldNodeS_l0_X, h_2, h_3, h_4, h_5, h_6, h_7, h_8, h_9, h_10, h_11, h_12, h_13, h_14, h_15, h_16, h_17, h_18, h_19, h_20, h_21, h_22, h_23, h_24, h_25, h_26, h_27, h_28, h_29, h_30, h_31, h_32, h_33, h_34, h_35, h_36, h_37, h_38, h_39]) (by simp -implicitDefEqProofs [laws_heldNodeS_l0_X, h_2, h_3, h_4, h_5, h_6, h_7, h_8, h_9, h_10, h_11, h_12, h_13, h_14, h_15, h_16, h_17, h_18, h_19, h_20, h_21, h_22, h_23, h_24, h_25, h_26, h_27, h_28, h_29, h_30, h_31, h_32, h_33, h_34, h_35, h_36, h_37, h_38, h_39]), hR⟩
                                ·replace H := HS.cnd_f h_37 H
                                 try simp -implicitDefEqProofs (maxSteps := 999999) [-selQ_sel, h_2, h_3, h_4, h_5, h_6, h_7, h_8, h_9, h_10, h_11, h_12, h_13, h_14, h_15, h_16, h_17, h_18, h_19, h_20, h_21, h_22, h_23, h_24, h_25, h_26, h_27, h_28, h_29, h_30, h_31, h_32, h_33, h_34, h_35, h_36, h_37]
                                 have hr := (HS.some H).symm; subst hr
                                 exact Hid.mk ⟨(laws_heldNodeS_l0_X a0 (.inr ())).2, Wk.ofk [] hk (by rfl) (by simp -implicitDefEqProofs [laws_heldNodeS_l0_X, h_2, h_3, h_4, h_5, h_6, h_7, h_8, h_9, h_10, h_11, h_12, h_13, h_14, h_15, h_16, h_17, h_18, h_19, h_20, h_21, h_22, h_23, h_24, h_25, h_26, h_27, h_28, h_29, h_30, h_31, h_32, h_33, h_34, h_35, h_36, h_37]) (by simp -implicitDefEqProofs [laws_heldNodeS_l0_X, h_2, h_3, h_4, h_5, h_6, h_7, h_8, h_9, h_10, h_11, h_12, h_13, h_14, h_15, h_16, h_17, h_18, h_19, h_20, h_21, h_22, h_23, h_24, h_25, h_26, h_27, h_28, h_29, h_30, h_31, h_32, h_33, h_34, h_35, h_36, h_37]), hR⟩
                               ·replace H := HS.cnd_f h_35 H
                                try simp -implicitDefEqProofs (maxSteps := 999999) [-selQ_sel, h_2, h_3, h_4, h_5, h_6, h_7, h_8, h_9, h_10, h_11, h_12, h_13, h_14, h_15, h_16, h_17, h_18, h_19, h_20, h_21, h_22, h_23, h_24, h_25, h_26, h_27, h_28, h_29, h_30, h_31, h_32, h_33, h_34, h_35]
                                have hr := (HS.some H).symm; subst hr
                                exact Hid.mk ⟨(laws_heldNodeS_l0_X a0 (.inr ())).2, Wk.ofk [] hk (by rfl) (by simp -implicitDefEqProofs [laws_heldNodeS_l0_X, h_2, h_3, h_4, h_5, h_6, h_7, h_8, h_9, h_10, h_11, h_12, h_13, h_14, h_15, h_16, h_17, h_18, h_19, h_20, h_21, h_22, h_23, h_24, h_25, h_26, h_27, h_28, h_29, h_30, h_31, h_32, h_33, h_34, h_35]) (by simp -implicitDefEqProofs [laws_heldNodeS_l0_X, h_2, h_3, h_4, h_5, h_6, h_7, h_8, h_9, h_10, h_11, h_12, h_13, h_14, h_15, h_16, h_17, h_18, h_19, h_20, h_21, h_22, h_23, h_24, h_25, h_26, h_27, h_28, h_29, h_30, h_31, h_32, h_33, h_34, h_35]), hR⟩
                              ·replace H := HS.cnd_f h_34 H
                               try simp -implicitDefEqProofs (maxSteps := 999999) [-selQ_sel, h_2, h_3, h_4, h_5, h_6, h_7, h_8, h_9, h_10, h_11, h_12, h_13, h_14, h_15, h_16, h_17, h_18, h_19, h_20, h_21, h_22, h_23, h_24, h_25, h_26, h_27, h_28, h_29, h_30, h_31, h_32, h_33, h_34]
                               have hr := (HS.some H).symm; subst hr
                               exact Hid.mk ⟨(laws_heldNodeS_l0_X a0 (.inr ())).2, Wk.ofk [] hk (by rfl) (by simp -implicitDefEqProofs [laws_heldNodeS_l0_X, h_2, h_3, h_4, h_5, h_6, h_7, h_8, h_9, h_10, h_11, h_12, h_13, h_14, h_15, h_16, h_17, h_18, h_19, h_20, h_21, h_22, h_23, h_24, h_25, h_26, h_27, h_28, h_29, h_30, h_31, h_32, h_33, h_34]) (by simp -implicitDefEqProofs [laws_heldNodeS_l0_X, h_2, h_3, h_4, h_5, h_6, h_7, h_8, h_9, h_10, h_11, h_12, h_13, h_14, h_15, h_16, h_17, h_18, h_19, h_20, h_21, h_22, h_23, h_24, h_25, h_26, h_27, h_28, h_29, h_30, h_31, h_32, h_33, h_34]), hR⟩
                             ·replace H := HS.cnd_f h_33 H
                              try simp -implicitDefEqProofs (maxSteps := 999999) [-selQ_sel, h_2, h_3, h_4, h_5, h_6, h_7, h_8, h_9, h_10, h_11, h_12, h_13, h_14, h_15, h_16, h_17, h_18, h_19, h_20, h_21, h_22, h_23, h_24, h_25, h_26, h_27, h_28, h_29, h_30, h_31, h_32, h_33]
                              have hr := (HS.some H).symm; subst hr
                              exact Hid.mk ⟨(laws_heldNodeS_l0_X a0 (.inr ())).2, Wk.ofk [] hk (by rfl) (by simp -implicitDefEqProofs [laws_heldNodeS_l0_X, h_2, h_3, h_4, h_5, h_6, h_7, h_8, h_9, h_10, h_11, h_12, h_13, h_14, h_15, h_16, h_17, h_18, h_19, h_20, h_21, h_22, h_23, h_24, h_25, h_26, h_27, h_28, h_29, h_30, h_31, h_32, h_33]) (by simp -implicitDefEqProofs [laws_heldNodeS_l0_X, h_2, h_3, h_4, h_5, h_6, h_7, h_8, h_9, h_10, h_11, h_12, h_13, h_14, h_15, h_16, h_17, h_18, h_19, h_20, h_21, h_22, h_23, h_24, h_25, h_26, h_27, h_28, h_29, h_30, h_31, h_32, h_33]), hR⟩
                            ·replace H := HS.cnd_f h_32 H
                             try simp -implicitDefEqProofs (maxSteps := 999999) [-selQ_sel, h_2, h_3, h_4, h_5, h_6, h_7, h_8, h_9, h_10, h_11, h_12, h_13, h_14, h_15, h_16, h_17, h_18, h_19, h_20, h_21, h_22, h_23, h_24, h_25, h_26, h_27, h_28, h_29, h_30, h_31, h_32]
                             have hr := (HS.some H).symm; subst hr
                             exact Hid.mk ⟨(laws_heldNodeS_l0_X a0 (.inr ())).2, Wk.ofk [] hk (by rfl) (by simp -implicitDefEqProofs [laws_heldNodeS_l0_X, h_2, h_3, h_4, h_5, h_6, h_7, h_8, h_9, h_10, h_11, h_12, h_13, h_14, h_15, h_16, h_17, h_18, h_19, h_20, h_21, h_22, h_23, h_24, h_25, h_26, h_27, h_28, h_29, h_30, h_31, h_32]) (by simp -implicitDefEqProofs [laws_heldNodeS_l0_X, h_2, h_3, h_4, h_5, h_6, h_7, h_8, h_9, h_10, h_11, h_12, h_13, h_14, h_15, h_16, h_17, h_18, h_19, h_20, h_21, h_22, h_23, h_24, h_25, h_26, h_27, h_28, h_29, h_30, h_31, h_32]), hR⟩
                           ·replace H := HS.cnd_f h_31 H
                            try simp -implicitDefEqProofs (maxSteps := 999999) [-selQ_sel, h_2, h_3, h_4, h_5, h_6, h_7, h_8, h_9, h_10, h_11, h_12, h_13, h_14, h_15, h_16, h_17, h_18, h_19, h_20, h_21, h_22, h_23, h_24, h_25, h_26, h_27, h_28, h_29, h_30, h_31]
                            have hr := (HS.some H).symm; subst hr
                            exact Hid.mk ⟨(laws_heldNodeS_l0_X a0 (.inr ())).2, Wk.ofk [] hk (by rfl) (by simp -implicitDefEqProofs [laws_heldNodeS_l0_X, h_2, h_3, h_4, h_5, h_6, h_7, h_8, h_9, h_10, h_11, h_12, h_13, h_14, h_15, h_16, h_17, h_18, h_19, h_20, h_21, h_22, h_23, h_24, h_25, h_26, h_27, h_28, h_29, h_30, h_31]) (by simp -implicitDefEqProofs [laws_heldNodeS_l0_X, h_2, h_3, h_4, h_5, h_6, h_7, h_8, h_9, h_10, h_11, h_12, h_13, h_14, h_15, h_16, h_17, h_18, h_19, h_20, h_21, h_22, h_23, h_24, h_25, h_26, h_27, h_28, h_29, h_30, h_31]), hR⟩
                          ·replace H := HS.cnd_f h_30 H
                           try simp -implicitDefEqProofs (maxSteps := 999999) [-selQ_sel, h_2, h_3, h_4, h_5, h_6, h_7, h_8, h_9, h_10, h_11, h_12, h_13, h_14, h_15, h_16, h_17, h_18, h_19, h_20, h_21, h_22, h_23, h_24, h_25, h_26, h_27, h_28, h_29, h_30]
                           have hr := (HS.some H).symm; subst hr
                           exact Hid.mk ⟨(laws_heldNodeS_l0_X a0 (.inr ())).2, Wk.ofk [] hk (by rfl) (by simp -implicitDefEqProofs [laws_heldNodeS_l0_X, h_2, h_3, h_4, h_5, h_6, h_7, h_8, h_9, h_10, h_11, h_12, h_13, h_14, h_15, h_16, h_17, h_18, h_19, h_20, h_21, h_22, h_23, h_24, h_25, h_26, h_27, h_28, h_29, h_30]) (by simp -implicitDefEqProofs [laws_heldNodeS_l0_X, h_2, h_3, h_4, h_5, h_6, h_7, h_8, h_9, h_10, h_11, h_12, h_13, h_14, h_15, h_16, h_17, h_18, h_19, h_20, h_21, h_22, h_23, h_24, h_25, h_26, h_27, h_28, h_29, h_30]), hR⟩
                         ·replace H := HS.cnd_f h_29 H
                          try simp -implicitDefEqProofs (maxSteps := 999999) [-selQ_sel, h_2, h_3, h_4, h_5, h_6, h_7, h_8, h_9, h_10, h_11, h_12, h_13, h_14, h_15, h_16, h_17, h_18, h_19, h_20, h_21, h_22, h_23, h_24, h_25, h_26, h_27, h_28, h_29]
                          have hr := (HS.some H).symm; subst hr
                          exact Hid.mk ⟨(laws_heldNodeS_l0_X a0 (.inr ())).2, Wk.ofk [] hk (by rfl) (by simp -implicitDefEqProofs [laws_heldNodeS_l0_X, h_2, h_3, h_4, h_5, h_6, h_7, h_8, h_9, h_10, h_11, h_12, h_13, h_14, h_15, h_16, h_17, h_18, h_19, h_20, h_21, h_22, h_23, h_24, h_25, h_26, h_27, h_28, h_29]) (by simp -implicitDefEqProofs [laws_heldNodeS_l0_X, h_2, h_3, h_4, h_5, h_6, h_7, h_8, h_9, h_10, h_11, h_12, h_13, h_14, h_15, h_16, h_17, h_18, h_19, h_20, h_21, h_22, h_23, h_24, h_25, h_26, h_27, h_28, h_29]), hR⟩
                        ·replace H := HS.cnd_f h_28 H
                         try simp -implicitDefEqProofs (maxSteps := 999999) [-selQ_sel, h_2, h_3, h_4, h_5, h_6, h_7, h_8, h_9, h_10, h_11, h_12, h_13, h_14, h_15, h_16, h_17, h_18, h_19, h_20, h_21, h_22, h_23, h_24, h_25, h_26, h_27, h_28]
                         have hr := (HS.some H).symm; subst hr
                         exact Hid.mk ⟨(laws_heldNodeS_l0_X a0 (.inr ())).2, Wk.ofk [] hk (by rfl) (by simp -implicitDefEqProofs [laws_heldNodeS_l0_X, h_2, h_3, h_4, h_5, h_6, h_7, h_8, h_9, h_10, h_11, h_12, h_13, h_14, h_15, h_16, h_17, h_18, h_19, h_20, h_21, h_22, h_23, h_24, h_25, h_26, h_27, h_28]) (by simp -implicitDefEqProofs [laws_heldNodeS_l0_X, h_2, h_3, h_4, h_5, h_6, h_7, h_8, h_9, h_10, h_11, h_12, h_13, h_14, h_15, h_16, h_17, h_18, h_19, h_20, h_21, h_22, h_23, h_24, h_25, h_26, h_27, h_28]), hR⟩
                       ·replace H := HS.cnd_f h_27 H
                        try simp -implicitDefEqProofs (maxSteps := 999999) [-selQ_sel, h_2, h_3, h_4, h_5, h_6, h_7, h_8, h_9, h_10, h_11, h_12, h_13, h_14, h_15, h_16, h_17, h_18, h_19, h_20, h_21, h_22, h_23, h_24, h_25, h_26, h_27]
                        have hr := (HS.some H).symm; subst hr
                        exact Hid.mk ⟨(laws_heldNodeS_l0_X a0 (.inr ())).2, Wk.ofk [] hk (by rfl) (by simp -implicitDefEqProofs [laws_heldNodeS_l0_X, h_2, h_3, h_4, h_5, h_6, h_7, h_8, h_9, h_10, h_11, h_12, h_13, h_14, h_15, h_16, h_17, h_18, h_19, h_20, h_21, h_22, h_23, h_24, h_25, h_26, h_27]) (by simp -implicitDefEqProofs [laws_heldNodeS_l0_X, h_2, h_3, h_4, h_5, h_6, h_7, h_8, h_9, h_10, h_11, h_12, h_13, h_14, h_15, h_16, h_17, h_18, h_19, h_20, h_21, h_22, h_23, h_24, h_25, h_26, h_27]), hR⟩
                      ·replace H := HS.cnd_f h_26 H
                       try simp -implicitDefEqProofs (maxSteps := 999999) [-selQ_sel, h_2, h_3, h_4, h_5, h_6, h_7, h_8, h_9, h_10, h_11, h_12, h_13, h_14, h_15, h_16, h_17, h_18, h_19, h_20, h_21, h_22, h_23, h_24, h_25, h_26]
                       have hr := (HS.some H).symm; subst hr
                       exact Hid.mk ⟨(laws_heldNodeS_l0_X a0 (.inr ())).2, Wk.ofk [] hk (by rfl) (by simp -implicitDefEqProofs [laws_heldNodeS_l0_X, h_2, h_3, h_4, h_5, h_6, h_7, h_8, h_9, h_10, h_11, h_12, h_13, h_14, h_15, h_16, h_17, h_18, h_19, h_20, h_21, h_22, h_23, h_24, h_25, h_26]) (by simp -implicitDefEqProofs [laws_heldNodeS_l0_X, h_2, h_3, h_4, h_5, h_6, h_7, h_8, h_9, h_10, h_11, h_12, h_13, h_14, h_15, h_16, h_17, h_18, h_19, h_20, h_21, h_22, h_23, h_24, h_25, h_26]), hR⟩
                     ·replace H := HS.cnd_f h_25 H
                      try simp -implicitDefEqProofs (maxSteps := 999999) [-selQ_sel, h_2, h_3, h_4, h_5, h_6, h_7, h_8, h_9, h_10, h_11, h_12, h_13, h_14, h_15, h_16, h_17, h_18, h_19, h_20, h_21, h_22, h_23, h_24, h_25]
                      have hr := (HS.some H).symm; subst hr
                      exact Hid.mk ⟨(laws_heldNodeS_l0_X a0 (.inr ())).2, Wk.ofk [] hk (by rfl) (by simp -implicitDefEqProofs [laws_heldNodeS_l0_X, h_2, h_3, h_4, h_5, h_6, h_7, h_8, h_9, h_10, h_11, h_12, h_13, h_14, h_15, h_16, h_17, h_18, h_19, h_20, h_21, h_22, h_23, h_24, h_25]) (by simp -implicitDefEqProofs [laws_heldNodeS_l0_X, h_2, h_3, h_4, h_5, h_6, h_7, h_8, h_9, h_10, h_11, h_12, h_13, h_14, h_15, h_16, h_17, h_18, h_19, h_20, h_21, h_22, h_23, h_24, h_25]), hR⟩
                    ·replace H := HS.cnd_f h_24 H
                     try simp -implicitDefEqProofs (maxSteps := 999999) [-selQ_sel, h_2, h_3, h_4, h_5, h_6, h_7, h_8, h_9, h_10, h_11, h_12, h_13, h_14, h_15, h_16, h_17, h_18, h_19, h_20, h_21, h_22, h_23, h_24]
                     have hr := (HS.some H).symm; subst hr
                     exact Hid.mk ⟨(laws_heldNodeS_l0_X a0 (.inr ())).2, Wk.ofk [] hk (by rfl) (by simp -implicitDefEqProofs [laws_heldNodeS_l0_X, h_2, h_3, h_4, h_5, h_6, h_7, h_8, h_9, h_10, h_11, h_12, h_13, h_14, h_15, h_16, h_17, h_18, h_19, h_20, h_21, h_22, h_23, h_24]) (by simp -implicitDefEqProofs [laws_heldNodeS_l0_X, h_2, h_3, h_4, h_5, h_6, h_7, h_8, h_9, h_10, h_11, h_12, h_13, h_14, h_15, h_16, h_17, h_18, h_19, h_20, h_21, h_22, h_23, h_24]), hR⟩
                   ·replace H := HS.cnd_f h_23 H
                    try simp -implicitDefEqProofs (maxSteps := 999999) [-selQ_sel, h_2, h_3, h_4, h_5, h_6, h_7, h_8, h_9, h_10, h_11, h_12, h_13, h_14, h_15, h_16, h_17, h_18, h_19, h_20, h_21, h_22, h_23]
                    have hr := (HS.some H).symm; subst hr
                    exact Hid.mk ⟨(laws_heldNodeS_l0_X a0 (.inr ())).2, Wk.ofk [] hk (by rfl) (by simp -implicitDefEqProofs [laws_heldNodeS_l0_X, h_2, h_3, h_4, h_5, h_6, h_7, h_8, h_9, h_10, h_11, h_12, h_13, h_14, h_15, h_16, h_17, h_18, h_19, h_20, h_21, h_22, h_23]) (by simp -implicitDefEqProofs [laws_heldNodeS_l0_X, h_2, h_3, h_4, h_5, h_6, h_7, h_8, h_9, h_10, h_11, h_12, h_13, h_14, h_15, h_16, h_17, h_18, h_19, h_20, h_21, h_22, h_23]), hR⟩
                  ·replace H := HS.cnd_f h_22 H
                   try simp -implicitDefEqProofs (maxSteps := 999999) [-selQ_sel, h_2, h_3, h_4, h_5, h_6, h_7, h_8, h_9, h_10, h_11, h_12, h_13, h_14, h_15, h_16, h_17, h_18, h_19, h_20, h_21, h_22]
                   have hr := (HS.some H).symm; subst hr
                   exact Hid.mk ⟨(laws_heldNodeS_l0_X a0 (.inr ())).2, Wk.ofk [] hk (by rfl) (by simp -implicitDefEqProofs [laws_heldNodeS_l0_X, h_2, h_3, h_4, h_5, h_6, h_7, h_8, h_9, h_10, h_11, h_12, h_13, h_14, h_15, h_16, h_17, h_18, h_19, h_20, h_21, h_22]) (by simp -implicitDefEqProofs [laws_heldNodeS_l0_X, h_2, h_3, h_4, h_5, h_6, h_7, h_8, h_9, h_10, h_11, h_12, h_13, h_14, h_15, h_16, h_17, h_18, h_19, h_20, h_21, h_22]), hR⟩
                 ·replace H := HS.cnd_f h_21 H
                  try simp -implicitDefEqProofs (maxSteps := 999999) [-selQ_sel, h_2, h_3, h_4, h_5, h_6, h_7, h_8, h_9, h_10, h_11, h_12, h_13, h_14, h_15, h_16, h_17, h_18, h_19, h_20, h_21]
                  have hr := (HS.some H).symm; subst hr
                  exact Hid.mk ⟨(laws_heldNodeS_l0_X a0 (.inr ())).2, Wk.ofk [] hk (by rfl) (by simp -implicitDefEqProofs [laws_heldNodeS_l0_X, h_2, h_3, h_4, h_5, h_6, h_7, h_8, h_9, h_10, h_11, h_12, h_13, h_14, h_15, h_16, h_17, h_18, h_19, h_20, h_21]) (by simp -implicitDefEqProofs [laws_heldNodeS_l0_X, h_2, h_3, h_4, h_5, h_6, h_7, h_8, h_9, h_10, h_11, h_12, h_13, h_14, h_15, h_16, h_17, h_18, h_19, h_20, h_21]), hR⟩
                ·replace H := HS.cnd_f h_20 H
                 try simp -implicitDefEqProofs (maxSteps := 999999) [-selQ_sel, h_2, h_3, h_4, h_5, h_6, h_7, h_8, h_9, h_10, h_11, h_12, h_13, h_14, h_15, h_16, h_17, h_18, h_19, h_20]
                 have hr := (HS.some H).symm; subst hr
                 exact Hid.mk ⟨(laws_heldNodeS_l0_X a0 (.inr ())).2, Wk.ofk [] hk (by rfl) (by simp -implicitDefEqProofs [laws_heldNodeS_l0_X, h_2, h_3, h_4, h_5, h_6, h_7, h_8, h_9, h_10, h_11, h_12, h_13, h_14, h_15, h_16, h_17, h_18, h_19, h_20]) (by simp -implicitDefEqProofs [laws_heldNodeS_l0_X, h_2, h_3, h_4, h_5, h_6, h_7, h_8, h_9, h_10, h_11, h_12, h_13, h_14, h_15, h_16, h_17, h_18, h_19, h_20]), hR⟩
               ·replace H := HS.cnd_f h_18 H
                try simp -implicitDefEqProofs (maxSteps := 999999) [-selQ_sel, h_2, h_3, h_4, h_5, h_6, h_7, h_8, h_9, h_10, h_11, h_12, h_13, h_14, h_15, h_16, h_17, h_18]
                have hr := (HS.some H).symm; subst hr
                exact Hid.mk ⟨(laws_heldNodeS_l0_X a0 (.inr ())).2, Wk.ofk [] hk (by rfl) (by simp -implicitDefEqProofs [laws_heldNodeS_l0_X, h_2, h_3, h_4, h_5, h_6, h_7, h_8, h_9, h_10, h_11, h_12, h_13, h_14, h_15, h_16, h_17, h_18]) (by simp -implicitDefEqProofs [laws_heldNodeS_l0_X, h_2, h_3, h_4, h_5, h_6, h_7, h_8, h_9, h_10, h_11, h_12, h_13, h_14, h_15, h_16, h_17, h_18]), hR⟩
              ·replace H := HS.cnd_f h_17 H
               try simp -implicitDefEqProofs (maxSteps := 999999) [-selQ_sel, h_2, h_3, h_4, h_5, h_6, h_7, h_8, h_9, h_10, h_11, h_12, h_13, h_14, h_15, h_16, h_17]
               have hr := (HS.some H).symm; subst hr
               exact Hid.mk ⟨(laws_heldNodeS_l0_X a0 (.inr ())).2, Wk.ofk [] hk (by rfl) (by simp -implicitDefEqProofs [laws_heldNodeS_l0_X, h_2, h_3, h_4, h_5, h_6, h_7, h_8, h_9, h_10, h_11, h_12, h_13, h_14, h_15, h_16, h_17]) (by simp -implicitDefEqProofs [laws_heldNodeS_l0_X, h_2, h_3, h_4, h_5, h_6, h_7, h_8, h_9, h_10, h_11, h_12, h_13, h_14, h_15, h_16, h_17]), hR⟩
             ·replace H := HS.cnd_f h_16 H
              try simp -implicitDefEqProofs (maxSteps := 999999) [-selQ_sel, h_2, h_3, h_4, h_5, h_6, h_7, h_8, h_9, h_10, h_11, h_12, h_13, h_14, h_15, h_16]
              have hr := (HS.some H).symm; subst hr
              exact Hid.mk ⟨(laws_heldNodeS_l0_X a0 (.inr ())).2, Wk.ofk [] hk (by rfl) (by simp -implicitDefEqProofs [laws_heldNodeS_l0_X, h_2, h_3, h_4, h_5, h_6, h_7, h_8, h_9, h_10, h_11, h_12, h_13, h_14, h_15, h_16]) (by simp -implicitDefEqProofs [laws_heldNodeS_l0_X, h_2, h_3, h_4, h_5, h_6, h_7, h_8, h_9, h_10, h_11, h_12, h_13, h_14, h_15, h_16]), hR⟩
            ·replace H := HS.cnd_f h_14 H
             try simp -implicitDefEqProofs (maxSteps := 999999) [-selQ_sel, h_2, h_3, h_4, h_5, h_6, h_7, h_8, h_9, h_10, h_11, h_12, h_13, h_14]
             have hr := (HS.some H).symm; subst hr
             exact Hid.mk ⟨(laws_heldNodeS_l0_X a0 (.inr ())).2, Wk.ofk [] hk (by rfl) (by simp -implicitDefEqProofs [laws_heldNodeS_l0_X, h_2, h_3, h_4, h_5, h_6, h_7, h_8, h_9, h_10, h_11, h_12, h_13, h_14]) (by simp -implicitDefEqProofs [laws_heldNodeS_l0_X, h_2, h_3, h_4, h_5, h_6, h_7, h_8, h_9, h_10, h_11, h_12, h_13, h_14]), hR⟩
           ·replace H := HS.cnd_f h_12 H
            try simp -implicitDefEqProofs (maxSteps := 999999) [-selQ_sel, h_2, h_3, h_4, h_5, h_6, h_7, h_8, h_9, h_10, h_11, h_12]
            have hr := (HS.some H).symm; subst hr
            exact Hid.mk ⟨(laws_heldNodeS_l0_X a0 (.inr ())).2, Wk.ofk [] hk (by rfl) (by simp -implicitDefEqProofs [laws_heldNodeS_l0_X, h_2, h_3, h_4, h_5, h_6, h_7, h_8, h_9, h_10, h_11, h_12]) (by simp -implicitDefEqProofs [laws_heldNodeS_l0_X, h_2, h_3, h_4, h_5, h_6, h_7, h_8, h_9, h_10, h_11, h_12]), hR⟩
          ·replace H := HS.cnd_f h_11 H
           try simp -implicitDefEqProofs (maxSteps := 999999) [-selQ_sel, h_2, h_3, h_4, h_5, h_6, h_7, h_8, h_9, h_10, h_11]
           have hr := (HS.some H).symm; subst hr
           exact Hid.mk ⟨(laws_heldNodeS_l0_X a0 (.inr ())).2, Wk.ofk [] hk (by rfl) (by simp -implicitDefEqProofs [laws_heldNodeS_l0_X, h_2, h_3, h_4, h_5, h_6, h_7, h_8, h_9, h_10, h_11]) (by simp -implicitDefEqProofs [laws_heldNodeS_l0_X, h_2, h_3, h_4, h_5, h_6, h_7, h_8, h_9, h_10, h_11]), hR⟩
         ·replace H := HS.cnd_f h_10 H
          try simp -implicitDefEqProofs (maxSteps := 999999) [-selQ_sel, h_2, h_3, h_4, h_5, h_6, h_7, h_8, h_9, h_10]
          have hr := (HS.some H).symm; subst hr
          exact Hid.mk ⟨(laws_heldNodeS_l0_X a0 (.inr ())).2, Wk.ofk [] hk (by rfl) (by simp -implicitDefEqProofs [laws_heldNodeS_l0_X, h_2, h_3, h_4, h_5, h_6, h_7, h_8, h_9, h_10]) (by simp -implicitDefEqProofs [laws_heldNodeS_l0_X, h_2, h_3, h_4, h_5, h_6, h_7, h_8, h_9, h_10]), hR⟩
        ·replace H := HS.cnd_f h_9 H
         try simp -implicitDefEqProofs (maxSteps := 999999) [-selQ_sel, h_2, h_3, h_4, h_5, h_6, h_7, h_8, h_9]
         have hr := (HS.some H).symm; subst hr
         exact Hid.mk ⟨(laws_heldNodeS_l0_X a0 (.inr ())).2, Wk.ofk [] hk (by rfl) (by simp -implicitDefEqProofs [laws_heldNodeS_l0_X, h_2, h_3, h_4, h_5, h_6, h_7, h_8, h_9]) (by simp -implicitDefEqProofs [laws_heldNodeS_l0_X, h_2, h_3, h_4, h_5, h_6, h_7, h_8, h_9]), hR⟩
       ·replace H := HS.cnd_f h_8 H
        try simp -implicitDefEqProofs (maxSteps := 999999) [-selQ_sel, h_2, h_3, h_4, h_5, h_6, h_7, h_8]
        have hr := (HS.some H).symm; subst hr
        exact Hid.mk ⟨(laws_heldNodeS_l0_X a0 (.inr ())).2, Wk.ofk [] hk (by rfl) (by simp -implicitDefEqProofs [laws_heldNodeS_l0_X, h_2, h_3, h_4, h_5, h_6, h_7, h_8]) (by simp -implicitDefEqProofs [laws_heldNodeS_l0_X, h_2, h_3, h_4, h_5, h_6, h_7, h_8]), hR⟩
      ·replace H := HS.cnd_f h_7 H
       try simp -implicitDefEqProofs (maxSteps := 999999) [-selQ_sel, h_2, h_3, h_4, h_5, h_6, h_7]
       have hr := (HS.some H).symm; subst hr
       exact Hid.mk ⟨(laws_heldNodeS_l0_X a0 (.inr ())).2, Wk.ofk [] hk (by rfl) (by simp -implicitDefEqProofs [laws_heldNodeS_l0_X, h_2, h_3, h_4, h_5, h_6, h_7]) (by simp -implicitDefEqProofs [laws_heldNodeS_l0_X, h_2, h_3, h_4, h_5, h_6, h_7]), hR⟩
     ·replace H := HS.cnd_f h_6 H
      try simp -implicitDefEqProofs (maxSteps := 999999) [-selQ_sel, h_2, h_3, h_4, h_5, h_6]
      have hr := (HS.some H).symm; subst hr
      exact Hid.mk ⟨(laws_heldNodeS_l0_X a0 (.inr ())).2, Wk.ofk [] hk (by rfl) (by simp -implicitDefEqProofs [laws_heldNodeS_l0_X, h_2, h_3, h_4, h_5, h_6]) (by simp -implicitDefEqProofs [laws_heldNodeS_l0_X, h_2, h_3, h_4, h_5, h_6]), hR⟩
    ·replace H := HS.cnd_f h_5 H
     try simp -implicitDefEqProofs (maxSteps := 999999) [-selQ_sel, h_2, h_3, h_4, h_5]
     have hr := (HS.some H).symm; subst hr
     exact Hid.mk ⟨(laws_heldNodeS_l0_X a0 (.inr ())).2, Wk.ofk [] hk (by rfl) (by simp -implicitDefEqProofs [laws_heldNodeS_l0_X, h_2, h_3, h_4, h_5]) (by simp -implicitDefEqProofs [laws_heldNodeS_l0_X, h_2, h_3, h_4, h_5]), hR⟩
   ·replace H := HS.cnd_f h_4 H
    try simp -implicitDefEqProofs (maxSteps := 999999) [-selQ_sel, h_2, h_3, h_4]
    have hr := (HS.some H).symm; subst hr
    exact Hid.mk ⟨(laws_heldNodeS_l0_X a0 (.inr ())).2, Wk.ofk [] hk (by rfl) (by simp -implicitDefEqProofs [laws_heldNodeS_l0_X, h_2, h_3, h_4]) (by simp -implicitDefEqProofs [laws_heldNodeS_l0_X, h_2, h_3, h_4]), hR⟩
 ·rcases q with y15 | ⟨⟩
  ·dsimp only at H
   try simp -implicitDefEqProofs (maxSteps := 999999) [-selQ_sel, laws_heldNodeS_l0_X]
   have hr := (HS.some H).symm; subst hr
   refine Hid.mk ⟨_, Wk.refl _, ?_⟩
   try simp -implicitDefEqProofs (maxSteps := 999999) [-selQ_sel]
  ·dsimp only at H
   try simp -implicitDefEqProofs (maxSteps := 999999) [-selQ_sel, laws_heldNodeS_l0_X]
   have hr := (HS.some H).symm; subst hr
   refine Hid.mk ⟨_, Wk.refl _, ?_⟩
   try simp -implicitDefEqProofs (maxSteps := 999999) [-selQ_sel]
theorem spec_PathOk_ok0 (hm : Try.prog.follows .mixedOrders = true) (k_spec_NeedOf : Sound Try.prog 124 spec_NeedOf_x) (k_spec_PointOk : Sound Try.prog 125 spec_PointOk_x) : Sound Try.prog 99 spec_PathOk_x := by
 refine xOf_sound fun q r h => ?_
 revert h; revert r; revert q; intro a0 r h
 refine fn_ok E0 hm Try.func99 rfl (by decide +kernel) (by rfl) fun Γ hn hk => ?_
 dsimp only [spec_PathOk_e, spec_PathOk_v]
 replace hn : Γ.n = 75 := hn
 replace hk : Γ.k = 0 := hk
 have H : HS (spec_PathOk a0) r := h
 clear h; unfold spec_PathOk at H
 try simp -implicitDefEqProofs at H
 refine Tr.of_vc (cl := tabC [(124, spec_NeedOf_x), (125, spec_PointOk_x)]) (E := E0) [] (tab_cons k_spec_NeedOf (tab_cons k_spec_PointOk tab_nil)) hm (by rw [hn]; decide +kernel) ?_
 try simp -implicitDefEqProofs (maxSteps := 999999) [-selQ_sel]
 refine Hid.selQ (fun h_1 => ?_) (fun h_1 => ?_)
 ·replace H := HS.cnd_t h_1 H
  try simp -implicitDefEqProofs (maxSteps := 999999) [-selQ_sel, h_1]
  refine Hid.brV (fun h_2 => ?_) (fun h_2 => ?_)
  ·replace H := HS.cnd_t h_2 H
   try simp -implicitDefEqProofs (maxSteps := 999999) [-selQ_sel, h_1, h_2]
   obtain ⟨q, h_3, H⟩ := HS.bnd H
   refine Hid.mk (Tr.weak (s' := (spec_PathOk_l0_S a0) (0, 0)) (Wk.ofk [0] hk (by rfl) (by simp -implicitDefEqProofs [spec_PathOk_l0_S, h_1, h_2]) (by simp -implicitDefEqProofs [spec_PathOk_l0_S, h_1, h_2])) ?_)
   refine wp_loop_of (S := (spec_PathOk_l0_S a0)) (f := (spec_PathOk_l0 a0)) (xt := (spec_PathOk_l0_X a0)) ?_ ?_ h_3 ?_
   ·intro q; rcases q with y8 | ⟨⟩ <;> simp [spec_PathOk_l0_X]
   ·clear H h_3 q
    rintro ⟨x3, x4⟩ o R hf hR
    have H : HS (spec_PathOk_l0 a0 (x3, x4)) o := hf
    clear hf; unfold spec_PathOk_l0 at H
    try simp -implicitDefEqProofs at H
    refine Tr.of_vc (cl := tabC [(124, spec_NeedOf_x), (125, spec_PointOk_x)]) (E := E0) [] (tab_cons k_spec_NeedOf (tab_cons k_spec_PointOk tab_nil)) hm (by rw [hn]; decide +kernel) ?_
    try simp -implicitDefEqProofs (maxSteps := 999999) [-selQ_sel, spec_PathOk_l0_S]
    refine Hid.brV (fun h_4 => ?_) (fun h_4 => ?_)
    ·replace H := HS.cnd_t h_4 H
     try simp -implicitDefEqProofs (maxSteps := 999999) [-selQ_sel, h_4]
     have hr := (HS.some H).symm; subst hr
     exact Hid.mk ⟨(spec_PathOk_l0_X a0 (.inl x3)).2, Wk.ofk [0] hk (by rfl) (by simp -implicitDefEqProofs [spec_PathOk_l0_X, h_4]) (by simp -implicitDefEqProofs [spec_PathOk_l0_X, h_4]), hR⟩
    ·replace H := HS.cnd_f h_4 H
     try simp -implicitDefEqProofs (maxSteps := 999999) [-selQ_sel, h_4]
     obtain ⟨v5, h_5, H⟩ := HS.bnd H
     try simp -implicitDefEqProofs (maxSteps := 999999) [-selQ_sel, h_4, h_5]
     obtain ⟨v6, h_6, H⟩ := HS.bnd H
     try simp -implicitDefEqProofs (maxSteps := 999999) [-selQ_sel, h_4, h_5, h_6]
     refine Hid.selQ (fun h_7 => ?_) (fun h_7 => ?_)
     ·replace H := HS.cnd_t h_7 H
      try simp -implicitDefEqProofs (maxSteps := 999999) [-selQ_sel, h_4, h_5, h_6, h_7]
      refine Hid.selQ (fun h_8 => ?_) (fun h_8 => ?_)
      ·replace H := HS.cnd_t h_8 H
       try simp -implicitDefEqProofs (maxSteps := 999999) [-selQ_sel, h_4, h_5, h_6, h_7, h_8]
       refine Hid.brV (fun h_9 => ?_) (fun h_9 => ?_)
       ·replace H := HS.cnd_t h_9 H
        try simp -implicitDefEqProofs (maxSteps := 999999) [-selQ_sel, h_4, h_5, h_6, h_7, h_8, h_9]
        have hr := (HS.some H).symm; subst hr
        exact Hid.mk ⟨spec_PathOk_l0_S a0 ((IntKind.i64.wrap (x3 + v6)), (IntKind.i64.wrap (x4 + 1))), Wk.ofk [0] hk (by rfl) (by simp -implicitDefEqProofs [spec_PathOk_l0_S, h_4, h_5, h_6, h_7, h_8, h_9]) (by simp -implicitDefEqProofs [spec_PathOk_l0_S, h_4, h_5, h_6, h_7, h_8, h_9]), hR⟩
       ·replace H := HS.cnd_f h_9 H
        try simp -implicitDefEqProofs (maxSteps := 999999) [-selQ_sel, h_4, h_5, h_6, h_7, h_8, h_9]
        have hr := (HS.some H).symm; subst hr
        exact Hid.mk ⟨(spec_PathOk_l0_X a0 (.inr ())).2, Wk.ofk [] hk (by rfl) (by simp -implicitDefEqProofs [spec_PathOk_l0_X, h_4, h_5, h_6, h_7, h_8, h_9]) (by simp -implicitDefEqProofs [spec_PathOk_l0_X, h_4, h_5, h_6, h_7, h_8, h_9]), hR⟩
      ·replace H := HS.cnd_f h_8 H
       try simp -implicitDefEqProofs (maxSteps := 999999) [-selQ_sel, h_4, h_5, h_6, h_7, h_8]
       obtain ⟨v7, h_10, H⟩ := HS.bnd H
       try simp -implicitDefEqProofs (maxSteps := 999999) [-selQ_sel, h_4, h_5, h_6, h_7, h_8, h_10]
       refine Hid.selQ (fun h_11 => ?_) (fun h_11 => ?_)
       ·replace H := HS.cnd_t h_11 H
        try simp -implicitDefEqProofs (maxSteps := 999999) [-selQ_sel, h_4, h_5, h_6, h_7, h_8, h_10, h_11]
        refine Hid.brV (fun h_12 => ?_) (fun h_12 => ?_)
        ·replace H := HS.cnd_t h_12 H
         try simp -implicitDefEqProofs (maxSteps := 999999) [-selQ_sel, h_4, h_5, h_6, h_7, h_8, h_10, h_11, h_12]
         have hr := (HS.some H).symm; subst hr
         exact Hid.mk ⟨spec_PathOk_l0_S a0 ((IntKind.i64.wrap (x3 + v6)), (IntKind.i64.wrap (x4 + 1))), Wk.ofk [0] hk (by rfl) (by simp -implicitDefEqProofs [spec_PathOk_l0_S, h_4, h_5, h_6, h_7, h_8, h_10, h_11, h_12]) (by simp -implicitDefEqProofs [spec_PathOk_l0_S, h_4, h_5, h_6, h_7, h_8, h_10, h_11, h_12]), hR⟩
        ·replace H := HS.cnd_f h_12 H
         try simp -implicitDefEqProofs (maxSteps := 999999) [-selQ_sel, h_4, h_5, h_6, h_7, h_8, h_10, h_11, h_12]
         have hr := (HS.some H).symm; subst hr
         exact Hid.mk ⟨(spec_PathOk_l0_X a0 (.inr ())).2, Wk.ofk [] hk (by rfl) (by simp -implicitDefEqProofs [spec_PathOk_l0_X, h_4, h_5, h_6, h_7, h_8, h_10, h_11, h_12]) (by simp -implicitDefEqProofs [spec_PathOk_l0_X, h_4, h_5, h_6, h_7, h_8, h_10, h_11, h_12]), hR⟩
       ·replace H := HS.cnd_f h_11 H
        try simp -implicitDefEqProofs (maxSteps := 999999) [-selQ_sel, h_4, h_5, h_6, h_7, h_8, h_10, h_11]
        have hr := (HS.some H).symm; subst hr
        exact Hid.mk ⟨spec_PathOk_l0_S a0 ((IntKind.i64.wrap (x3 + v6)), (IntKind.i64.wrap (x4 + 1))), Wk.ofk [0] hk (by rfl) (by simp -implicitDefEqProofs [spec_PathOk_l0_S, h_4, h_5, h_6, h_7, h_8, h_10, h_11]) (by simp -implicitDefEqProofs [spec_PathOk_l0_S, h_4, h_5, h_6, h_7, h_8, h_10, h_11]), hR⟩
     ·replace H := HS.cnd_f h_7 H
      try simp -implicitDefEqProofs (maxSteps := 999999) [-selQ_sel, h_4, h_5, h_6, h_7]
      have hr := (HS.some H).symm; subst hr
      exact Hid.mk ⟨(spec_PathOk_l0_X a0 (.inr ())).2, Wk.ofk [] hk (by rfl) (by simp -implicitDefEqProofs [spec_PathOk_l0_X, h_4, h_5, h_6, h_7]) (by simp -implicitDefEqProofs [spec_PathOk_l0_X, h_4, h_5, h_6, h_7]), hR⟩
   ·rcases q with y8 | ⟨⟩
    ·dsimp only at H
     try simp -implicitDefEqProofs (maxSteps := 999999) [-selQ_sel, h_1, h_2, spec_PathOk_l0_X]
     obtain ⟨q, h_13, H⟩ := HS.bnd H
     refine Hid.mk (Tr.weak (s' := (spec_PathOk_l1_S a0 y8) 0) (Wk.ofk [0] hk (by rfl) (by simp -implicitDefEqProofs [spec_PathOk_l1_S, h_1, h_2]) (by simp -implicitDefEqProofs [spec_PathOk_l1_S, h_1, h_2])) ?_)
     refine wp_loop_of (S := (spec_PathOk_l1_S a0 y8)) (f := (spec_PathOk_l1 a0 y8)) (xt := (spec_PathOk_l1_X a0 y8)) ?_ ?_ h_13 ?_
     ·intro q; rcases q with ⟨⟩ | ⟨⟩ <;> simp [spec_PathOk_l1_X]
     ·clear H h_13 q
      rintro x11 o R hf hR
      have H : HS (spec_PathOk_l1 a0 y8 x11) o := hf
      clear hf; unfold spec_PathOk_l1 at H
      try simp -implicitDefEqProofs at H
      refine Tr.of_vc (cl := tabC [(124, spec_NeedOf_x), (125, spec_PointOk_x)]) (E := E0) [] (tab_cons k_spec_NeedOf (tab_cons k_spec_PointOk tab_nil)) hm (by rw [hn]; decide +kernel) ?_
      try simp -implicitDefEqProofs (maxSteps := 999999) [-selQ_sel, spec_PathOk_l1_S]
      refine Hid.brV (fun h_14 => ?_) (fun h_14 => ?_)
      ·replace H := HS.cnd_t h_14 H
       try simp -implicitDefEqProofs (maxSteps := 999999) [-selQ_sel, h_14]
       have hr := (HS.some H).symm; subst hr
       exact Hid.mk ⟨(spec_PathOk_l1_X a0 y8 (.inl ())).2, Wk.ofk [0] hk (by rfl) (by simp -implicitDefEqProofs [spec_PathOk_l1_X, h_14]) (by simp -implicitDefEqProofs [spec_PathOk_l1_X, h_14]), hR⟩
      ·replace H := HS.cnd_f h_14 H
       try simp -implicitDefEqProofs (maxSteps := 999999) [-selQ_sel, h_14]
       obtain ⟨v12, h_15, H⟩ := HS.bnd H
       try simp -implicitDefEqProofs (maxSteps := 999999) [-selQ_sel, h_14, h_15]
       obtain ⟨v13, h_16, H⟩ := HS.bnd H
       try simp -implicitDefEqProofs (maxSteps := 999999) [-selQ_sel, h_14, h_15, h_16]
       refine Hid.brV (fun h_17 => ?_) (fun h_17 => ?_)
       ·replace H := HS.cnd_t h_17 H
        try simp -implicitDefEqProofs (maxSteps := 999999) [-selQ_sel, h_14, h_15, h_16, h_17]
        have hr := (HS.some H).symm; subst hr
        exact Hid.mk ⟨spec_PathOk_l1_S a0 y8 (IntKind.i64.wrap (x11 + 1)), Wk.ofk [0] hk (by rfl) (by simp -implicitDefEqProofs [spec_PathOk_l1_S, h_14, h_15, h_16, h_17]) (by simp -implicitDefEqProofs [spec_PathOk_l1_S, h_14, h_15, h_16, h_17]), hR⟩
       ·replace H := HS.cnd_f h_17 H
        try simp -implicitDefEqProofs (maxSteps := 999999) [-selQ_sel, h_14, h_15, h_16, h_17]
        have hr := (HS.some H).symm; subst hr
        exact Hid.mk ⟨(spec_PathOk_l1_X a0 y8 (.inr ())).2, Wk.ofk [] hk (by rfl) (by simp -implicitDefEqProofs [spec_PathOk_l1_X, h_14, h_15, h_16, h_17]) (by simp -implicitDefEqProofs [spec_PathOk_l1_X, h_14, h_15, h_16, h_17]), hR⟩
     ·rcases q with ⟨⟩ | ⟨⟩
      ·dsimp only at H
       try simp -implicitDefEqProofs (maxSteps := 999999) [-selQ_sel, h_1, h_2, spec_PathOk_l1_X]
       have hr := (HS.some H).symm; subst hr
       refine Hid.mk ⟨_, Wk.refl _, ?_⟩
       try simp -implicitDefEqProofs (maxSteps := 999999) [-selQ_sel, h_1, h_2]
      ·dsimp only at H
       try simp -implicitDefEqProofs (maxSteps := 999999) [-selQ_sel, h_1, h_2, spec_PathOk_l1_X]
       have hr := (HS.some H).symm; subst hr
       refine Hid.mk ⟨_, Wk.refl _, ?_⟩
       try simp -implicitDefEqProofs (maxSteps := 999999) [-selQ_sel, h_1, h_2]
    ·dsimp only at H
     try simp -implicitDefEqProofs (maxSteps := 999999) [-selQ_sel, h_1, h_2, spec_PathOk_l0_X]
     have hr := (HS.some H).symm; subst hr
     refine Hid.mk ⟨_, Wk.refl _, ?_⟩
     try simp -implicitDefEqProofs (maxSteps := 999999) [-selQ_sel, h_1, h_2]
  ·replace H := HS.cnd_f h_2 H
   try simp -implicitDefEqProofs (maxSteps := 999999) [-selQ_sel, h_1, h_2]
   have hr := (HS.some H).symm; subst hr
   refine Hid.mk ⟨_, Wk.refl _, ?_⟩
   try simp -implicitDefEqProofs (maxSteps := 999999) [-selQ_sel, h_1, h_2]
 ·replace H := HS.cnd_f h_1 H
  try simp -implicitDefEqProofs (maxSteps := 999999) [-selQ_sel, h_1]
  have hr := (HS.some H).symm; subst hr
  refine Hid.mk ⟨_, Wk.refl _, ?_⟩
  try simp -implicitDefEqProofs (maxSteps := 999999) [-selQ_sel, h_1]
theorem laws_eqNode_ok0 (hm : Try.prog.follows .mixedOrders = true) (k_laws_eqMat : Sound Try.prog 66 laws_eqMat_x) (k_laws_eqPath : Sound Try.prog 67 laws_eqPath_x) (k_laws_eqIntS : Sound Try.prog 68 laws_eqIntS_x) (k_laws_eqPaint : Sound Try.prog 69 laws_eqPaint_x) : Sound Try.prog 23 laws_eqNode_x := by
 refine xOf_sound fun q r h => ?_
 obtain ⟨a0, a1⟩ := q
 refine fn_ok E0 hm Try.func23 rfl (by decide +kernel) (by rfl) fun Γ hn hk => ?_
 dsimp only [laws_eqNode_e, laws_eqNode_v]
 replace hn : Γ.n = 70 := hn
 replace hk : Γ.k = 0 := hk
 have H : HS (laws_eqNode a0 a1) r := h
 clear h; unfold laws_eqNode at H
 try simp -implicitDefEqProofs at H
 refine Tr.of_vc (cl := tabC [(66, laws_eqMat_x), (67, laws_eqPath_x), (68, laws_eqIntS_x), (69, laws_eqPaint_x)]) (E := E0) [] (tab_cons k_laws_eqMat (tab_cons k_laws_eqPath (tab_cons k_laws_eqIntS (tab_cons k_laws_eqPaint tab_nil)))) hm (by rw [hn]; decide +kernel) ?_
 try simp -implicitDefEqProofs (maxSteps := 999999) [-selQ_sel]
 refine Hid.brV (fun h_1 => ?_) (fun h_1 => ?_)
 ·replace H := HS.cnd_t h_1 H
  try simp -implicitDefEqProofs (maxSteps := 999999) [-selQ_sel, h_1]
  refine Hid.brV (fun h_2 => ?_) (fun h_2 => ?_)
  ·replace H := HS.cnd_t h_2 H
   try simp -implicitDefEqProofs (maxSteps := 999999) [-selQ_sel, h_1, h_2]
   refine Hid.brV (fun h_3 => ?_) (fun h_3 => ?_)
   ·replace H := HS.cnd_t h_3 H
    try simp -implicitDefEqProofs (maxSteps := 999999) [-selQ_sel, h_1, h_2, h_3]
    obtain ⟨v1, h_4, H⟩ := HS.bnd H
    try simp -implicitDefEqProofs (maxSteps := 999999) [-selQ_sel, h_1, h_2, h_3, h_4]
    refine Hid.brV (fun h_5 => ?_) (fun h_5 => ?_)
    ·replace H := HS.cnd_t h_5 H
     try simp -implicitDefEqProofs (maxSteps := 999999) [-selQ_sel, h_1, h_2, h_3, h_4, h_5]
     obtain ⟨v2, h_6, H⟩ := HS.bnd H
     try simp -implicitDefEqProofs (maxSteps := 999999) [-selQ_sel, h_1, h_2, h_3, h_4, h_5, h_6]
     refine Hid.brV (fun h_7 => ?_) (fun h_7 => ?_)
     ·replace H := HS.cnd_t h_7 H
      try simp -implicitDefEqProofs (maxSteps := 999999) [-selQ_sel, h_1, h_2, h_3, h_4, h_5, h_6, h_7]
      refine Hid.brV (fun h_8 => ?_) (fun h_8 => ?_)
      ·replace H := HS.cnd_t h_8 H
       try simp -implicitDefEqProofs (maxSteps := 999999) [-selQ_sel, h_1, h_2, h_3, h_4, h_5, h_6, h_7, h_8]
       refine Hid.brV (fun h_9 => ?_) (fun h_9 => ?_)
       ·replace H := HS.cnd_t h_9 H
        try simp -implicitDefEqProofs (maxSteps := 999999) [-selQ_sel, h_1, h_2, h_3, h_4, h_5, h_6, h_7, h_8, h_9]
        obtain ⟨v3, h_10, H⟩ := HS.bnd H
        try simp -implicitDefEqProofs (maxSteps := 999999) [-selQ_sel, h_1, h_2, h_3, h_4, h_5, h_6, h_7, h_8, h_9, h_10]
        refine Hid.brV (fun h_11 => ?_) (fun h_11 => ?_)
        ·replace H := HS.cnd_t h_11 H
         try simp -implicitDefEqProofs (maxSteps := 999999) [-selQ_sel, h_1, h_2, h_3, h_4, h_5, h_6, h_7, h_8, h_9, h_10, h_11]
         obtain ⟨v4, h_12, H⟩ := HS.bnd H
         try simp -implicitDefEqProofs (maxSteps := 999999) [-selQ_sel, h_1, h_2, h_3, h_4, h_5, h_6, h_7, h_8, h_9, h_10, h_11, h_12]
         refine Hid.brV (fun h_13 => ?_) (fun h_13 => ?_)
         ·replace H := HS.cnd_t h_13 H
          try simp -implicitDefEqProofs (maxSteps := 999999) [-selQ_sel, h_1, h_2, h_3, h_4, h_5, h_6, h_7, h_8, h_9, h_10, h_11, h_12, h_13]
          refine Hid.brV (fun h_14 => ?_) (fun h_14 => ?_)
          ·replace H := HS.cnd_t h_14 H
           try simp -implicitDefEqProofs (maxSteps := 999999) [-selQ_sel, h_1, h_2, h_3, h_4, h_5, h_6, h_7, h_8, h_9, h_10, h_11, h_12, h_13, h_14]
           refine Hid.brV (fun h_15 => ?_) (fun h_15 => ?_)
           ·replace H := HS.cnd_t h_15 H
            try simp -implicitDefEqProofs (maxSteps := 999999) [-selQ_sel, h_1, h_2, h_3, h_4, h_5, h_6, h_7, h_8, h_9, h_10, h_11, h_12, h_13, h_14, h_15]
            obtain ⟨v5, h_16, H⟩ := HS.bnd H
            try simp -implicitDefEqProofs (maxSteps := 999999) [-selQ_sel, h_1, h_2, h_3, h_4, h_5, h_6, h_7, h_8, h_9, h_10, h_11, h_12, h_13, h_14, h_15, h_16]
            refine Hid.brV (fun h_17 => ?_) (fun h_17 => ?_)
            ·replace H := HS.cnd_t h_17 H
             try simp -implicitDefEqProofs (maxSteps := 999999) [-selQ_sel, h_1, h_2, h_3, h_4, h_5, h_6, h_7, h_8, h_9, h_10, h_11, h_12, h_13, h_14, h_15, h_16, h_17]
             have hr := (HS.some H).symm; subst hr
             refine Hid.mk ⟨_, Wk.refl _, ?_⟩
             try simp -implicitDefEqProofs (maxSteps := 999999) [-selQ_sel, h_1, h_2, h_3, h_4, h_5, h_6, h_7, h_8, h_9, h_10, h_11, h_12, h_13, h_14, h_15, h_16, h_17]
            ·replace H := HS.cnd_f h_17 H
             try simp -implicitDefEqProofs (maxSteps := 999999) [-selQ_sel, h_1, h_2, h_3, h_4, h_5, h_6, h_7, h_8, h_9, h_10, h_11, h_12, h_13, h_14, h_15, h_16, h_17]
             have hr := (HS.some H).symm; subst hr
             refine Hid.mk ⟨_, Wk.refl _, ?_⟩
             try simp -implicitDefEqProofs (maxSteps := 999999) [-selQ_sel, h_1, h_2, h_3, h_4, h_5, h_6, h_7, h_8, h_9, h_10, h_11, h_12, h_13, h_14, h_15, h_16, h_17]
           ·replace H := HS.cnd_f h_15 H
            try simp -implicitDefEqProofs (maxSteps := 999999) [-selQ_sel, h_1, h_2, h_3, h_4, h_5, h_6, h_7, h_8, h_9, h_10, h_11, h_12, h_13, h_14, h_15]
            have hr := (HS.some H).symm; subst hr
            refine Hid.mk ⟨_, Wk.refl _, ?_⟩
            try simp -implicitDefEqProofs (maxSteps := 999999) [-selQ_sel, h_1, h_2, h_3, h_4, h_5, h_6, h_7, h_8, h_9, h_10, h_11, h_12, h_13, h_14, h_15]
          ·replace H := HS.cnd_f h_14 H
           try simp -implicitDefEqProofs (maxSteps := 999999) [-selQ_sel, h_1, h_2, h_3, h_4, h_5, h_6, h_7, h_8, h_9, h_10, h_11, h_12, h_13, h_14]
           have hr := (HS.some H).symm; subst hr
           refine Hid.mk ⟨_, Wk.refl _, ?_⟩
           try simp -implicitDefEqProofs (maxSteps := 999999) [-selQ_sel, h_1, h_2, h_3, h_4, h_5, h_6, h_7, h_8, h_9, h_10, h_11, h_12, h_13, h_14]
         ·replace H := HS.cnd_f h_13 H
          try simp -implicitDefEqProofs (maxSteps := 999999) [-selQ_sel, h_1, h_2, h_3, h_4, h_5, h_6, h_7, h_8, h_9, h_10, h_11, h_12, h_13]
          have hr := (HS.some H).symm; subst hr
          refine Hid.mk ⟨_, Wk.refl _, ?_⟩
          try simp -implicitDefEqProofs (maxSteps := 999999) [-selQ_sel, h_1, h_2, h_3, h_4, h_5, h_6, h_7, h_8, h_9, h_10, h_11, h_12, h_13]
        ·replace H := HS.cnd_f h_11 H
         try simp -implicitDefEqProofs (maxSteps := 999999) [-selQ_sel, h_1, h_2, h_3, h_4, h_5, h_6, h_7, h_8, h_9, h_10, h_11]
         have hr := (HS.some H).symm; subst hr
         refine Hid.mk ⟨_, Wk.refl _, ?_⟩
         try simp -implicitDefEqProofs (maxSteps := 999999) [-selQ_sel, h_1, h_2, h_3, h_4, h_5, h_6, h_7, h_8, h_9, h_10, h_11]
       ·replace H := HS.cnd_f h_9 H
        try simp -implicitDefEqProofs (maxSteps := 999999) [-selQ_sel, h_1, h_2, h_3, h_4, h_5, h_6, h_7, h_8, h_9]
        have hr := (HS.some H).symm; subst hr
        refine Hid.mk ⟨_, Wk.refl _, ?_⟩
        try simp -implicitDefEqProofs (maxSteps := 999999) [-selQ_sel, h_1, h_2, h_3, h_4, h_5, h_6, h_7, h_8, h_9]
      ·replace H := HS.cnd_f h_8 H
       try simp -implicitDefEqProofs (maxSteps := 999999) [-selQ_sel, h_1, h_2, h_3, h_4, h_5, h_6, h_7, h_8]
       have hr := (HS.some H).symm; subst hr
       refine Hid.mk ⟨_, Wk.refl _, ?_⟩
       try simp -implicitDefEqProofs (maxSteps := 999999) [-selQ_sel, h_1, h_2, h_3, h_4, h_5, h_6, h_7, h_8]
     ·replace H := HS.cnd_f h_7 H
      try simp -implicitDefEqProofs (maxSteps := 999999) [-selQ_sel, h_1, h_2, h_3, h_4, h_5, h_6, h_7]
      have hr := (HS.some H).symm; subst hr
      refine Hid.mk ⟨_, Wk.refl _, ?_⟩
      try simp -implicitDefEqProofs (maxSteps := 999999) [-selQ_sel, h_1, h_2, h_3, h_4, h_5, h_6, h_7]
    ·replace H := HS.cnd_f h_5 H
     try simp -implicitDefEqProofs (maxSteps := 999999) [-selQ_sel, h_1, h_2, h_3, h_4, h_5]
     have hr := (HS.some H).symm; subst hr
     refine Hid.mk ⟨_, Wk.refl _, ?_⟩
     try simp -implicitDefEqProofs (maxSteps := 999999) [-selQ_sel, h_1, h_2, h_3, h_4, h_5]
   ·replace H := HS.cnd_f h_3 H
    try simp -implicitDefEqProofs (maxSteps := 999999) [-selQ_sel, h_1, h_2, h_3]
    have hr := (HS.some H).symm; subst hr
    refine Hid.mk ⟨_, Wk.refl _, ?_⟩
    try simp -implicitDefEqProofs (maxSteps := 999999) [-selQ_sel, h_1, h_2, h_3]
  ·replace H := HS.cnd_f h_2 H
   try simp -implicitDefEqProofs (maxSteps := 999999) [-selQ_sel, h_1, h_2]
   have hr := (HS.some H).symm; subst hr
   refine Hid.mk ⟨_, Wk.refl _, ?_⟩
   try simp -implicitDefEqProofs (maxSteps := 999999) [-selQ_sel, h_1, h_2]
 ·replace H := HS.cnd_f h_1 H
  try simp -implicitDefEqProofs (maxSteps := 999999) [-selQ_sel, h_1]
  have hr := (HS.some H).symm; subst hr
  refine Hid.mk ⟨_, Wk.refl _, ?_⟩
  try simp -implicitDefEqProofs (maxSteps := 999999) [-selQ_sel, h_1]
theorem impl_SceneOk_ok0 (hm : Try.prog.follows .mixedOrders = true) (k_impl_NodeOk : Sound Try.prog 50 impl_NodeOk_x) (k_impl_NodeAt : Sound Try.prog 13 impl_NodeAt_x) (k_impl_Scene_isParent : Sound Try.prog 51 impl_Scene_isParent_x) (k_impl_DepthOf : Sound Try.prog 42 impl_DepthOf_x) (k_impl_inRange : Sound Try.prog 41 impl_inRange_x) : Sound Try.prog 14 impl_SceneOk_x := by
 refine xOf_sound fun q r h => ?_
 revert h; revert r; revert q; intro a0 r h
 refine fn_ok E0 hm Try.func14 rfl (by decide +kernel) (by rfl) fun Γ hn hk => ?_
 dsimp only [impl_SceneOk_e, impl_SceneOk_v]
 replace hn : Γ.n = 43 := hn
 replace hk : Γ.k = 0 := hk
 have H : HS (impl_SceneOk a0) r := h
 clear h; unfold impl_SceneOk at H
 try simp -implicitDefEqProofs at H
 refine Tr.of_vc (cl := tabC [(50, impl_NodeOk_x), (13, impl_NodeAt_x), (51, impl_Scene_isParent_x), (42, impl_DepthOf_x), (41, impl_inRange_x)]) (E := E0) [] (tab_cons k_impl_NodeOk (tab_cons k_impl_NodeAt (tab_cons k_impl_Scene_isParent (tab_cons k_impl_DepthOf (tab_cons k_impl_inRange tab_nil))))) hm (by rw [hn]; decide +kernel) ?_
 try simp -implicitDefEqProofs (maxSteps := 999999) [-selQ_sel]
 refine Hid.brV (fun h_1 => ?_) (fun h_1 => ?_)
 ·replace H := HS.cnd_t h_1 H
  try simp -implicitDefEqProofs (maxSteps := 999999) [-selQ_sel, h_1]
  obtain ⟨q, h_2, H⟩ := HS.bnd H
  refine Hid.mk (Tr.weak (s' := (impl_SceneOk_l0_S a0) 0) (Wk.ofk [0] hk (by rfl) (by simp -implicitDefEqProofs [impl_SceneOk_l0_S, h_1]) (by simp -implicitDefEqProofs [impl_SceneOk_l0_S, h_1])) ?_)
  refine wp_loop_of (S := (impl_SceneOk_l0_S a0)) (f := (impl_SceneOk_l0 a0)) (xt := (impl_SceneOk_l0_X a0)) ?_ ?_ h_2 ?_
  ·intro q; rcases q with ⟨⟩ | ⟨⟩ <;> simp [impl_SceneOk_l0_X]
  ·clear H h_2 q
   rintro x7 o R hf hR
   have H : HS (impl_SceneOk_l0 a0 x7) o := hf
   clear hf; unfold impl_SceneOk_l0 at H
   try simp -implicitDefEqProofs at H
   refine Tr.of_vc (cl := tabC [(50, impl_NodeOk_x), (13, impl_NodeAt_x), (51, impl_Scene_isParent_x), (42, impl_DepthOf_x), (41, impl_inRange_x)]) (E := E0) [] (tab_cons k_impl_NodeOk (tab_cons k_impl_NodeAt (tab_cons k_impl_Scene_isParent (tab_cons k_impl_DepthOf (tab_cons k_impl_inRange tab_nil))))) hm (by rw [hn]; decide +kernel) ?_
   try simp -implicitDefEqProofs (maxSteps := 999999) [-selQ_sel, impl_SceneOk_l0_S]
   refine Hid.brV (fun h_3 => ?_) (fun h_3 => ?_)
   ·replace H := HS.cnd_t h_3 H
    try simp -implicitDefEqProofs (maxSteps := 999999) [-selQ_sel, h_3]
    have hr := (HS.some H).symm; subst hr
    exact Hid.mk ⟨(impl_SceneOk_l0_X a0 (.inl ())).2, Wk.ofk [] hk (by rfl) (by simp -implicitDefEqProofs [impl_SceneOk_l0_X, h_3]) (by simp -implicitDefEqProofs [impl_SceneOk_l0_X, h_3]), hR⟩
   ·replace H := HS.cnd_f h_3 H
    try simp -implicitDefEqProofs (maxSteps := 999999) [-selQ_sel, h_3]
    obtain ⟨v8, h_4, H⟩ := HS.bnd H
    try simp -implicitDefEqProofs (maxSteps := 999999) [-selQ_sel, h_3, h_4]
    obtain ⟨v9, h_5, H⟩ := HS.bnd H
    try simp -implicitDefEqProofs (maxSteps := 999999) [-selQ_sel, h_3, h_4, h_5]
    refine Hid.selQ (fun h_6 => ?_) (fun h_6 => ?_)
    ·replace H := HS.cnd_t h_6 H
     try simp -implicitDefEqProofs (maxSteps := 999999) [-selQ_sel, h_3, h_4, h_5, h_6]
     obtain ⟨v10, h_7, H⟩ := HS.bnd H
     try simp -implicitDefEqProofs (maxSteps := 999999) [-selQ_sel, h_3, h_4, h_5, h_6, h_7]
     refine Hid.selQ (fun h_8 => ?_) (fun h_8 => ?_)
     ·replace H := HS.cnd_t h_8 H
      try simp -implicitDefEqProofs (maxSteps := 999999) [-selQ_sel, h_3, h_4, h_5, h_6, h_7, h_8]
      obtain ⟨v11, h_9, H⟩ := HS.bnd H
      try simp -implicitDefEqProofs (maxSteps := 999999) [-selQ_sel, h_3, h_4, h_5, h_6, h_7, h_8, h_9]
      refine Hid.selQ (fun h_10 => ?_) (fun h_10 => ?_)
      ·replace H := HS.cnd_t h_10 H
       try simp -implicitDefEqProofs (maxSteps := 999999) [-selQ_sel, h_3, h_4, h_5, h_6, h_7, h_8, h_9, h_10]
       obtain ⟨v12, h_11, H⟩ := HS.bnd H
       try simp -implicitDefEqProofs (maxSteps := 999999) [-selQ_sel, h_3, h_4, h_5, h_6, h_7, h_8, h_9, h_10, h_11]
       obtain ⟨v13, h_12, H⟩ := HS.bnd H
       try simp -implicitDefEqProofs (maxSteps := 999999) [-selQ_sel, h_3, h_4, h_5, h_6, h_7, h_8, h_9, h_10, h_11, h_12]
       refine Hid.brV (fun h_13 => ?_) (fun h_13 => ?_)
       ·replace H := HS.cnd_t h_13 H
        try simp -implicitDefEqProofs (maxSteps := 999999) [-selQ_sel, h_3, h_4, h_5, h_6, h_7, h_8, h_9, h_10, h_11, h_12, h_13]
        have hr := (HS.some H).symm; subst hr
        exact Hid.mk ⟨impl_SceneOk_l0_S a0 (IntKind.i64.wrap (x7 + 1)), Wk.ofk [0] hk (by rfl) (by simp -implicitDefEqProofs [impl_SceneOk_l0_S, h_3, h_4, h_5, h_6, h_7, h_8, h_9, h_10, h_11, h_12, h_13]) (by simp -implicitDefEqProofs [impl_SceneOk_l0_S, h_3, h_4, h_5, h_6, h_7, h_8, h_9, h_10, h_11, h_12, h_13]), hR⟩
       ·replace H := HS.cnd_f h_13 H
        try simp -implicitDefEqProofs (maxSteps := 999999) [-selQ_sel, h_3, h_4, h_5, h_6, h_7, h_8, h_9, h_10, h_11, h_12, h_13]
        have hr := (HS.some H).symm; subst hr
        exact Hid.mk ⟨(impl_SceneOk_l0_X a0 (.inr ())).2, Wk.ofk [] hk (by rfl) (by simp -implicitDefEqProofs [impl_SceneOk_l0_X, h_3, h_4, h_5, h_6, h_7, h_8, h_9, h_10, h_11, h_12, h_13]) (by simp -implicitDefEqProofs [impl_SceneOk_l0_X, h_3, h_4, h_5, h_6, h_7, h_8, h_9, h_10, h_11, h_12, h_13]), hR⟩
      ·replace H := HS.cnd_f h_10 H
       try simp -implicitDefEqProofs (maxSteps := 999999) [-selQ_sel, h_3, h_4, h_5, h_6, h_7, h_8, h_9, h_10]
       have hr := (HS.some H).symm; subst hr
       exact Hid.mk ⟨(impl_SceneOk_l0_X a0 (.inr ())).2, Wk.ofk [] hk (by rfl) (by simp -implicitDefEqProofs [impl_SceneOk_l0_X, h_3, h_4, h_5, h_6, h_7, h_8, h_9, h_10]) (by simp -implicitDefEqProofs [impl_SceneOk_l0_X, h_3, h_4, h_5, h_6, h_7, h_8, h_9, h_10]), hR⟩
     ·replace H := HS.cnd_f h_8 H
      try simp -implicitDefEqProofs (maxSteps := 999999) [-selQ_sel, h_3, h_4, h_5, h_6, h_7, h_8]
      have hr := (HS.some H).symm; subst hr
      exact Hid.mk ⟨(impl_SceneOk_l0_X a0 (.inr ())).2, Wk.ofk [] hk (by rfl) (by simp -implicitDefEqProofs [impl_SceneOk_l0_X, h_3, h_4, h_5, h_6, h_7, h_8]) (by simp -implicitDefEqProofs [impl_SceneOk_l0_X, h_3, h_4, h_5, h_6, h_7, h_8]), hR⟩
    ·replace H := HS.cnd_f h_6 H
     try simp -implicitDefEqProofs (maxSteps := 999999) [-selQ_sel, h_3, h_4, h_5, h_6]
     have hr := (HS.some H).symm; subst hr
     exact Hid.mk ⟨(impl_SceneOk_l0_X a0 (.inr ())).2, Wk.ofk [] hk (by rfl) (by simp -implicitDefEqProofs [impl_SceneOk_l0_X, h_3, h_4, h_5, h_6]) (by simp -implicitDefEqProofs [impl_SceneOk_l0_X, h_3, h_4, h_5, h_6]), hR⟩
  ·rcases q with ⟨⟩ | ⟨⟩
   ·dsimp only at H
    try simp -implicitDefEqProofs (maxSteps := 999999) [-selQ_sel, h_1, impl_SceneOk_l0_X]
    have hr := (HS.some H).symm; subst hr
    refine Hid.mk ⟨_, Wk.refl _, ?_⟩
    try simp -implicitDefEqProofs (maxSteps := 999999) [-selQ_sel, h_1]
   ·dsimp only at H
    try simp -implicitDefEqProofs (maxSteps := 999999) [-selQ_sel, h_1, impl_SceneOk_l0_X]
    have hr := (HS.some H).symm; subst hr
    refine Hid.mk ⟨_, Wk.refl _, ?_⟩
    try simp -implicitDefEqProofs (maxSteps := 999999) [-selQ_sel, h_1]
 ·replace H := HS.cnd_f h_1 H
  try simp -implicitDefEqProofs (maxSteps := 999999) [-selQ_sel, h_1]
  have hr := (HS.some H).symm; subst hr
  refine Hid.mk ⟨_, Wk.refl _, ?_⟩
  try simp -implicitDefEqProofs (maxSteps := 999999) [-selQ_sel, h_1]
theorem impl_copyScene_ok0 (hm : Try.prog.follows .mixedOrders = true) (k_impl_copyNode : Sound Try.prog 64 impl_copyNode_x) : Sound Try.prog 35 impl_copyScene_x := by
 refine xOf_sound fun q r h => ?_
 revert h; revert r; revert q; intro a0 r h
 refine fn_ok E0 hm Try.func35 rfl (by decide +kernel) (by rfl) fun Γ hn hk => ?_
 dsimp only [impl_copyScene_e, impl_copyScene_v]
 replace hn : Γ.n = 22 := hn
 replace hk : Γ.k = 0 := hk
 have H : HS (impl_copyScene a0) r := h
 clear h; unfold impl_copyScene at H
 try simp -implicitDefEqProofs at H
 refine Tr.of_vc (cl := tabC [(64, impl_copyNode_x)]) (E := E0) [] (tab_cons k_impl_copyNode tab_nil) hm (by rw [hn]; decide +kernel) ?_
 try simp -implicitDefEqProofs +decide (maxSteps := 999999) [-selQ_sel, hokQ_of]
 obtain ⟨q, h_1, H⟩ := HS.bnd H
 refine Hid.mk (Tr.weak (s' := (impl_copyScene_l0_S a0) (0, [])) (Wk.ofk [1, 2, 3] hk (by rfl) (by simp -implicitDefEqProofs [impl_copyScene_l0_S]) (by simp -implicitDefEqProofs [impl_copyScene_l0_S])) ?_)
 refine wp_loop_of (S := (impl_copyScene_l0_S a0)) (f := (impl_copyScene_l0 a0)) (xt := (impl_copyScene_l0_X a0)) ?_ ?_ h_1 ?_
 ·intro q; simp [impl_copyScene_l0_X]
 ·clear H h_1 q
  rintro ⟨x17, x18⟩ o R hf hR
  have H : HS (impl_copyScene_l0 a0 (x17, x18)) o := hf
  clear hf; unfold impl_copyScene_l0 at H
  try simp -implicitDefEqProofs at H
  refine Tr.of_vc (cl := tabC [(64, impl_copyNode_x)]) (E := E0) [] (tab_cons k_impl_copyNode tab_nil) hm (by rw [hn]; decide +kernel) ?_
  try simp -implicitDefEqProofs +decide (maxSteps := 999999) [-selQ_sel, hokQ_of, impl_copyScene_l0_S]
  refine Hid.brV (fun h_2 => ?_) (fun h_2 => ?_)
  ·replace H := HS.cnd_t h_2 H
   try simp -implicitDefEqProofs +decide (maxSteps := 999999) [-selQ_sel, hokQ_of, h_2]
   have hr := (HS.some H).symm; subst hr
   exact Hid.mk ⟨(impl_copyScene_l0_X a0 x18).2, Wk.ofk [0, 1, 2] hk (by rfl) (by simp -implicitDefEqProofs [impl_copyScene_l0_X, h_2]) (by simp -implicitDefEqProofs [impl_copyScene_l0_X, h_2]), hR⟩
  ·replace H := HS.cnd_f h_2 H
   try simp -implicitDefEqProofs +decide (maxSteps := 999999) [-selQ_sel, hokQ_of, h_2]
   obtain ⟨v19, h_3, H⟩ := HS.bnd H
   try simp -implicitDefEqProofs +decide (maxSteps := 999999) [-selQ_sel, hokQ_of, h_2, h_3]
   obtain ⟨⟨w21, w22, w23, w24, w25, w26, w27, w28, w29, w30, w31, w32, w33, w34⟩, h_4, H⟩ := HS.bnd H
   dsimp only at H
   try simp -implicitDefEqProofs +decide (maxSteps := 999999) [-selQ_sel, hokQ_of, h_2, h_3, h_4]
   obtain ⟨h_5, H⟩ := HS.chkP H
   try simp -implicitDefEqProofs +decide (maxSteps := 999999) [-selQ_sel, hokQ_of, h_2, h_3, h_4, h_5]
   have hr := (HS.some H).symm; subst hr
   exact Hid.mk ⟨impl_copyScene_l0_S a0 ((IntKind.i64.wrap (x17 + 1)), (x18 ++ [(TNode.mk w21 w22 w23 w24 (TPath.mk w30 w31) w25 w26 w32 w27 w28 w29 (TPath.mk w33 w34))])), Wk.trans (Wk.abs (id := 2) (j := 4) (js := [5, 6, 7, 8]) (by rfl) (by rfl) (by decide) (by simp -implicitDefEqProofs [impl_copyScene_l0_S, h_2, h_3, h_4, h_5]) (by rfl) (by simp -implicitDefEqProofs [impl_copyScene_l0_S, h_2, h_3, h_4, h_5]) (by simp -implicitDefEqProofs [impl_copyScene_l0_S, h_2, h_3, h_4, h_5])) (Wk.trans (Wk.abs (id := 2) (j := 5) (js := [6, 7, 8]) (by rfl) (by rfl) (by decide) (by simp -implicitDefEqProofs [impl_copyScene_l0_S, h_2, h_3, h_4, h_5]) (by rfl) (by simp -implicitDefEqProofs [impl_copyScene_l0_S, h_2, h_3, h_4, h_5]) (by simp -implicitDefEqProofs [impl_copyScene_l0_S, h_2, h_3, h_4, h_5])) (Wk.trans (Wk.abs (id := 2) (j := 6) (js := [7, 8]) (by rfl) (by rfl) (by decide) (by simp -implicitDefEqProofs [impl_copyScene_l0_S, h_2, h_3, h_4, h_5]) (by rfl) (by simp -implicitDefEqProofs [impl_copyScene_l0_S, h_2, h_3, h_4, h_5]) (by simp -implicitDefEqProofs [impl_copyScene_l0_S, h_2, h_3, h_4, h_5])) (Wk.trans (Wk.abs (id := 2) (j := 7) (js := [8]) (by rfl) (by rfl) (by decide) (by simp -implicitDefEqProofs [impl_copyScene_l0_S, h_2, h_3, h_4, h_5]) (by rfl) (by simp -implicitDefEqProofs [impl_copyScene_l0_S, h_2, h_3, h_4, h_5]) (by simp -implicitDefEqProofs [impl_copyScene_l0_S, h_2, h_3, h_4, h_5])) (Wk.trans (Wk.abs (id := 2) (j := 8) (js := []) (by rfl) (by rfl) (by decide) (by simp -implicitDefEqProofs [impl_copyScene_l0_S, h_2, h_3, h_4, h_5]) (by rfl) (by simp -implicitDefEqProofs [impl_copyScene_l0_S, h_2, h_3, h_4, h_5]) (by simp -implicitDefEqProofs [impl_copyScene_l0_S, h_2, h_3, h_4, h_5])) (Wk.ofk [0, 1, 2] hk (by rfl) (by simp -implicitDefEqProofs [impl_copyScene_l0_S, h_2, h_3, h_4, h_5]) (by simp -implicitDefEqProofs [impl_copyScene_l0_S, h_2, h_3, h_4, h_5])))))), hR⟩
 ·revert H h_1; revert q; intro y35 h_1 H
  try dsimp only at H
  try simp -implicitDefEqProofs +decide (maxSteps := 999999) [-selQ_sel, hokQ_of, impl_copyScene_l0_X]
  have hr := (HS.some H).symm; subst hr
  refine Hid.mk ⟨⟨[(2, AV.optr 0 0 1)], [(0, Ob.box [AV.osl 1 0 (List.length y35) (List.length y35)]), (1, Ob.nar 31 (List.map eNode y35) [0, 0, 0, 0, 0, 0, 0, 0, 0, 1, 2, 0, 0, 1, 0, 0, 0, 0, 0, 0, 0, 0, 0, 0, 0, 0, 0, 0, 0, 1, 2])], 2⟩, Wk.ofk [0, 2] hk (by rfl) (by simp -implicitDefEqProofs []) (by simp -implicitDefEqProofs []), ?_⟩
  try simp -implicitDefEqProofs +decide (maxSteps := 999999) [-selQ_sel, hokQ_of]
theorem laws_eqPointS_ok0 (hm : Try.prog.follows .mixedOrders = true) (k_laws_eqPoint : Sound Try.prog 111 laws_eqPoint_x) : Sound Try.prog 109 laws_eqPointS_x := by
 refine xOf_sound fun q r h => ?_
 obtain ⟨a0, a1⟩ := q
 refine fn_ok E0 hm Try.func109 rfl (by decide +kernel) (by rfl) fun Γ hn hk => ?_
 dsimp only [laws_eqPointS_e, laws_eqPointS_v]
 replace hn : Γ.n = 27 := hn
 replace hk : Γ.k = 0 := hk
 have H : HS (laws_eqPointS a0 a1) r := h
 clear h; unfold laws_eqPointS at H
 try simp -implicitDefEqProofs at H
 refine Tr.of_vc (cl := tabC [(111, laws_eqPoint_x)]) (E := E0) [] (tab_cons k_laws_eqPoint tab_nil) hm (by rw [hn]; decide +kernel) ?_
 try simp -implicitDefEqProofs +decide (maxSteps := 999999) [-selQ_sel, hokQ_of]
 refine Hid.brV (fun h_1 => ?_) (fun h_1 => ?_)
 ·replace H := HS.cnd_t h_1 H
  try simp -implicitDefEqProofs +decide (maxSteps := 999999) [-selQ_sel, hokQ_of, h_1]
  obtain ⟨q, h_2, H⟩ := HS.bnd H
  refine Hid.mk (Tr.weak (s' := (laws_eqPointS_l0_S a0 a1) 0) (Wk.ofk [] hk (by rfl) (by simp -implicitDefEqProofs [laws_eqPointS_l0_S, h_1]) (by simp -implicitDefEqProofs [laws_eqPointS_l0_S, h_1])) ?_)
  refine wp_loop_of (S := (laws_eqPointS_l0_S a0 a1)) (f := (laws_eqPointS_l0 a0 a1)) (xt := (laws_eqPointS_l0_X a0 a1)) ?_ ?_ h_2 ?_
  ·intro q; rcases q with ⟨⟩ | ⟨⟩ <;> simp [laws_eqPointS_l0_X]
  ·clear H h_2 q
   rintro x4 o R hf hR
   have H : HS (laws_eqPointS_l0 a0 a1 x4) o := hf
   clear hf; unfold laws_eqPointS_l0 at H
   try simp -implicitDefEqProofs at H
   refine Tr.of_vc (cl := tabC [(111, laws_eqPoint_x)]) (E := E0) [] (tab_cons k_laws_eqPoint tab_nil) hm (by rw [hn]; decide +kernel) ?_
   try simp -implicitDefEqProofs +decide (maxSteps := 999999) [-selQ_sel, hokQ_of, laws_eqPointS_l0_S]
   refine Hid.brV (fun h_3 => ?_) (fun h_3 => ?_)
   ·replace H := HS.cnd_t h_3 H
    try simp -implicitDefEqProofs +decide (maxSteps := 999999) [-selQ_sel, hokQ_of, h_3]
    have hr := (HS.some H).symm; subst hr
    exact Hid.mk ⟨(laws_eqPointS_l0_X a0 a1 (.inl ())).2, Wk.ofk [] hk (by rfl) (by simp -implicitDefEqProofs [laws_eqPointS_l0_X, h_3]) (by simp -implicitDefEqProofs [laws_eqPointS_l0_X, h_3]), hR⟩
   ·replace H := HS.cnd_f h_3 H
    try simp -implicitDefEqProofs +decide (maxSteps := 999999) [-selQ_sel, hokQ_of, h_3]
    obtain ⟨v5, h_4, H⟩ := HS.bnd H
    try simp -implicitDefEqProofs +decide (maxSteps := 999999) [-selQ_sel, hokQ_of, h_3, h_4]
    obtain ⟨v6, h_5, H⟩ := HS.bnd H
    try simp -implicitDefEqProofs +decide (maxSteps := 999999) [-selQ_sel, hokQ_of, h_3, h_4, h_5]
    obtain ⟨v7, h_6, H⟩ := HS.bnd H
    try simp -implicitDefEqProofs +decide (maxSteps := 999999) [-selQ_sel, hokQ_of, h_3, h_4, h_5, h_6]
    refine Hid.brV (fun h_7 => ?_) (fun h_7 => ?_)
    ·replace H := HS.cnd_t h_7 H
     try simp -implicitDefEqProofs +decide (maxSteps := 999999) [-selQ_sel, hokQ_of, h_3, h_4, h_5, h_6, h_7]
     have hr := (HS.some H).symm; subst hr
     exact Hid.mk ⟨laws_eqPointS_l0_S a0 a1 (IntKind.i64.wrap (x4 + 1)), Wk.ofk [] hk (by rfl) (by simp -implicitDefEqProofs [laws_eqPointS_l0_S, h_3, h_4, h_5, h_6, h_7]) (by simp -implicitDefEqProofs [laws_eqPointS_l0_S, h_3, h_4, h_5, h_6, h_7]), hR⟩
    ·replace H := HS.cnd_f h_7 H
     try simp -implicitDefEqProofs +decide (maxSteps := 999999) [-selQ_sel, hokQ_of, h_3, h_4, h_5, h_6, h_7]
     have hr := (HS.some H).symm; subst hr
     exact Hid.mk ⟨(laws_eqPointS_l0_X a0 a1 (.inr ())).2, Wk.ofk [] hk (by rfl) (by simp -implicitDefEqProofs [laws_eqPointS_l0_X, h_3, h_4, h_5, h_6, h_7]) (by simp -implicitDefEqProofs [laws_eqPointS_l0_X, h_3, h_4, h_5, h_6, h_7]), hR⟩
  ·rcases q with ⟨⟩ | ⟨⟩
   ·dsimp only at H
    try simp -implicitDefEqProofs +decide (maxSteps := 999999) [-selQ_sel, hokQ_of, h_1, laws_eqPointS_l0_X]
    have hr := (HS.some H).symm; subst hr
    refine Hid.mk ⟨_, Wk.refl _, ?_⟩
    try simp -implicitDefEqProofs +decide (maxSteps := 999999) [-selQ_sel, hokQ_of, h_1]
   ·dsimp only at H
    try simp -implicitDefEqProofs +decide (maxSteps := 999999) [-selQ_sel, hokQ_of, h_1, laws_eqPointS_l0_X]
    have hr := (HS.some H).symm; subst hr
    refine Hid.mk ⟨_, Wk.refl _, ?_⟩
    try simp -implicitDefEqProofs +decide (maxSteps := 999999) [-selQ_sel, hokQ_of, h_1]
 ·replace H := HS.cnd_f h_1 H
  try simp -implicitDefEqProofs +decide (maxSteps := 999999) [-selQ_sel, hokQ_of, h_1]
  have hr := (HS.some H).symm; subst hr
  refine Hid.mk ⟨_, Wk.refl _, ?_⟩
  try simp -implicitDefEqProofs +decide (maxSteps := 999999) [-selQ_sel, hokQ_of, h_1]
theorem spec_MatOk_ok0 (hm : Try.prog.follows .mixedOrders = true) (k_spec_l01In : Sound Try.prog 87 spec_l01In_x) : Sound Try.prog 98 spec_MatOk_x := by
 refine xOf_sound fun q r h => ?_
 revert h; revert r; revert q; intro a0 r h
 refine fn_ok E0 hm Try.func98 rfl (by decide +kernel) (by rfl) fun Γ hn hk => ?_
 dsimp only [spec_MatOk_e, spec_MatOk_v]
 replace hn : Γ.n = 44 := hn
 replace hk : Γ.k = 0 := hk
 have H : HS (spec_MatOk a0) r := h
 clear h; unfold spec_MatOk at H
 try simp -implicitDefEqProofs at H
 refine Tr.of_vc (cl := tabC [(87, spec_l01In_x)]) (E := E0) [] (tab_cons k_spec_l01In tab_nil) hm (by rw [hn]; decide +kernel) ?_
 try simp -implicitDefEqProofs (maxSteps := 999999) [-selQ_sel]
 obtain ⟨v1, h_1, H⟩ := HS.bnd H
 try simp -implicitDefEqProofs (maxSteps := 999999) [-selQ_sel, h_1]
 refine Hid.selQ (fun h_2 => ?_) (fun h_2 => ?_)
 ·replace H := HS.cnd_t h_2 H
  try simp -implicitDefEqProofs (maxSteps := 999999) [-selQ_sel, h_1, h_2]
  obtain ⟨v2, h_3, H⟩ := HS.bnd H
  try simp -implicitDefEqProofs (maxSteps := 999999) [-selQ_sel, h_1, h_2, h_3]
  refine Hid.selQ (fun h_4 => ?_) (fun h_4 => ?_)
  ·replace H := HS.cnd_t h_4 H
   try simp -implicitDefEqProofs (maxSteps := 999999) [-selQ_sel, h_1, h_2, h_3, h_4]
   obtain ⟨v3, h_5, H⟩ := HS.bnd H
   try simp -implicitDefEqProofs (maxSteps := 999999) [-selQ_sel, h_1, h_2, h_3, h_4, h_5]
   refine Hid.selQ (fun h_6 => ?_) (fun h_6 => ?_)
   ·replace H := HS.cnd_t h_6 H
    try simp -implicitDefEqProofs (maxSteps := 999999) [-selQ_sel, h_1, h_2, h_3, h_4, h_5, h_6]
    obtain ⟨v4, h_7, H⟩ := HS.bnd H
    try simp -implicitDefEqProofs (maxSteps := 999999) [-selQ_sel, h_1, h_2, h_3, h_4, h_5, h_6, h_7]
    refine Hid.selQ (fun h_8 => ?_) (fun h_8 => ?_)
    ·replace H := HS.cnd_t h_8 H
     try simp -implicitDefEqProofs (maxSteps := 999999) [-selQ_sel, h_1, h_2, h_3, h_4, h_5, h_6, h_7, h_8]
     obtain ⟨v5, h_9, H⟩ := HS.bnd H
     try simp -implicitDefEqProofs (maxSteps := 999999) [-selQ_sel, h_1, h_2, h_3, h_4, h_5, h_6, h_7, h_8, h_9]
     refine Hid.selQ (fun h_10 => ?_) (fun h_10 => ?_)
     ·replace H := HS.cnd_t h_10 H
      try simp -implicitDefEqProofs (maxSteps := 999999) [-selQ_sel, h_1, h_2, h_3, h_4, h_5, h_6, h_7, h_8, h_9, h_10]
      obtain ⟨v6, h_11, H⟩ := HS.bnd H
      try simp -implicitDefEqProofs (maxSteps := 999999) [-selQ_sel, h_1, h_2, h_3, h_4, h_5, h_6, h_7, h_8, h_9, h_10, h_11]
      have hr := (HS.some H).symm; subst hr
      refine Hid.mk ⟨_, Wk.refl _, ?_⟩
      try simp -implicitDefEqProofs (maxSteps := 999999) [-selQ_sel, h_1, h_2, h_3, h_4, h_5, h_6, h_7, h_8, h_9, h_10, h_11]
     ·replace H := HS.cnd_f h_10 H
      try simp -implicitDefEqProofs (maxSteps := 999999) [-selQ_sel, h_1, h_2, h_3, h_4, h_5, h_6, h_7, h_8, h_9, h_10]
      have hr := (HS.some H).symm; subst hr
      refine Hid.mk ⟨_, Wk.refl _, ?_⟩
      try simp -implicitDefEqProofs (maxSteps := 999999) [-selQ_sel, h_1, h_2, h_3, h_4, h_5, h_6, h_7, h_8, h_9, h_10]
    ·replace H := HS.cnd_f h_8 H
     try simp -implicitDefEqProofs (maxSteps := 999999) [-selQ_sel, h_1, h_2, h_3, h_4, h_5, h_6, h_7, h_8]
     have hr := (HS.some H).symm; subst hr
     refine Hid.mk ⟨_, Wk.refl _, ?_⟩
     try simp -implicitDefEqProofs (maxSteps := 999999) [-selQ_sel, h_1, h_2, h_3, h_4, h_5, h_6, h_7, h_8]
   ·replace H := HS.cnd_f h_6 H
    try simp -implicitDefEqProofs (maxSteps := 999999) [-selQ_sel, h_1, h_2, h_3, h_4, h_5, h_6]
    have hr := (HS.some H).symm; subst hr
    refine Hid.mk ⟨_, Wk.refl _, ?_⟩
    try simp -implicitDefEqProofs (maxSteps := 999999) [-selQ_sel, h_1, h_2, h_3, h_4, h_5, h_6]
  ·replace H := HS.cnd_f h_4 H
   try simp -implicitDefEqProofs (maxSteps := 999999) [-selQ_sel, h_1, h_2, h_3, h_4]
   have hr := (HS.some H).symm; subst hr
   refine Hid.mk ⟨_, Wk.refl _, ?_⟩
   try simp -implicitDefEqProofs (maxSteps := 999999) [-selQ_sel, h_1, h_2, h_3, h_4]
 ·replace H := HS.cnd_f h_2 H
  try simp -implicitDefEqProofs (maxSteps := 999999) [-selQ_sel, h_1, h_2]
  have hr := (HS.some H).symm; subst hr
  refine Hid.mk ⟨_, Wk.refl _, ?_⟩
  try simp -implicitDefEqProofs (maxSteps := 999999) [-selQ_sel, h_1, h_2]
theorem laws_eqIntS_ok0 (hm : Try.prog.follows .mixedOrders = true) : Sound Try.prog 68 laws_eqIntS_x := by
 refine xOf_sound fun q r h => ?_
 obtain ⟨a0, a1⟩ := q
 refine fn_ok E0 hm Try.func68 rfl (by decide +kernel) (by rfl) fun Γ hn hk => ?_
 dsimp only [laws_eqIntS_e, laws_eqIntS_v]
 replace hn : Γ.n = 26 := hn
 replace hk : Γ.k = 0 := hk
 have H : HS (laws_eqIntS a0 a1) r := h
 clear h; unfold laws_eqIntS at H
 try simp -implicitDefEqProofs at H
 refine Tr.of_vc (cl := tabC []) (E := E0) [] tab_nil hm (by rw [hn]; decide +kernel) ?_
 try simp -implicitDefEqProofs +decide (maxSteps := 999999) [-selQ_sel, hokQ_of]
 refine Hid.brV (fun h_1 => ?_) (fun h_1 => ?_)
 ·replace H := HS.cnd_t h_1 H
  try simp -implicitDefEqProofs +decide (maxSteps := 999999) [-selQ_sel, hokQ_of, h_1]
  obtain ⟨q, h_2, H⟩ := HS.bnd H
  refine Hid.mk (Tr.weak (s' := (laws_eqIntS_l0_S a0 a1) 0) (Wk.ofk [] hk (by rfl) (by simp -implicitDefEqProofs [laws_eqIntS_l0_S, h_1]) (by simp -implicitDefEqProofs [laws_eqIntS_l0_S, h_1])) ?_)
  refine wp_loop_of (S := (laws_eqIntS_l0_S a0 a1)) (f := (laws_eqIntS_l0 a0 a1)) (xt := (laws_eqIntS_l0_X a0 a1)) ?_ ?_ h_2 ?_
  ·intro q; rcases q with ⟨⟩ | ⟨⟩ <;> simp [laws_eqIntS_l0_X]
  ·clear H h_2 q
   rintro x3 o R hf hR
   have H : HS (laws_eqIntS_l0 a0 a1 x3) o := hf
   clear hf; unfold laws_eqIntS_l0 at H
   try simp -implicitDefEqProofs at H
   refine Tr.of_vc (cl := tabC []) (E := E0) [] tab_nil hm (by rw [hn]; decide +kernel) ?_
   try simp -implicitDefEqProofs +decide (maxSteps := 999999) [-selQ_sel, hokQ_of, laws_eqIntS_l0_S]
   refine Hid.brV (fun h_3 => ?_) (fun h_3 => ?_)
   ·replace H := HS.cnd_t h_3 H
    try simp -implicitDefEqProofs +decide (maxSteps := 999999) [-selQ_sel, hokQ_of, h_3]
    have hr := (HS.some H).symm; subst hr
    exact Hid.mk ⟨(laws_eqIntS_l0_X a0 a1 (.inl ())).2, Wk.ofk [] hk (by rfl) (by simp -implicitDefEqProofs [laws_eqIntS_l0_X, h_3]) (by simp -implicitDefEqProofs [laws_eqIntS_l0_X, h_3]), hR⟩
   ·replace H := HS.cnd_f h_3 H
    try simp -implicitDefEqProofs +decide (maxSteps := 999999) [-selQ_sel, hokQ_of, h_3]
    obtain ⟨v4, h_4, H⟩ := HS.bnd H
    try simp -implicitDefEqProofs +decide (maxSteps := 999999) [-selQ_sel, hokQ_of, h_3, h_4]
    obtain ⟨v5, h_5, H⟩ := HS.bnd H
    try simp -implicitDefEqProofs +decide (maxSteps := 999999) [-selQ_sel, hokQ_of, h_3, h_4, h_5]
    refine Hid.brV (fun h_6 => ?_) (fun h_6 => ?_)
    ·replace H := HS.cnd_t h_6 H
     try simp -implicitDefEqProofs +decide (maxSteps := 999999) [-selQ_sel, hokQ_of, h_3, h_4, h_5, h_6]
     have hr := (HS.some H).symm; subst hr
     exact Hid.mk ⟨laws_eqIntS_l0_S a0 a1 (IntKind.i64.wrap (x3 + 1)), Wk.ofk [] hk (by rfl) (by simp -implicitDefEqProofs [laws_eqIntS_l0_S, h_3, h_4, h_5, h_6]) (by simp -implicitDefEqProofs [laws_eqIntS_l0_S, h_3, h_4, h_5, h_6]), hR⟩
    ·replace H := HS.cnd_f h_6 H
     try simp -implicitDefEqProofs +decide (maxSteps := 999999) [-selQ_sel, hokQ_of, h_3, h_4, h_5, h_6]
     have hr := (HS.some H).symm; subst hr
     exact Hid.mk ⟨(laws_eqIntS_l0_X a0 a1 (.inr ())).2, Wk.ofk [] hk (by rfl) (by simp -implicitDefEqProofs [laws_eqIntS_l0_X, h_3, h_4, h_5, h_6]) (by simp -implicitDefEqProofs [laws_eqIntS_l0_X, h_3, h_4, h_5, h_6]), hR⟩
  ·rcases q with ⟨⟩ | ⟨⟩
   ·dsimp only at H
    try simp -implicitDefEqProofs +decide (maxSteps := 999999) [-selQ_sel, hokQ_of, h_1, laws_eqIntS_l0_X]
    have hr := (HS.some H).symm; subst hr
    refine Hid.mk ⟨_, Wk.refl _, ?_⟩
    try simp -implicitDefEqProofs +decide (maxSteps := 999999) [-selQ_sel, hokQ_of, h_1]
   ·dsimp only at H
    try simp -implicitDefEqProofs +decide (maxSteps := 999999) [-selQ_sel, hokQ_of, h_1, laws_eqIntS_l0_X]
    have hr := (HS.some H).symm; subst hr
    refine Hid.mk ⟨_, Wk.refl _, ?_⟩
    try simp -implicitDefEqProofs +decide (maxSteps := 999999) [-selQ_sel, hokQ_of, h_1]
 ·replace H := HS.cnd_f h_1 H
  try simp -implicitDefEqProofs +decide (maxSteps := 999999) [-selQ_sel, hokQ_of, h_1]
  have hr := (HS.some H).symm; subst hr
  refine Hid.mk ⟨_, Wk.refl _, ?_⟩
  try simp -implicitDefEqProofs +decide (maxSteps := 999999) [-selQ_sel, hokQ_of, h_1]
theorem impl_DashOk_ok0 (hm : Try.prog.follows .mixedOrders = true) (k_impl_inRange : Sound Try.prog 41 impl_inRange_x) : Sound Try.prog 91 impl_DashOk_x := by
 refine xOf_sound fun q r h => ?_
 revert h; revert r; revert q; intro a0 r h
 refine fn_ok E0 hm Try.func91 rfl (by decide +kernel) (by rfl) fun Γ hn hk => ?_
 dsimp only [impl_DashOk_e, impl_DashOk_v]
 replace hn : Γ.n = 24 := hn
 replace hk : Γ.k = 0 := hk
 have H : HS (impl_DashOk a0) r := h
 clear h; unfold impl_DashOk at H
 try simp -implicitDefEqProofs at H
 refine Tr.of_vc (cl := tabC [(41, impl_inRange_x)]) (E := E0) [] (tab_cons k_impl_inRange tab_nil) hm (by rw [hn]; decide +kernel) ?_
 try simp -implicitDefEqProofs (maxSteps := 999999) [-selQ_sel]
 obtain ⟨q, h_1, H⟩ := HS.bnd H
 refine Hid.mk (Tr.weak (s' := (impl_DashOk_l0_S a0) 0) (Wk.ofk [] hk (by rfl) (by simp -implicitDefEqProofs [impl_DashOk_l0_S]) (by simp -implicitDefEqProofs [impl_DashOk_l0_S])) ?_)
 refine wp_loop_of (S := (impl_DashOk_l0_S a0)) (f := (impl_DashOk_l0 a0)) (xt := (impl_DashOk_l0_X a0)) ?_ ?_ h_1 ?_
 ·intro q; rcases q with ⟨⟩ | ⟨⟩ <;> simp [impl_DashOk_l0_X]
 ·clear H h_1 q
  rintro x3 o R hf hR
  have H : HS (impl_DashOk_l0 a0 x3) o := hf
  clear hf; unfold impl_DashOk_l0 at H
  try simp -implicitDefEqProofs at H
  refine Tr.of_vc (cl := tabC [(41, impl_inRange_x)]) (E := E0) [] (tab_cons k_impl_inRange tab_nil) hm (by rw [hn]; decide +kernel) ?_
  try simp -implicitDefEqProofs (maxSteps := 999999) [-selQ_sel, impl_DashOk_l0_S]
  refine Hid.brV (fun h_2 => ?_) (fun h_2 => ?_)
  ·replace H := HS.cnd_t h_2 H
   try simp -implicitDefEqProofs (maxSteps := 999999) [-selQ_sel, h_2]
   have hr := (HS.some H).symm; subst hr
   exact Hid.mk ⟨(impl_DashOk_l0_X a0 (.inl ())).2, Wk.ofk [] hk (by rfl) (by simp -implicitDefEqProofs [impl_DashOk_l0_X, h_2]) (by simp -implicitDefEqProofs [impl_DashOk_l0_X, h_2]), hR⟩
  ·replace H := HS.cnd_f h_2 H
   try simp -implicitDefEqProofs (maxSteps := 999999) [-selQ_sel, h_2]
   obtain ⟨v4, h_3, H⟩ := HS.bnd H
   try simp -implicitDefEqProofs (maxSteps := 999999) [-selQ_sel, h_2, h_3]
   obtain ⟨v5, h_4, H⟩ := HS.bnd H
   try simp -implicitDefEqProofs (maxSteps := 999999) [-selQ_sel, h_2, h_3, h_4]
   refine Hid.brV (fun h_5 => ?_) (fun h_5 => ?_)
   ·replace H := HS.cnd_t h_5 H
    try simp -implicitDefEqProofs (maxSteps := 999999) [-selQ_sel, h_2, h_3, h_4, h_5]
    have hr := (HS.some H).symm; subst hr
    exact Hid.mk ⟨impl_DashOk_l0_S a0 (IntKind.i64.wrap (x3 + 1)), Wk.ofk [] hk (by rfl) (by simp -implicitDefEqProofs [impl_DashOk_l0_S, h_2, h_3, h_4, h_5]) (by simp -implicitDefEqProofs [impl_DashOk_l0_S, h_2, h_3, h_4, h_5]), hR⟩
   ·replace H := HS.cnd_f h_5 H
    try simp -implicitDefEqProofs (maxSteps := 999999) [-selQ_sel, h_2, h_3, h_4, h_5]
    have hr := (HS.some H).symm; subst hr
    exact Hid.mk ⟨(impl_DashOk_l0_X a0 (.inr ())).2, Wk.ofk [] hk (by rfl) (by simp -implicitDefEqProofs [impl_DashOk_l0_X, h_2, h_3, h_4, h_5]) (by simp -implicitDefEqProofs [impl_DashOk_l0_X, h_2, h_3, h_4, h_5]), hR⟩
 ·rcases q with ⟨⟩ | ⟨⟩
  ·dsimp only at H
   try simp -implicitDefEqProofs (maxSteps := 999999) [-selQ_sel, impl_DashOk_l0_X]
   refine Hid.selQ (fun h_6 => ?_) (fun h_6 => ?_)
   ·replace H := HS.cnd_t h_6 H
    try simp -implicitDefEqProofs (maxSteps := 999999) [-selQ_sel, h_6]
    have hr := (HS.some H).symm; subst hr
    refine Hid.mk ⟨_, Wk.refl _, ?_⟩
    try simp -implicitDefEqProofs (maxSteps := 999999) [-selQ_sel, h_6]
   ·replace H := HS.cnd_f h_6 H
    try simp -implicitDefEqProofs (maxSteps := 999999) [-selQ_sel, h_6]
    have hr := (HS.some H).symm; subst hr
    refine Hid.mk ⟨_, Wk.refl _, ?_⟩
    try simp -implicitDefEqProofs (maxSteps := 999999) [-selQ_sel, h_6]
  ·dsimp only at H
   try simp -implicitDefEqProofs (maxSteps := 999999) [-selQ_sel, impl_DashOk_l0_X]
   have hr := (HS.some H).symm; subst hr
   refine Hid.mk ⟨_, Wk.refl _, ?_⟩
   try simp -implicitDefEqProofs (maxSteps := 999999) [-selQ_sel]
theorem laws_eqPaint_ok0 (hm : Try.prog.follows .mixedOrders = true) (k_laws_eqColor : Sound Try.prog 110 laws_eqColor_x) (k_laws_eqPoint : Sound Try.prog 111 laws_eqPoint_x) : Sound Try.prog 69 laws_eqPaint_x := by
 refine xOf_sound fun q r h => ?_
 obtain ⟨a0, a1⟩ := q
 refine fn_ok E0 hm Try.func69 rfl (by decide +kernel) (by rfl) fun Γ hn hk => ?_
 dsimp only [laws_eqPaint_e, laws_eqPaint_v]
 replace hn : Γ.n = 34 := hn
 replace hk : Γ.k = 0 := hk
 have H : HS (laws_eqPaint a0 a1) r := h
 clear h; unfold laws_eqPaint at H
 try simp -implicitDefEqProofs at H
 refine Tr.of_vc (cl := tabC [(110, laws_eqColor_x), (111, laws_eqPoint_x)]) (E := E0) [] (tab_cons k_laws_eqColor (tab_cons k_laws_eqPoint tab_nil)) hm (by rw [hn]; decide +kernel) ?_
 try simp -implicitDefEqProofs (maxSteps := 999999) [-selQ_sel]
 refine Hid.brV (fun h_1 => ?_) (fun h_1 => ?_)
 ·replace H := HS.cnd_t h_1 H
  try simp -implicitDefEqProofs (maxSteps := 999999) [-selQ_sel, h_1]
  obtain ⟨v1, h_2, H⟩ := HS.bnd H
  try simp -implicitDefEqProofs (maxSteps := 999999) [-selQ_sel, h_1, h_2]
  refine Hid.brV (fun h_3 => ?_) (fun h_3 => ?_)
  ·replace H := HS.cnd_t h_3 H
   try simp -implicitDefEqProofs (maxSteps := 999999) [-selQ_sel, h_1, h_2, h_3]
   obtain ⟨v2, h_4, H⟩ := HS.bnd H
   try simp -implicitDefEqProofs (maxSteps := 999999) [-selQ_sel, h_1, h_2, h_3, h_4]
   refine Hid.brV (fun h_5 => ?_) (fun h_5 => ?_)
   ·replace H := HS.cnd_t h_5 H
    try simp -implicitDefEqProofs (maxSteps := 999999) [-selQ_sel, h_1, h_2, h_3, h_4, h_5]
    obtain ⟨v3, h_6, H⟩ := HS.bnd H
    try simp -implicitDefEqProofs (maxSteps := 999999) [-selQ_sel, h_1, h_2, h_3, h_4, h_5, h_6]
    refine Hid.brV (fun h_7 => ?_) (fun h_7 => ?_)
    ·replace H := HS.cnd_t h_7 H
     try simp -implicitDefEqProofs (maxSteps := 999999) [-selQ_sel, h_1, h_2, h_3, h_4, h_5, h_6, h_7]
     obtain ⟨v4, h_8, H⟩ := HS.bnd H
     try simp -implicitDefEqProofs (maxSteps := 999999) [-selQ_sel, h_1, h_2, h_3, h_4, h_5, h_6, h_7, h_8]
     refine Hid.brV (fun h_9 => ?_) (fun h_9 => ?_)
     ·replace H := HS.cnd_t h_9 H
      try simp -implicitDefEqProofs (maxSteps := 999999) [-selQ_sel, h_1, h_2, h_3, h_4, h_5, h_6, h_7, h_8, h_9]
      have hr := (HS.some H).symm; subst hr
      refine Hid.mk ⟨_, Wk.refl _, ?_⟩
      try simp -implicitDefEqProofs (maxSteps := 999999) [-selQ_sel, h_1, h_2, h_3, h_4, h_5, h_6, h_7, h_8, h_9]
     ·replace H := HS.cnd_f h_9 H
      try simp -implicitDefEqProofs (maxSteps := 999999) [-selQ_sel, h_1, h_2, h_3, h_4, h_5, h_6, h_7, h_8, h_9]
      have hr := (HS.some H).symm; subst hr
      refine Hid.mk ⟨_, Wk.refl _, ?_⟩
      try simp -implicitDefEqProofs (maxSteps := 999999) [-selQ_sel, h_1, h_2, h_3, h_4, h_5, h_6, h_7, h_8, h_9]
    ·replace H := HS.cnd_f h_7 H
     try simp -implicitDefEqProofs (maxSteps := 999999) [-selQ_sel, h_1, h_2, h_3, h_4, h_5, h_6, h_7]
     have hr := (HS.some H).symm; subst hr
     refine Hid.mk ⟨_, Wk.refl _, ?_⟩
     try simp -implicitDefEqProofs (maxSteps := 999999) [-selQ_sel, h_1, h_2, h_3, h_4, h_5, h_6, h_7]
   ·replace H := HS.cnd_f h_5 H
    try simp -implicitDefEqProofs (maxSteps := 999999) [-selQ_sel, h_1, h_2, h_3, h_4, h_5]
    have hr := (HS.some H).symm; subst hr
    refine Hid.mk ⟨_, Wk.refl _, ?_⟩
    try simp -implicitDefEqProofs (maxSteps := 999999) [-selQ_sel, h_1, h_2, h_3, h_4, h_5]
  ·replace H := HS.cnd_f h_3 H
   try simp -implicitDefEqProofs (maxSteps := 999999) [-selQ_sel, h_1, h_2, h_3]
   have hr := (HS.some H).symm; subst hr
   refine Hid.mk ⟨_, Wk.refl _, ?_⟩
   try simp -implicitDefEqProofs (maxSteps := 999999) [-selQ_sel, h_1, h_2, h_3]
 ·replace H := HS.cnd_f h_1 H
  try simp -implicitDefEqProofs (maxSteps := 999999) [-selQ_sel, h_1]
  have hr := (HS.some H).symm; subst hr
  refine Hid.mk ⟨_, Wk.refl _, ?_⟩
  try simp -implicitDefEqProofs (maxSteps := 999999) [-selQ_sel, h_1]
theorem impl_pointsOk_ok0 (hm : Try.prog.follows .mixedOrders = true) (k_impl_PointOk : Sound Try.prog 123 impl_PointOk_x) : Sound Try.prog 120 impl_pointsOk_x := by
 refine xOf_sound fun q r h => ?_
 revert h; revert r; revert q; intro a0 r h
 refine fn_ok E0 hm Try.func120 rfl (by decide +kernel) (by rfl) fun Γ hn hk => ?_
 dsimp only [impl_pointsOk_e, impl_pointsOk_v]
 replace hn : Γ.n = 15 := hn
 replace hk : Γ.k = 0 := hk
 have H : HS (impl_pointsOk a0) r := h
 clear h; unfold impl_pointsOk at H
 try simp -implicitDefEqProofs at H
 refine Tr.of_vc (cl := tabC [(123, impl_PointOk_x)]) (E := E0) [] (tab_cons k_impl_PointOk tab_nil) hm (by rw [hn]; decide +kernel) ?_
 try simp -implicitDefEqProofs (maxSteps := 999999) [-selQ_sel]
 obtain ⟨q, h_1, H⟩ := HS.bnd H
 refine Hid.mk (Tr.weak (s' := (impl_pointsOk_l0_S a0) 0) (Wk.ofk [] hk (by rfl) (by simp -implicitDefEqProofs [impl_pointsOk_l0_S]) (by simp -implicitDefEqProofs [impl_pointsOk_l0_S])) ?_)
 refine wp_loop_of (S := (impl_pointsOk_l0_S a0)) (f := (impl_pointsOk_l0 a0)) (xt := (impl_pointsOk_l0_X a0)) ?_ ?_ h_1 ?_
 ·intro q; rcases q with ⟨⟩ | ⟨⟩ <;> simp [impl_pointsOk_l0_X]
 ·clear H h_1 q
  rintro x3 o R hf hR
  have H : HS (impl_pointsOk_l0 a0 x3) o := hf
  clear hf; unfold impl_pointsOk_l0 at H
  try simp -implicitDefEqProofs at H
  refine Tr.of_vc (cl := tabC [(123, impl_PointOk_x)]) (E := E0) [] (tab_cons k_impl_PointOk tab_nil) hm (by rw [hn]; decide +kernel) ?_
  try simp -implicitDefEqProofs (maxSteps := 999999) [-selQ_sel, impl_pointsOk_l0_S]
  refine Hid.brV (fun h_2 => ?_) (fun h_2 => ?_)
  ·replace H := HS.cnd_t h_2 H
   try simp -implicitDefEqProofs (maxSteps := 999999) [-selQ_sel, h_2]
   have hr := (HS.some H).symm; subst hr
   exact Hid.mk ⟨(impl_pointsOk_l0_X a0 (.inl ())).2, Wk.ofk [] hk (by rfl) (by simp -implicitDefEqProofs [impl_pointsOk_l0_X, h_2]) (by simp -implicitDefEqProofs [impl_pointsOk_l0_X, h_2]), hR⟩
  ·replace H := HS.cnd_f h_2 H
   try simp -implicitDefEqProofs (maxSteps := 999999) [-selQ_sel, h_2]
   obtain ⟨v4, h_3, H⟩ := HS.bnd H
   try simp -implicitDefEqProofs (maxSteps := 999999) [-selQ_sel, h_2, h_3]
   obtain ⟨v5, h_4, H⟩ := HS.bnd H
   try simp -implicitDefEqProofs (maxSteps := 999999) [-selQ_sel, h_2, h_3, h_4]
   refine Hid.brV (fun h_5 => ?_) (fun h_5 => ?_)
   ·replace H := HS.cnd_t h_5 H
    try simp -implicitDefEqProofs (maxSteps := 999999) [-selQ_sel, h_2, h_3, h_4, h_5]
    have hr := (HS.some H).symm; subst hr
    exact Hid.mk ⟨impl_pointsOk_l0_S a0 (IntKind.i64.wrap (x3 + 1)), Wk.ofk [] hk (by rfl) (by simp -implicitDefEqProofs [impl_pointsOk_l0_S, h_2, h_3, h_4, h_5]) (by simp -implicitDefEqProofs [impl_pointsOk_l0_S, h_2, h_3, h_4, h_5]), hR⟩
   ·replace H := HS.cnd_f h_5 H
    try simp -implicitDefEqProofs (maxSteps := 999999) [-selQ_sel, h_2, h_3, h_4, h_5]
    have hr := (HS.some H).symm; subst hr
    exact Hid.mk ⟨(impl_pointsOk_l0_X a0 (.inr ())).2, Wk.ofk [] hk (by rfl) (by simp -implicitDefEqProofs [impl_pointsOk_l0_X, h_2, h_3, h_4, h_5]) (by simp -implicitDefEqProofs [impl_pointsOk_l0_X, h_2, h_3, h_4, h_5]), hR⟩
 ·rcases q with ⟨⟩ | ⟨⟩
  ·dsimp only at H
   try simp -implicitDefEqProofs (maxSteps := 999999) [-selQ_sel, impl_pointsOk_l0_X]
   have hr := (HS.some H).symm; subst hr
   refine Hid.mk ⟨_, Wk.refl _, ?_⟩
   try simp -implicitDefEqProofs (maxSteps := 999999) [-selQ_sel]
  ·dsimp only at H
   try simp -implicitDefEqProofs (maxSteps := 999999) [-selQ_sel, impl_pointsOk_l0_X]
   have hr := (HS.some H).symm; subst hr
   refine Hid.mk ⟨_, Wk.refl _, ?_⟩
   try simp -implicitDefEqProofs (maxSteps := 999999) [-selQ_sel]
theorem impl_KidsOf_ok0 (hm : Try.prog.follows .mixedOrders = true) : Sound Try.prog 75 impl_KidsOf_x := by
 refine xOf_sound fun q r h => ?_
 obtain ⟨a0, a1⟩ := q
 refine fn_ok E0 hm Try.func75 rfl (by decide +kernel) (by rfl) fun Γ hn hk => ?_
 dsimp only [impl_KidsOf_e, impl_KidsOf_v]
 replace hn : Γ.n = 26 := hn
 replace hk : Γ.k = 0 := hk
 have H : HS (impl_KidsOf a0 a1) r := h
 clear h; unfold impl_KidsOf at H
 try simp -implicitDefEqProofs at H
 refine Tr.of_vc (cl := tabC []) (E := E0) [] tab_nil hm (by rw [hn]; decide +kernel) ?_
 try simp -implicitDefEqProofs (maxSteps := 999999) [-selQ_sel]
 obtain ⟨q, h_1, H⟩ := HS.bnd H
 refine Hid.mk (Tr.weak (s' := (impl_KidsOf_l0_S a0 a1) ([], 0)) (Wk.ofk [1] hk (by rfl) (by simp -implicitDefEqProofs [impl_KidsOf_l0_S]) (by simp -implicitDefEqProofs [impl_KidsOf_l0_S])) ?_)
 refine wp_loop_of (S := (impl_KidsOf_l0_S a0 a1)) (f := (impl_KidsOf_l0 a0 a1)) (xt := (impl_KidsOf_l0_X a0 a1)) ?_ ?_ h_1 ?_
 ·intro q; simp [impl_KidsOf_l0_X]
 ·clear H h_1 q
  rintro ⟨x2, x3⟩ o R hf hR
  have H : HS (impl_KidsOf_l0 a0 a1 (x2, x3)) o := hf
  clear hf; unfold impl_KidsOf_l0 at H
  try simp -implicitDefEqProofs at H
  refine Tr.of_vc (cl := tabC []) (E := E0) [] tab_nil hm (by rw [hn]; decide +kernel) ?_
  try simp -implicitDefEqProofs (maxSteps := 999999) [-selQ_sel, impl_KidsOf_l0_S]
  refine Hid.brV (fun h_2 => ?_) (fun h_2 => ?_)
  ·replace H := HS.cnd_t h_2 H
   try simp -implicitDefEqProofs (maxSteps := 999999) [-selQ_sel, h_2]
   have hr := (HS.some H).symm; subst hr
   exact Hid.mk ⟨(impl_KidsOf_l0_X a0 a1 x2).2, Wk.ofk [0] hk (by rfl) (by simp -implicitDefEqProofs [impl_KidsOf_l0_X, h_2]) (by simp -implicitDefEqProofs [impl_KidsOf_l0_X, h_2]), hR⟩
  ·replace H := HS.cnd_f h_2 H
   try simp -implicitDefEqProofs (maxSteps := 999999) [-selQ_sel, h_2]
   obtain ⟨v4, h_3, H⟩ := HS.bnd H
   try simp -implicitDefEqProofs (maxSteps := 999999) [-selQ_sel, h_2, h_3]
   refine Hid.brV (fun h_4 => ?_) (fun h_4 => ?_)
   ·replace H := HS.cnd_t h_4 H
    try simp -implicitDefEqProofs (maxSteps := 999999) [-selQ_sel, h_2, h_3, h_4]
    obtain ⟨h_5, H⟩ := HS.chkP H
    try simp -implicitDefEqProofs (maxSteps := 999999) [-selQ_sel, h_2, h_3, h_4, h_5]
    obtain ⟨l5, h_6, H⟩ := HS.nam H
    have m_7 := congrArg (List.map (AV.int .i64)) h_6
    have q_8 := congrArg List.length h_6
    simp -implicitDefEqProofs at m_7 q_8
    try simp only [q_8] at m_7
    try simp only [q_8] at h_5
    try simp -implicitDefEqProofs (maxSteps := 999999) [-selQ_sel, h_2, h_3, h_4, h_5, m_7, q_8]
    have hr := (HS.some H).symm; subst hr
    exact Hid.mk ⟨impl_KidsOf_l0_S a0 a1 (l5, (IntKind.i64.wrap (x3 + 1))), Wk.ofk [0] hk (by rfl) (by simp -implicitDefEqProofs [impl_KidsOf_l0_S, h_2, h_3, h_4, h_5, m_7, q_8]) (by simp -implicitDefEqProofs [impl_KidsOf_l0_S, h_2, h_3, h_4, h_5, m_7, q_8]), hR⟩
   ·replace H := HS.cnd_f h_4 H
    try simp -implicitDefEqProofs (maxSteps := 999999) [-selQ_sel, h_2, h_3, h_4]
    have hr := (HS.some H).symm; subst hr
    exact Hid.mk ⟨impl_KidsOf_l0_S a0 a1 (x2, (IntKind.i64.wrap (x3 + 1))), Wk.ofk [0] hk (by rfl) (by simp -implicitDefEqProofs [impl_KidsOf_l0_S, h_2, h_3, h_4]) (by simp -implicitDefEqProofs [impl_KidsOf_l0_S, h_2, h_3, h_4]), hR⟩
 ·revert H h_1; revert q; intro y6 h_1 H
  try dsimp only at H
  try simp -implicitDefEqProofs (maxSteps := 999999) [-selQ_sel, impl_KidsOf_l0_X]
  have hr := (HS.some H).symm; subst hr
  refine Hid.mk ⟨_, Wk.refl _, ?_⟩
  try simp -implicitDefEqProofs (maxSteps := 999999) [-selQ_sel]
theorem impl_NeedOf_ok0 (hm : Try.prog.follows .mixedOrders = true) : Sound Try.prog 121 impl_NeedOf_x := by
 refine xOf_sound fun q r h => ?_
 revert h; revert r; revert q; intro a0 r h
 refine fn_ok E0 hm Try.func121 rfl (by decide +kernel) (by rfl) fun Γ hn hk => ?_
 dsimp only [impl_NeedOf_e, impl_NeedOf_v]
 replace hn : Γ.n = 13 := hn
 replace hk : Γ.k = 0 := hk
 have H : HS (impl_NeedOf a0) r := h
 clear h; unfold impl_NeedOf at H
 try simp -implicitDefEqProofs at H
 refine Tr.of_vc (cl := tabC []) (E := E0) [] tab_nil hm (by rw [hn]; decide +kernel) ?_
 try simp -implicitDefEqProofs (maxSteps := 999999) [-selQ_sel]
 refine Hid.brV (fun h_1 => ?_) (fun h_1 => ?_)
 ·replace H := HS.cnd_t h_1 H
  try simp -implicitDefEqProofs (maxSteps := 999999) [-selQ_sel, h_1]
  have hr := (HS.some H).symm; subst hr
  refine Hid.mk ⟨_, Wk.refl _, ?_⟩
  try simp -implicitDefEqProofs (maxSteps := 999999) [-selQ_sel, h_1]
 ·replace H := HS.cnd_f h_1 H
  try simp -implicitDefEqProofs (maxSteps := 999999) [-selQ_sel, h_1]
  refine Hid.brV (fun h_2 => ?_) (fun h_2 => ?_)
  ·replace H := HS.cnd_t h_2 H
   try simp -implicitDefEqProofs (maxSteps := 999999) [-selQ_sel, h_1, h_2]
   have hr := (HS.some H).symm; subst hr
   refine Hid.mk ⟨_, Wk.refl _, ?_⟩
   try simp -implicitDefEqProofs (maxSteps := 999999) [-selQ_sel, h_1, h_2]
  ·replace H := HS.cnd_f h_2 H
   try simp -implicitDefEqProofs (maxSteps := 999999) [-selQ_sel, h_1, h_2]
   refine Hid.brV (fun h_3 => ?_) (fun h_3 => ?_)
   ·replace H := HS.cnd_t h_3 H
    try simp -implicitDefEqProofs (maxSteps := 999999) [-selQ_sel, h_1, h_2, h_3]
    have hr := (HS.some H).symm; subst hr
    refine Hid.mk ⟨_, Wk.refl _, ?_⟩
    try simp -implicitDefEqProofs (maxSteps := 999999) [-selQ_sel, h_1, h_2, h_3]
   ·replace H := HS.cnd_f h_3 H
    try simp -implicitDefEqProofs (maxSteps := 999999) [-selQ_sel, h_1, h_2, h_3]
    refine Hid.brV (fun h_4 => ?_) (fun h_4 => ?_)
    ·replace H := HS.cnd_t h_4 H
     try simp -implicitDefEqProofs (maxSteps := 999999) [-selQ_sel, h_1, h_2, h_3, h_4]
     have hr := (HS.some H).symm; subst hr
     refine Hid.mk ⟨_, Wk.refl _, ?_⟩
     try simp -implicitDefEqProofs (maxSteps := 999999) [-selQ_sel, h_1, h_2, h_3, h_4]
    ·replace H := HS.cnd_f h_4 H
     try simp -implicitDefEqProofs (maxSteps := 999999) [-selQ_sel, h_1, h_2, h_3, h_4]
     refine Hid.brV (fun h_5 => ?_) (fun h_5 => ?_)
     ·replace H := HS.cnd_t h_5 H
      try simp -implicitDefEqProofs (maxSteps := 999999) [-selQ_sel, h_1, h_2, h_3, h_4, h_5]
      have hr := (HS.some H).symm; subst hr
      refine Hid.mk ⟨_, Wk.refl _, ?_⟩
      try simp -implicitDefEqProofs (maxSteps := 999999) [-selQ_sel, h_1, h_2, h_3, h_4, h_5]
     ·replace H := HS.cnd_f h_5 H
      try simp -implicitDefEqProofs (maxSteps := 999999) [-selQ_sel, h_1, h_2, h_3, h_4, h_5]
      have hr := (HS.some H).symm; subst hr
      refine Hid.mk ⟨_, Wk.refl _, ?_⟩
      try simp -implicitDefEqProofs (maxSteps := 999999) [-selQ_sel, h_1, h_2, h_3, h_4, h_5]
theorem spec_l15CopyNode_ok0 (hm : Try.prog.follows .mixedOrders = true) (k_spec_l15CopyPath : Sound Try.prog 88 spec_l15CopyPath_x) : Sound Try.prog 47 spec_l15CopyNode_x := by
 refine xOf_sound fun q r h => ?_
 revert h; revert r; revert q; intro a0 r h
 refine fn_ok E0 hm Try.func47 rfl (by decide +kernel) (by rfl) fun Γ hn hk => ?_
 dsimp only [spec_l15CopyNode_e, spec_l15CopyNode_v]
 replace hn : Γ.n = 17 := hn
 replace hk : Γ.k = 0 := hk
 have H : HS (spec_l15CopyNode a0) r := h
 clear h; unfold spec_l15CopyNode at H
 try simp -implicitDefEqProofs at H
 refine Tr.of_vc (cl := tabC [(88, spec_l15CopyPath_x)]) (E := E0) [] (tab_cons k_spec_l15CopyPath tab_nil) hm (by rw [hn]; decide +kernel) ?_
 try simp -implicitDefEqProofs (maxSteps := 999999) [-selQ_sel]
 obtain ⟨⟨w2, w3⟩, h_1, H⟩ := HS.bnd H
 dsimp only at H
 try simp -implicitDefEqProofs (maxSteps := 999999) [-selQ_sel, h_1]
 obtain ⟨⟨w5, w6⟩, h_2, H⟩ := HS.bnd H
 dsimp only at H
 try simp -implicitDefEqProofs (maxSteps := 999999) [-selQ_sel, h_1, h_2]
 obtain ⟨h_3, H⟩ := HS.chkP H
 try simp -implicitDefEqProofs (maxSteps := 999999) [-selQ_sel, h_1, h_2, h_3]
 obtain ⟨l7, h_4, H⟩ := HS.nam H
 have m_5 := congrArg (List.map (AV.int .i64)) h_4
 have q_6 := congrArg List.length h_4
 simp -implicitDefEqProofs at m_5 q_6
 try simp only [q_6] at m_5
 try simp only [q_6] at h_3
 try simp -implicitDefEqProofs (maxSteps := 999999) [-selQ_sel, h_1, h_2, h_3, m_5, q_6]
 have hr := (HS.some H).symm; subst hr
 refine Hid.mk ⟨⟨[(2, AV.optr 0 0 31)], [(0, Ob.box [AV.int .i64 a0.id, AV.int .i64 a0.parent, AV.bool a0.group, AV.int .i64 a0.mat.a, AV.int .i64 a0.mat.b, AV.int .i64 a0.mat.c, AV.int .i64 a0.mat.d, AV.int .i64 a0.mat.e, AV.int .i64 a0.mat.f, AV.osl 1 0 (List.length w2) (List.length w2), AV.osl 2 0 (List.length w3) (List.length w3), AV.bool a0.even, AV.int .i64 a0.width, AV.osl 3 0 (List.length l7) (List.length l7), AV.int .i64 a0.paint.kind, AV.int .i64 a0.paint.first.r, AV.int .i64 a0.paint.first.g, AV.int .i64 a0.paint.first.b, AV.int .i64 a0.paint.first.a, AV.int .i64 a0.paint.last.r, AV.int .i64 a0.paint.last.g, AV.int .i64 a0.paint.last.b, AV.int .i64 a0.paint.last.a, AV.int .i64 a0.paint.from_.x, AV.int .i64 a0.paint.from_.y, AV.int .i64 a0.paint.to.x, AV.int .i64 a0.paint.to.y, AV.int .i64 a0.mode, AV.int .i64 a0.fade, AV.osl 4 0 (List.length w5) (List.length w5), AV.osl 5 0 (List.length w6) (List.length w6)]), (1, Ob.arr 1 (List.map (AV.int .i64) w2) false), (2, Ob.arr 2 (List.map ePoint w3) false), (3, Ob.arr 1 (List.map (AV.int .i64) l7) false), (4, Ob.arr 1 (List.map (AV.int .i64) w5) false), (5, Ob.arr 2 (List.map ePoint w6) false)], 6⟩, Wk.ofk [1, 2, 3, 6, 4, 5] hk (by rfl) (by simp -implicitDefEqProofs [h_1, h_2, h_3, m_5, q_6]) (by simp -implicitDefEqProofs [h_1, h_2, h_3, m_5, q_6]), ?_⟩
 try simp -implicitDefEqProofs (maxSteps := 999999) [-selQ_sel, h_1, h_2, h_3, m_5, q_6]
theorem impl_copyNode_ok0 (hm : Try.prog.follows .mixedOrders = true) (k_impl_copyPath : Sound Try.prog 107 impl_copyPath_x) (k_slices_Clone_int : Sound Try.prog 108 slices_Clone_int_x) : Sound Try.prog 64 impl_copyNode_x := by
 refine xOf_sound fun q r h => ?_
 revert h; revert r; revert q; intro a0 r h
 refine fn_ok E0 hm Try.func64 rfl (by decide +kernel) (by rfl) fun Γ hn hk => ?_
 dsimp only [impl_copyNode_e, impl_copyNode_v]
 replace hn : Γ.n = 16 := hn
 replace hk : Γ.k = 0 := hk
 have H : HS (impl_copyNode a0) r := h
 clear h; unfold impl_copyNode at H
 try simp -implicitDefEqProofs at H
 refine Tr.of_vc (cl := tabC [(107, impl_copyPath_x), (108, slices_Clone_int_x)]) (E := E0) [] (tab_cons k_impl_copyPath (tab_cons k_slices_Clone_int tab_nil)) hm (by rw [hn]; decide +kernel) ?_
 try simp -implicitDefEqProofs +decide (maxSteps := 999999) [-selQ_sel, hokQ_of]
 obtain ⟨⟨w2, w3⟩, h_1, H⟩ := HS.bnd H
 dsimp only at H
 try simp -implicitDefEqProofs +decide (maxSteps := 999999) [-selQ_sel, hokQ_of, h_1]
 obtain ⟨⟨w5, w6⟩, h_2, H⟩ := HS.bnd H
 dsimp only at H
 try simp -implicitDefEqProofs +decide (maxSteps := 999999) [-selQ_sel, hokQ_of, h_1, h_2]
 obtain ⟨v7, h_3, H⟩ := HS.bnd H
 try simp -implicitDefEqProofs +decide (maxSteps := 999999) [-selQ_sel, hokQ_of, h_1, h_2, h_3]
 have hr := (HS.some H).symm; subst hr
 refine Hid.mk ⟨⟨[(2, AV.optr 0 0 31)], [(0, Ob.box [AV.int .i64 a0.id, AV.int .i64 a0.parent, AV.bool a0.group, AV.int .i64 a0.mat.a, AV.int .i64 a0.mat.b, AV.int .i64 a0.mat.c, AV.int .i64 a0.mat.d, AV.int .i64 a0.mat.e, AV.int .i64 a0.mat.f, AV.osl 1 0 (List.length w2) (List.length w2), AV.osl 2 0 (List.length w3) (List.length w3), AV.bool a0.even, AV.int .i64 a0.width, AV.osl 3 0 (List.length v7) (List.length v7), AV.int .i64 a0.paint.kind, AV.int .i64 a0.paint.first.r, AV.int .i64 a0.paint.first.g, AV.int .i64 a0.paint.first.b, AV.int .i64 a0.paint.first.a, AV.int .i64 a0.paint.last.r, AV.int .i64 a0.paint.last.g, AV.int .i64 a0.paint.last.b, AV.int .i64 a0.paint.last.a, AV.int .i64 a0.paint.from_.x, AV.int .i64 a0.paint.from_.y, AV.int .i64 a0.paint.to.x, AV.int .i64 a0.paint.to.y, AV.int .i64 a0.mode, AV.int .i64 a0.fade, AV.osl 4 0 (List.length w5) (List.length w5), AV.osl 5 0 (List.length w6) (List.length w6)]), (1, Ob.arr 1 (List.map (AV.int .i64) w2) false), (2, Ob.arr 2 (List.map ePoint w3) false), (3, Ob.arr 1 (List.map (AV.int .i64) v7) false), (4, Ob.arr 1 (List.map (AV.int .i64) w5) false), (5, Ob.arr 2 (List.map ePoint w6) false)], 6⟩, Wk.ofk [1, 2, 3, 6, 4, 5] hk (by rfl) (by simp -implicitDefEqProofs [h_1, h_2, h_3]) (by simp -implicitDefEqProofs [h_1, h_2, h_3]), ?_⟩
 try simp -implicitDefEqProofs +decide (maxSteps := 999999) [-selQ_sel, hokQ_of, h_1, h_2, h_3]
theorem spec_l15CopyPath_ok0 (hm : Try.prog.follows .mixedOrders = true) : Sound Try.prog 88 spec_l15CopyPath_x := by
 refine xOf_sound fun q r h => ?_
 revert h; revert r; revert q; intro a0 r h
 refine fn_ok E0 hm Try.func88 rfl (by decide +kernel) (by rfl) fun Γ hn hk => ?_
 dsimp only [spec_l15CopyPath_e, spec_l15CopyPath_v]
 replace hn : Γ.n = 12 := hn
 replace hk : Γ.k = 0 := hk
 have H : HS (spec_l15CopyPath a0) r := h
 clear h; unfold spec_l15CopyPath at H
 try simp -implicitDefEqProofs at H
 refine Tr.of_vc (cl := tabC []) (E := E0) [] tab_nil hm (by rw [hn]; decide +kernel) ?_
 try simp -implicitDefEqProofs +decide (maxSteps := 999999) [-selQ_sel, hokQ_of]
 obtain ⟨h_1, H⟩ := HS.chkP H
 try simp -implicitDefEqProofs +decide (maxSteps := 999999) [-selQ_sel, hokQ_of, h_1]
 obtain ⟨l1, h_2, H⟩ := HS.nam H
 have m_3 := congrArg (List.map (AV.int .i64)) h_2
 have q_4 := congrArg List.length h_2
 simp -implicitDefEqProofs at m_3 q_4
 try simp only [q_4] at m_3
 try simp only [q_4] at h_1
 try simp -implicitDefEqProofs +decide (maxSteps := 999999) [-selQ_sel, hokQ_of, h_1, m_3, q_4]
 obtain ⟨h_5, H⟩ := HS.chkP H
 try simp -implicitDefEqProofs +decide (maxSteps := 999999) [-selQ_sel, hokQ_of, h_1, m_3, q_4, h_5]
 obtain ⟨l2, h_6, H⟩ := HS.nam H
 have m_7 := congrArg (List.map ePoint) h_6
 have q_8 := congrArg List.length h_6
 simp -implicitDefEqProofs at m_7 q_8
 try simp only [q_8] at m_7
 try simp only [q_8] at h_5
 try simp -implicitDefEqProofs +decide (maxSteps := 999999) [-selQ_sel, hokQ_of, h_1, m_3, q_4, h_5, m_7, q_8]
 have hr := (HS.some H).symm; subst hr
 refine Hid.mk ⟨⟨[(2, AV.optr 0 0 2)], [(0, Ob.box [AV.osl 1 0 (List.length l1) (List.length l1), AV.osl 2 0 (List.length l2) (List.length l2)]), (1, Ob.arr 1 (List.map (AV.int .i64) l1) false), (2, Ob.arr 2 (List.map ePoint l2) false)], 3⟩, Wk.ofk [1, 2, 3] hk (by rfl) (by simp -implicitDefEqProofs [h_1, m_3, q_4, h_5, m_7, q_8]) (by simp -implicitDefEqProofs [h_1, m_3, q_4, h_5, m_7, q_8]), ?_⟩
 try simp -implicitDefEqProofs +decide (maxSteps := 999999) [-selQ_sel, hokQ_of, h_1, m_3, q_4, h_5, m_7, q_8]
theorem impl_Scene_isParent_ok0 (hm : Try.prog.follows .mixedOrders = true) (k_impl_NodeAt : Sound Try.prog 13 impl_NodeAt_x) : Sound Try.prog 51 impl_Scene_isParent_x := by
 refine xOf_sound fun q r h => ?_
 obtain ⟨a0, a1⟩ := q
 refine fn_ok E0 hm Try.func51 rfl (by decide +kernel) (by rfl) fun Γ hn hk => ?_
 dsimp only [impl_Scene_isParent_e, impl_Scene_isParent_v]
 replace hn : Γ.n = 27 := hn
 replace hk : Γ.k = 0 := hk
 have H : HS (impl_Scene_isParent a0 a1) r := h
 clear h; unfold impl_Scene_isParent at H
 try simp -implicitDefEqProofs at H
 refine Tr.of_vc (cl := tabC [(13, impl_NodeAt_x)]) (E := E0) [] (tab_cons k_impl_NodeAt tab_nil) hm (by rw [hn]; decide +kernel) ?_
 try simp -implicitDefEqProofs (maxSteps := 999999) [-selQ_sel]
 obtain ⟨v1, h_1, H⟩ := HS.bnd H
 try simp -implicitDefEqProofs (maxSteps := 999999) [-selQ_sel, h_1]
 refine Hid.selQ (fun h_2 => ?_) (fun h_2 => ?_)
 ·replace H := HS.cnd_t h_2 H
  try simp -implicitDefEqProofs (maxSteps := 999999) [-selQ_sel, h_1, h_2]
  have hr := (HS.some H).symm; subst hr
  refine Hid.mk ⟨_, Wk.refl _, ?_⟩
  try simp -implicitDefEqProofs (maxSteps := 999999) [-selQ_sel, h_1, h_2]
 ·replace H := HS.cnd_f h_2 H
  try simp -implicitDefEqProofs (maxSteps := 999999) [-selQ_sel, h_1, h_2]
  refine Hid.selQ (fun h_3 => ?_) (fun h_3 => ?_)
  ·replace H := HS.cnd_t h_3 H
   try simp -implicitDefEqProofs (maxSteps := 999999) [-selQ_sel, h_1, h_2, h_3]
   obtain ⟨v2, h_4, H⟩ := HS.bnd H
   try simp -implicitDefEqProofs (maxSteps := 999999) [-selQ_sel, h_1, h_2, h_3, h_4]
   have hr := (HS.some H).symm; subst hr
   refine Hid.mk ⟨_, Wk.refl _, ?_⟩
   try simp -implicitDefEqProofs (maxSteps := 999999) [-selQ_sel, h_1, h_2, h_3, h_4]
  ·replace H := HS.cnd_f h_3 H
   try simp -implicitDefEqProofs (maxSteps := 999999) [-selQ_sel, h_1, h_2, h_3]
   have hr := (HS.some H).symm; subst hr
   refine Hid.mk ⟨_, Wk.refl _, ?_⟩
   try simp -implicitDefEqProofs (maxSteps := 999999) [-selQ_sel, h_1, h_2, h_3]
theorem slices_Clone_Point_ok0 (hm : Try.prog.follows .mixedOrders = true) : Sound Try.prog 127 slices_Clone_Point_x := by
 refine xOf_sound fun q r h => ?_
 revert h; revert r; revert q; intro a0 r h
 refine fn_ok E0 hm Try.func127 rfl (by decide +kernel) (by rfl) fun Γ hn hk => ?_
 dsimp only [slices_Clone_Point_e, slices_Clone_Point_v]
 replace hn : Γ.n = 8 := hn
 replace hk : Γ.k = 0 := hk
 have H : HS (slices_Clone_Point a0) r := h
 clear h; unfold slices_Clone_Point at H
 obtain ⟨h_1, H⟩ := HS.chkP H
 have hr := (HS.some H).symm; subst hr
 refine Tr.of_vc (cl := tabC []) (E := E0) [1] tab_nil hm (by rw [hn]; decide +kernel) ?_
 simp -implicitDefEqProofs [-selQ_sel]
 refine Hid.mk (Tr_nil (E := E0) tab_nil (h1 := rfl) (hd1 := fun d h => by cases h; rw [hn]; decide) (ho := rfl) (hg := rfl) (hd := rfl) (hdn := by rw [hn]; decide) (hu := elt_37) (hx := rfl) fun b hb => ?_)
 refine Tr.of_vc (cl := tabC []) (E := E0) [] tab_nil hm (by rw [hn]; decide +kernel) ?_
 simp -implicitDefEqProofs [-selQ_sel, aft, putT]
 refine Hid.brV (fun h_2 => ?_) (fun h_2 => ?_)
 ·simp -implicitDefEqProofs [-selQ_sel]
  have h_3 := hb h_2; simp at h_3; subst h_3
  refine Hid.mk ⟨_, Wk.refl _, ?_⟩
  simp -implicitDefEqProofs [-selQ_sel, h_1]
  refine ⟨⟨[(2, AV.osl 0 0 0 0)], [(0, Ob.arr 2 (List.map ePoint []) false)], 1⟩, Wk.ofk [0] hk (by rfl) (by simp -implicitDefEqProofs) (by simp -implicitDefEqProofs), ?_⟩
  simp -implicitDefEqProofs [-selQ_sel, h_1]
 ·simp -implicitDefEqProofs [-selQ_sel]
  refine Hid.mk ⟨_, Wk.refl _, ?_⟩
  simp -implicitDefEqProofs [-selQ_sel, h_1]
  refine ⟨⟨[(2, AV.osl 0 0 (List.length a0) (List.length a0))], [(0, Ob.arr 2 (List.map ePoint a0) false)], 1⟩, Wk.ofk [0] hk (by rfl) (by simp -implicitDefEqProofs) (by simp -implicitDefEqProofs), ?_⟩
  simp -implicitDefEqProofs [-selQ_sel, h_1]
theorem laws_eqPoint_ok0 (hm : Try.prog.follows .mixedOrders = true) : Sound Try.prog 111 laws_eqPoint_x := by
 refine xOf_sound fun q r h => ?_
 obtain ⟨a0, a1⟩ := q
 refine fn_ok E0 hm Try.func111 rfl (by decide +kernel) (by rfl) fun Γ hn hk => ?_
 dsimp only [laws_eqPoint_e, laws_eqPoint_v]
 replace hn : Γ.n = 15 := hn
 replace hk : Γ.k = 0 := hk
 have H : HS (laws_eqPoint a0 a1) r := h
 clear h; unfold laws_eqPoint at H
 try simp -implicitDefEqProofs at H
 refine Tr.of_vc (cl := tabC []) (E := E0) [] tab_nil hm (by rw [hn]; decide +kernel) ?_
 try simp -implicitDefEqProofs (maxSteps := 999999) [-selQ_sel]
 refine Hid.brV (fun h_1 => ?_) (fun h_1 => ?_)
 ·replace H := HS.cnd_t h_1 H
  try simp -implicitDefEqProofs (maxSteps := 999999) [-selQ_sel, h_1]
  refine Hid.brV (fun h_2 => ?_) (fun h_2 => ?_)
  ·replace H := HS.cnd_t h_2 H
   try simp -implicitDefEqProofs (maxSteps := 999999) [-selQ_sel, h_1, h_2]
   have hr := (HS.some H).symm; subst hr
   refine Hid.mk ⟨_, Wk.refl _, ?_⟩
   try simp -implicitDefEqProofs (maxSteps := 999999) [-selQ_sel, h_1, h_2]
  ·replace H := HS.cnd_f h_2 H
   try simp -implicitDefEqProofs (maxSteps := 999999) [-selQ_sel, h_1, h_2]
   have hr := (HS.some H).symm; subst hr
   refine Hid.mk ⟨_, Wk.refl _, ?_⟩
   try simp -implicitDefEqProofs (maxSteps := 999999) [-selQ_sel, h_1, h_2]
 ·replace H := HS.cnd_f h_1 H
  try simp -implicitDefEqProofs (maxSteps := 999999) [-selQ_sel, h_1]
  have hr := (HS.some H).symm; subst hr
  refine Hid.mk ⟨_, Wk.refl _, ?_⟩
  try simp -implicitDefEqProofs (maxSteps := 999999) [-selQ_sel, h_1]
theorem laws_toPath_ok0 (hm : Try.prog.follows .mixedOrders = true) (k_laws_toIntS : Sound Try.prog 62 laws_toIntS_x) (k_laws_toPointS : Sound Try.prog 104 laws_toPointS_x) : Sound Try.prog 61 laws_toPath_x := by
 refine xOf_sound fun q r h => ?_
 revert h; revert r; revert q; intro a0 r h
 refine fn_ok E0 hm Try.func61 rfl (by decide +kernel) (by rfl) fun Γ hn hk => ?_
 dsimp only [laws_toPath_e, laws_toPath_v]
 replace hn : Γ.n = 13 := hn
 replace hk : Γ.k = 0 := hk
 have H : HS (laws_toPath a0) r := h
 clear h; unfold laws_toPath at H
 try simp -implicitDefEqProofs at H
 refine Tr.of_vc (cl := tabC [(62, laws_toIntS_x), (104, laws_toPointS_x)]) (E := E0) [] (tab_cons k_laws_toIntS (tab_cons k_laws_toPointS tab_nil)) hm (by rw [hn]; decide +kernel) ?_
 try simp -implicitDefEqProofs (maxSteps := 999999) [-selQ_sel]
 obtain ⟨v1, h_1, H⟩ := HS.bnd H
 try simp -implicitDefEqProofs (maxSteps := 999999) [-selQ_sel, h_1]
 obtain ⟨v2, h_2, H⟩ := HS.bnd H
 try simp -implicitDefEqProofs (maxSteps := 999999) [-selQ_sel, h_1, h_2]
 have hr := (HS.some H).symm; subst hr
 refine Hid.mk ⟨⟨[(2, AV.optr 0 0 2)], [(0, Ob.box [AV.osl 1 0 (List.length v1) (List.length v1), AV.osl 2 0 (List.length v2) (List.length v2)]), (1, Ob.arr 1 (List.map (AV.int .i64) v1) false), (2, Ob.arr 2 (List.map ePoint v2) false)], 3⟩, Wk.ofk [1, 3, 4] hk (by rfl) (by simp -implicitDefEqProofs [h_1, h_2]) (by simp -implicitDefEqProofs [h_1, h_2]), ?_⟩
 try simp -implicitDefEqProofs (maxSteps := 999999) [-selQ_sel, h_1, h_2]
theorem laws_eqScene_ok0 (hm : Try.prog.follows .mixedOrders = true) (k_laws_eqNodeS : Sound Try.prog 65 laws_eqNodeS_x) : Sound Try.prog 22 laws_eqScene_x := by
 refine xOf_sound fun q r h => ?_
 obtain ⟨a0, a1⟩ := q
 refine fn_ok E0 hm Try.func22 rfl (by decide +kernel) (by rfl) fun Γ hn hk => ?_
 dsimp only [laws_eqScene_e, laws_eqScene_v]
 replace hn : Γ.n = 11 := hn
 replace hk : Γ.k = 0 := hk
 have H : HS (laws_eqScene a0 a1) r := h
 clear h; unfold laws_eqScene at H
 try simp -implicitDefEqProofs at H
 refine Tr.of_vc (cl := tabC [(65, laws_eqNodeS_x)]) (E := E0) [] (tab_cons k_laws_eqNodeS tab_nil) hm (by rw [hn]; decide +kernel) ?_
 try simp -implicitDefEqProofs (maxSteps := 999999) [-selQ_sel]
 obtain ⟨v1, h_1, H⟩ := HS.bnd H
 try simp -implicitDefEqProofs (maxSteps := 999999) [-selQ_sel, h_1]
 refine Hid.brV (fun h_2 => ?_) (fun h_2 => ?_)
 ·replace H := HS.cnd_t h_2 H
  try simp -implicitDefEqProofs (maxSteps := 999999) [-selQ_sel, h_1, h_2]
  have hr := (HS.some H).symm; subst hr
  refine Hid.mk ⟨_, Wk.refl _, ?_⟩
  try simp -implicitDefEqProofs (maxSteps := 999999) [-selQ_sel, h_1, h_2]
 ·replace H := HS.cnd_f h_2 H
  try simp -implicitDefEqProofs (maxSteps := 999999) [-selQ_sel, h_1, h_2]
  have hr := (HS.some H).symm; subst hr
  refine Hid.mk ⟨_, Wk.refl _, ?_⟩
  try simp -implicitDefEqProofs (maxSteps := 999999) [-selQ_sel, h_1, h_2]
theorem impl_Path_isNone_ok0 (hm : Try.prog.follows .mixedOrders = true) : Sound Try.prog 94 impl_Path_isNone_x := by
 refine xOf_sound fun q r h => ?_
 revert h; revert r; revert q; intro a0 r h
 refine fn_ok E0 hm Try.func94 rfl (by decide +kernel) (by rfl) fun Γ hn hk => ?_
 dsimp only [impl_Path_isNone_e, impl_Path_isNone_v]
 replace hn : Γ.n = 13 := hn
 replace hk : Γ.k = 0 := hk
 have H : HS (impl_Path_isNone a0) r := h
 clear h; unfold impl_Path_isNone at H
 try simp -implicitDefEqProofs at H
 refine Tr.of_vc (cl := tabC []) (E := E0) [] tab_nil hm (by rw [hn]; decide +kernel) ?_
 try simp -implicitDefEqProofs (maxSteps := 999999) [-selQ_sel]
 refine Hid.selQ (fun h_1 => ?_) (fun h_1 => ?_)
 ·replace H := HS.cnd_t h_1 H
  try simp -implicitDefEqProofs (maxSteps := 999999) [-selQ_sel, h_1]
  have hr := (HS.some H).symm; subst hr
  refine Hid.mk ⟨_, Wk.refl _, ?_⟩
  try simp -implicitDefEqProofs (maxSteps := 999999) [-selQ_sel, h_1]
 ·replace H := HS.cnd_f h_1 H
  try simp -implicitDefEqProofs (maxSteps := 999999) [-selQ_sel, h_1]
  have hr := (HS.some H).symm; subst hr
  refine Hid.mk ⟨_, Wk.refl _, ?_⟩
  try simp -implicitDefEqProofs (maxSteps := 999999) [-selQ_sel, h_1]
theorem spec_l15NoPath_ok0 (hm : Try.prog.follows .mixedOrders = true) : Sound Try.prog 101 spec_l15NoPath_x := by
 refine xOf_sound fun q r h => ?_
 revert h; revert r; revert q; intro a0 r h
 refine fn_ok E0 hm Try.func101 rfl (by decide +kernel) (by rfl) fun Γ hn hk => ?_
 dsimp only [spec_l15NoPath_e, spec_l15NoPath_v]
 replace hn : Γ.n = 13 := hn
 replace hk : Γ.k = 0 := hk
 have H : HS (spec_l15NoPath a0) r := h
 clear h; unfold spec_l15NoPath at H
 try simp -implicitDefEqProofs at H
 refine Tr.of_vc (cl := tabC []) (E := E0) [] tab_nil hm (by rw [hn]; decide +kernel) ?_
 try simp -implicitDefEqProofs (maxSteps := 999999) [-selQ_sel]
 refine Hid.selQ (fun h_1 => ?_) (fun h_1 => ?_)
 ·replace H := HS.cnd_t h_1 H
  try simp -implicitDefEqProofs (maxSteps := 999999) [-selQ_sel, h_1]
  have hr := (HS.some H).symm; subst hr
  refine Hid.mk ⟨_, Wk.refl _, ?_⟩
  try simp -implicitDefEqProofs (maxSteps := 999999) [-selQ_sel, h_1]
 ·replace H := HS.cnd_f h_1 H
  try simp -implicitDefEqProofs (maxSteps := 999999) [-selQ_sel, h_1]
  have hr := (HS.some H).symm; subst hr
  refine Hid.mk ⟨_, Wk.refl _, ?_⟩
  try simp -implicitDefEqProofs (maxSteps := 999999) [-selQ_sel, h_1]
theorem laws_szIntS_ok0 (hm : Try.prog.follows .mixedOrders = true) : Sound Try.prog 56 laws_szIntS_x := by
 refine xOf_sound fun q r h => ?_
 obtain ⟨a0, a1⟩ := q
 refine fn_ok E0 hm Try.func56 rfl (by decide +kernel) (by rfl) fun Γ hn hk => ?_
 dsimp only [laws_szIntS_e, laws_szIntS_v]
 replace hn : Γ.n = 12 := hn
 replace hk : Γ.k = 0 := hk
 have H : HS (laws_szIntS a0 a1) r := h
 clear h; unfold laws_szIntS at H
 try simp -implicitDefEqProofs at H
 refine Tr.of_vc (cl := tabC []) (E := E0) [] tab_nil hm (by rw [hn]; decide +kernel) ?_
 try simp -implicitDefEqProofs (maxSteps := 999999) [-selQ_sel]
 refine Hid.brV (fun h_1 => ?_) (fun h_1 => ?_)
 ·replace H := HS.cnd_t h_1 H
  try simp -implicitDefEqProofs (maxSteps := 999999) [-selQ_sel, h_1]
  have hr := (HS.some H).symm; subst hr
  refine Hid.mk ⟨_, Wk.refl _, ?_⟩
  try simp -implicitDefEqProofs (maxSteps := 999999) [-selQ_sel, h_1]
 ·replace H := HS.cnd_f h_1 H
  try simp -implicitDefEqProofs (maxSteps := 999999) [-selQ_sel, h_1]
  have hr := (HS.some H).symm; subst hr
  refine Hid.mk ⟨_, Wk.refl _, ?_⟩
  try simp -implicitDefEqProofs (maxSteps := 999999) [-selQ_sel, h_1]
theorem impl_isByte_ok0 (hm : Try.prog.follows .mixedOrders = true) (k_impl_inRange : Sound Try.prog 41 impl_inRange_x) : Sound Try.prog 93 impl_isByte_x := by
 refine xOf_sound fun q r h => ?_
 revert h; revert r; revert q; intro a0 r h
 refine fn_ok E0 hm Try.func93 rfl (by decide +kernel) (by rfl) fun Γ hn hk => ?_
 dsimp only [impl_isByte_e, impl_isByte_v]
 replace hn : Γ.n = 5 := hn
 replace hk : Γ.k = 0 := hk
 have H : HS (impl_isByte a0) r := h
 clear h; unfold impl_isByte at H
 try simp -implicitDefEqProofs at H
 refine Tr.of_vc (cl := tabC [(41, impl_inRange_x)]) (E := E0) [] (tab_cons k_impl_inRange tab_nil) hm (by rw [hn]; decide +kernel) ?_
 try simp -implicitDefEqProofs (maxSteps := 999999) [-selQ_sel]
 obtain ⟨v1, h_1, H⟩ := HS.bnd H
 try simp -implicitDefEqProofs (maxSteps := 999999) [-selQ_sel, h_1]
 have hr := (HS.some H).symm; subst hr
 refine Hid.mk ⟨_, Wk.refl _, ?_⟩
 try simp -implicitDefEqProofs (maxSteps := 999999) [-selQ_sel, h_1]
theorem laws_toPoint_ok0 (hm : Try.prog.follows .mixedOrders = true) : Sound Try.prog 106 laws_toPoint_x := by
 refine xOf_sound fun q r h => ?_
 revert h; revert r; revert q; intro a0 r h
 refine fn_ok E0 hm Try.func106 rfl (by decide +kernel) (by rfl) fun Γ hn hk => ?_
 dsimp only [laws_toPoint_e, laws_toPoint_v]
 replace hn : Γ.n = 11 := hn
 replace hk : Γ.k = 0 := hk
 have H : HS (laws_toPoint a0) r := h
 clear h; unfold laws_toPoint at H
 try simp -implicitDefEqProofs at H
 refine Tr.of_vc (cl := tabC []) (E := E0) [] tab_nil hm (by rw [hn]; decide +kernel) ?_
 try simp -implicitDefEqProofs (maxSteps := 999999) [-selQ_sel]
 have hr := (HS.some H).symm; subst hr
 refine Hid.mk ⟨_, Wk.refl _, ?_⟩
 try simp -implicitDefEqProofs (maxSteps := 999999) [-selQ_sel]
theorem laws_toColor_ok0 (hm : Try.prog.follows .mixedOrders = true) : Sound Try.prog 105 laws_toColor_x := by
 refine xOf_sound fun q r h => ?_
 revert h; revert r; revert q; intro a0 r h
 refine fn_ok E0 hm Try.func105 rfl (by decide +kernel) (by rfl) fun Γ hn hk => ?_
 dsimp only [laws_toColor_e, laws_toColor_v]
 replace hn : Γ.n = 17 := hn
 replace hk : Γ.k = 0 := hk
 have H : HS (laws_toColor a0) r := h
 clear h; unfold laws_toColor at H
 try simp -implicitDefEqProofs at H
 refine Tr.of_vc (cl := tabC []) (E := E0) [] tab_nil hm (by rw [hn]; decide +kernel) ?_
 try simp -implicitDefEqProofs (maxSteps := 999999) [-selQ_sel]
 have hr := (HS.some H).symm; subst hr
 refine Hid.mk ⟨_, Wk.refl _, ?_⟩
 try simp -implicitDefEqProofs (maxSteps := 999999) [-selQ_sel]
end Go.Proofs.Ytapchldnmkfkoab.Am
