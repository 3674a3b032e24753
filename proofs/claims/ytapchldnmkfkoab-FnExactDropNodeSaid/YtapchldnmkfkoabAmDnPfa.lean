import Derived.Test.YtapchldnmkfkoabAmDnNa
set_option linter.unusedVariables false
set_option linter.unusedSimpArgs false
set_option linter.unusedSectionVars false
namespace Go.Proofs.Ytapchldnmkfkoab.Am
open Go Go.Proofs
set_option maxRecDepth 100000
set_option linter.unusedSimpArgs false
set_option linter.unusedVariables false
set_option maxHeartbeats 4000000
theorem laws_heldNodeS_ok0 (hm : Try.prog.follows .mixedOrders = true) (k_laws_heldIntS : Sound Try.prog 113 laws_heldIntS_x) (k_laws_heldPointS : Sound Try.prog 114 laws_heldPointS_x) : Sound Try.prog 73 laws_heldNodeS_x := by
 refine xOf_sound fun q r h => ?_
 obtain ⟨a0,a1⟩ := q
 refine fn_ok E0 hm Try.func73 rfl (by decide +kernel) (by rfl) fun Γ hn hk => ?_
 dsimp only [laws_heldNodeS_e,laws_heldNodeS_v]
 replace hn : Γ.n = 331 := hn
 replace hk : Γ.k = 0 := hk
 have H : HS (laws_heldNodeS a0 a1) r := h
 clear h; unfold laws_heldNodeS at H
 try simp -implicitDefEqProofs at H
 refine Tr.of_vc (cl := tabC [(113,laws_heldIntS_x),(114,laws_heldPointS_x)]) (E := E0) [] (tab_cons k_laws_heldIntS (tab_cons k_laws_heldPointS tab_nil)) hm (by rw [hn]; decide +kernel) ?_
 try simp -implicitDefEqProofs (maxSteps := 999999) [-selQ_sel]
 obtain ⟨q,h_1,H⟩ := HS.bnd H
 refine Hid.mk (Tr.weak (s' := (laws_heldNodeS_l0_S a0) (a1,0)) (Wk.ofk [] hk (by rfl) (by simp -implicitDefEqProofs [laws_heldNodeS_l0_S]) (by simp -implicitDefEqProofs [laws_heldNodeS_l0_S])) ?_)
 refine wp_loop_of (S := (laws_heldNodeS_l0_S a0)) (f := (laws_heldNodeS_l0 a0)) (xt := (laws_heldNodeS_l0_X a0)) ?_ ?_ h_1 ?_
 ·intro q; rcases q with y15 | ⟨⟩ <;> simp [laws_heldNodeS_l0_X]
 ·clear H h_1 q
  rintro ⟨x7,x8⟩ o R hf hR
  have H : HS (laws_heldNodeS_l0 a0 (x7,x8)) o := hf
  clear hf; unfold laws_heldNodeS_l0 at H
  try simp -implicitDefEqProofs at H
  refine Tr.of_vc (cl := tabC [(113,laws_heldIntS_x),(114,laws_heldPointS_x)]) (E := E0) [] (tab_cons k_laws_heldIntS (tab_cons k_laws_heldPointS tab_nil)) hm (by rw [hn]; decide +kernel) ?_
  try simp -implicitDefEqProofs (maxSteps := 999999) [-selQ_sel,laws_heldNodeS_l0_S]
  refine Hid.brV (fun h_2 => ?_) (fun h_2 => ?_)
  ·replace H := HS.cnd_t h_2 H
   try simp -implicitDefEqProofs (maxSteps := 999999) [-selQ_sel,h_2]
   have hr := (HS.some H).symm; subst hr
   exact Hid.mk ⟨(laws_heldNodeS_l0_X a0 (.inl x7)).2,Wk.ofk [] hk (by rfl) (by simp -implicitDefEqProofs [laws_heldNodeS_l0_X,h_2]) (by simp -implicitDefEqProofs [laws_heldNodeS_l0_X,h_2]),hR⟩
  ·replace H := HS.cnd_f h_2 H
   try simp -implicitDefEqProofs (maxSteps := 999999) [-selQ_sel,h_2]
   obtain ⟨v9,h_3,H⟩ := HS.bnd H
   try simp -implicitDefEqProofs (maxSteps := 999999) [-selQ_sel,h_2,h_3]
   refine Hid.brV (fun h_4 => ?_) (fun h_4 => ?_)
   ·replace H := HS.cnd_t h_4 H
    try simp -implicitDefEqProofs (maxSteps := 999999) [-selQ_sel,h_2,h_3,h_4]
    refine Hid.brV (fun h_5 => ?_) (fun h_5 => ?_)
    ·replace H := HS.cnd_t h_5 H
     try simp -implicitDefEqProofs (maxSteps := 999999) [-selQ_sel,h_2,h_3,h_4,h_5]
     refine Hid.brV (fun h_6 => ?_) (fun h_6 => ?_)
     ·replace H := HS.cnd_t h_6 H
      try simp -implicitDefEqProofs (maxSteps := 999999) [-selQ_sel,h_2,h_3,h_4,h_5,h_6]
      refine Hid.brV (fun h_7 => ?_) (fun h_7 => ?_)
      ·replace H := HS.cnd_t h_7 H
       try simp -implicitDefEqProofs (maxSteps := 999999) [-selQ_sel,h_2,h_3,h_4,h_5,h_6,h_7]
       refine Hid.brV (fun h_8 => ?_) (fun h_8 => ?_)
       ·replace H := HS.cnd_t h_8 H
        try simp -implicitDefEqProofs (maxSteps := 999999) [-selQ_sel,h_2,h_3,h_4,h_5,h_6,h_7,h_8]
        refine Hid.brV (fun h_9 => ?_) (fun h_9 => ?_)
        ·replace H := HS.cnd_t h_9 H
         try simp -implicitDefEqProofs (maxSteps := 999999) [-selQ_sel,h_2,h_3,h_4,h_5,h_6,h_7,h_8,h_9]
         refine Hid.brV (fun h_10 => ?_) (fun h_10 => ?_)
         ·replace H := HS.cnd_t h_10 H
          try simp -implicitDefEqProofs (maxSteps := 999999) [-selQ_sel,h_2,h_3,h_4,h_5,h_6,h_7,h_8,h_9,h_10]
          refine Hid.brV (fun h_11 => ?_) (fun h_11 => ?_)
          ·replace H := HS.cnd_t h_11 H
           try simp -implicitDefEqProofs (maxSteps := 999999) [-selQ_sel,h_2,h_3,h_4,h_5,h_6,h_7,h_8,h_9,h_10,h_11]
           refine Hid.brV (fun h_12 => ?_) (fun h_12 => ?_)
           ·replace H := HS.cnd_t h_12 H
            try simp -implicitDefEqProofs (maxSteps := 999999) [-selQ_sel,h_2,h_3,h_4,h_5,h_6,h_7,h_8,h_9,h_10,h_11,h_12]
            obtain ⟨v10,h_13,H⟩ := HS.bnd H
            try simp -implicitDefEqProofs (maxSteps := 999999) [-selQ_sel,h_2,h_3,h_4,h_5,h_6,h_7,h_8,h_9,h_10,h_11,h_12,h_13]
            refine Hid.brV (fun h_14 => ?_) (fun h_14 => ?_)
            ·replace H := HS.cnd_t h_14 H
             try simp -implicitDefEqProofs (maxSteps := 999999) [-selQ_sel,h_2,h_3,h_4,h_5,h_6,h_7,h_8,h_9,h_10,h_11,h_12,h_13,h_14]
             obtain ⟨v11,h_15,H⟩ := HS.bnd H
             try simp -implicitDefEqProofs (maxSteps := 999999) [-selQ_sel,h_2,h_3,h_4,h_5,h_6,h_7,h_8,h_9,h_10,h_11,h_12,h_13,h_14,h_15]
             refine Hid.brV (fun h_16 => ?_) (fun h_16 => ?_)
             ·replace H := HS.cnd_t h_16 H
              try simp -implicitDefEqProofs (maxSteps := 999999) [-selQ_sel,h_2,h_3,h_4,h_5,h_6,h_7,h_8,h_9,h_10,h_11,h_12,h_13,h_14,h_15,h_16]
              refine Hid.brV (fun h_17 => ?_) (fun h_17 => ?_)
              ·replace H := HS.cnd_t h_17 H
               try simp -implicitDefEqProofs (maxSteps := 999999) [-selQ_sel,h_2,h_3,h_4,h_5,h_6,h_7,h_8,h_9,h_10,h_11,h_12,h_13,h_14,h_15,h_16,h_17]
               refine Hid.brV (fun h_18 => ?_) (fun h_18 => ?_)
               ·replace H := HS.cnd_t h_18 H
                try simp -implicitDefEqProofs (maxSteps := 999999) [-selQ_sel,h_2,h_3,h_4,h_5,h_6,h_7,h_8,h_9,h_10,h_11,h_12,h_13,h_14,h_15,h_16,h_17,h_18]
                obtain ⟨v12,h_19,H⟩ := HS.bnd H
                try simp -implicitDefEqProofs (maxSteps := 999999) [-selQ_sel,h_2,h_3,h_4,h_5,h_6,h_7,h_8,h_9,h_10,h_11,h_12,h_13,h_14,h_15,h_16,h_17,h_18,h_19]
                refine Hid.brV (fun h_20 => ?_) (fun h_20 => ?_)
                ·replace H := HS.cnd_t h_20 H
                 try simp -implicitDefEqProofs (maxSteps := 999999) [-selQ_sel,h_2,h_3,h_4,h_5,h_6,h_7,h_8,h_9,h_10,h_11,h_12,h_13,h_14,h_15,h_16,h_17,h_18,h_19,h_20]
                 refine Hid.brV (fun h_21 => ?_) (fun h_21 => ?_)
                 ·replace H := HS.cnd_t h_21 H
                  try simp -implicitDefEqProofs (maxSteps := 999999) [-selQ_sel,h_2,h_3,h_4,h_5,h_6,h_7,h_8,h_9,h_10,h_11,h_12,h_13,h_14,h_15,h_16,h_17,h_18,h_19,h_20,h_21]
                  refine Hid.brV (fun h_22 => ?_) (fun h_22 => ?_)
                  ·replace H := HS.cnd_t h_22 H
                   try simp -implicitDefEqProofs (maxSteps := 999999) [-selQ_sel,h_2,h_3,h_4,h_5,h_6,h_7,h_8,h_9,h_10,h_11,h_12,h_13,h_14,h_15,h_16,h_17,h_18,h_19,h_20,h_21,h_22]
                   refine Hid.brV (fun h_23 => ?_) (fun h_23 => ?_)
                   ·replace H := HS.cnd_t h_23 H
                    try simp -implicitDefEqProofs (maxSteps := 999999) [-selQ_sel,h_2,h_3,h_4,h_5,h_6,h_7,h_8,h_9,h_10,h_11,h_12,h_13,h_14,h_15,h_16,h_17,h_18,h_19,h_20,h_21,h_22,h_23]
                    refine Hid.brV (fun h_24 => ?_) (fun h_24 => ?_)
                    ·replace H := HS.cnd_t h_24 H
                     try simp -implicitDefEqProofs (maxSteps := 999999) [-selQ_sel,h_2,h_3,h_4,h_5,h_6,h_7,h_8,h_9,h_10,h_11,h_12,h_13,h_14,h_15,h_16,h_17,h_18,h_19,h_20,h_21,h_22,h_23,h_24]
                     refine Hid.brV (fun h_25 => ?_) (fun h_25 => ?_)
                     ·replace H := HS.cnd_t h_25 H
                      try simp -implicitDefEqProofs (maxSteps := 999999) [-selQ_sel,h_2,h_3,h_4,h_5,h_6,h_7,h_8,h_9,h_10,h_11,h_12,h_13,h_14,h_15,h_16,h_17,h_18,h_19,h_20,h_21,h_22,h_23,h_24,h_25]
                      refine Hid.brV (fun h_26 => ?_) (fun h_26 => ?_)
                      ·replace H := HS.cnd_t h_26 H
                       try simp -implicitDefEqProofs (maxSteps := 999999) [-selQ_sel,h_2,h_3,h_4,h_5,h_6,h_7,h_8,h_9,h_10,h_11,h_12,h_13,h_14,h_15,h_16,h_17,h_18,h_19,h_20,h_21,h_22,h_23,h_24,h_25,h_26]
                       refine Hid.brV (fun h_27 => ?_) (fun h_27 => ?_)
                       ·replace H := HS.cnd_t h_27 H
                        try simp -implicitDefEqProofs (maxSteps := 999999) [-selQ_sel,h_2,h_3,h_4,h_5,h_6,h_7,h_8,h_9,h_10,h_11,h_12,h_13,h_14,h_15,h_16,h_17,h_18,h_19,h_20,h_21,h_22,h_23,h_24,h_25,h_26,h_27]
                        refine Hid.brV (fun h_28 => ?_) (fun h_28 => ?_)
                        ·replace H := HS.cnd_t h_28 H
                         try simp -implicitDefEqProofs (maxSteps := 999999) [-selQ_sel,h_2,h_3,h_4,h_5,h_6,h_7,h_8,h_9,h_10,h_11,h_12,h_13,h_14,h_15,h_16,h_17,h_18,h_19,h_20,h_21,h_22,h_23,h_24,h_25,h_26,h_27,h_28]
                         refine Hid.brV (fun h_29 => ?_) (fun h_29 => ?_)
                         ·replace H := HS.cnd_t h_29 H
                          try simp -implicitDefEqProofs (maxSteps := 999999) [-selQ_sel,h_2,h_3,h_4,h_5,h_6,h_7,h_8,h_9,h_10,h_11,h_12,h_13,h_14,h_15,h_16,h_17,h_18,h_19,h_20,h_21,h_22,h_23,h_24,h_25,h_26,h_27,h_28,h_29]
                          refine Hid.brV (fun h_30 => ?_) (fun h_30 => ?_)
                          ·replace H := HS.cnd_t h_30 H
                           try simp -implicitDefEqProofs (maxSteps := 999999) [-selQ_sel,h_2,h_3,h_4,h_5,h_6,h_7,h_8,h_9,h_10,h_11,h_12,h_13,h_14,h_15,h_16,h_17,h_18,h_19,h_20,h_21,h_22,h_23,h_24,h_25,h_26,h_27,h_28,h_29,h_30]
                           refine Hid.brV (fun h_31 => ?_) (fun h_31 => ?_)
                           ·replace H := HS.cnd_t h_31 H
                            try simp -implicitDefEqProofs (maxSteps := 999999) [-selQ_sel,h_2,h_3,h_4,h_5,h_6,h_7,h_8,h_9,h_10,h_11,h_12,h_13,h_14,h_15,h_16,h_17,h_18,h_19,h_20,h_21,h_22,h_23,h_24,h_25,h_26,h_27,h_28,h_29,h_30,h_31]
                            refine Hid.brV (fun h_32 => ?_) (fun h_32 => ?_)
                            ·replace H := HS.cnd_t h_32 H
                             try simp -implicitDefEqProofs (maxSteps := 999999) [-selQ_sel,h_2,h_3,h_4,h_5,h_6,h_7,h_8,h_9,h_10,h_11,h_12,h_13,h_14,h_15,h_16,h_17,h_18,h_19,h_20,h_21,h_22,h_23,h_24,h_25,h_26,h_27,h_28,h_29,h_30,h_31,h_32]
                             refine Hid.brV (fun h_33 => ?_) (fun h_33 => ?_)
                             ·replace H := HS.cnd_t h_33 H
                              try simp -implicitDefEqProofs (maxSteps := 999999) [-selQ_sel,h_2,h_3,h_4,h_5,h_6,h_7,h_8,h_9,h_10,h_11,h_12,h_13,h_14,h_15,h_16,h_17,h_18,h_19,h_20,h_21,h_22,h_23,h_24,h_25,h_26,h_27,h_28,h_29,h_30,h_31,h_32,h_33]
                              refine Hid.brV (fun h_34 => ?_) (fun h_34 => ?_)
                              ·replace H := HS.cnd_t h_34 H
                               try simp -implicitDefEqProofs (maxSteps := 999999) [-selQ_sel,h_2,h_3,h_4,h_5,h_6,h_7,h_8,h_9,h_10,h_11,h_12,h_13,h_14,h_15,h_16,h_17,h_18,h_19,h_20,h_21,h_22,h_23,h_24,h_25,h_26,h_27,h_28,h_29,h_30,h_31,h_32,h_33,h_34]
                               refine Hid.brV (fun h_35 => ?_) (fun h_35 => ?_)
                               ·replace H := HS.cnd_t h_35 H
                                try simp -implicitDefEqProofs (maxSteps := 999999) [-selQ_sel,h_2,h_3,h_4,h_5,h_6,h_7,h_8,h_9,h_10,h_11,h_12,h_13,h_14,h_15,h_16,h_17,h_18,h_19,h_20,h_21,h_22,h_23,h_24,h_25,h_26,h_27,h_28,h_29,h_30,h_31,h_32,h_33,h_34,h_35]
                                obtain ⟨v13,h_36,H⟩ := HS.bnd H
                                try simp -implicitDefEqProofs (maxSteps := 999999) [-selQ_sel,h_2,h_3,h_4,h_5,h_6,h_7,h_8,h_9,h_10,h_11,h_12,h_13,h_14,h_15,h_16,h_17,h_18,h_19,h_20,h_21,h_22,h_23,h_24,h_25,h_26,h_27,h_28,h_29,h_30,h_31,h_32,h_33,h_34,h_35,h_36]
                                refine Hid.brV (fun h_37 => ?_) (fun h_37 => ?_)
                                ·replace H := HS.cnd_t h_37 H
                                 try simp -implicitDefEqProofs (maxSteps := 999999) [-selQ_sel,h_2,h_3,h_4,h_5,h_6,h_7,h_8,h_9,h_10,h_11,h_12,h_13,h_14,h_15,h_16,h_17,h_18,h_19,h_20,h_21,h_22,h_23,h_24,h_25,h_26,h_27,h_28,h_29,h_30,h_31,h_32,h_33,h_34,h_35,h_36,h_37]
                                 obtain ⟨v14,h_38,H⟩ := HS.bnd H
                                 try simp -implicitDefEqProofs (maxSteps := 999999) [-selQ_sel,h_2,h_3,h_4,h_5,h_6,h_7,h_8,h_9,h_10,h_11,h_12,h_13,h_14,h_15,h_16,h_17,h_18,h_19,h_20,h_21,h_22,h_23,h_24,h_25,h_26,h_27,h_28,h_29,h_30,h_31,h_32,h_33,h_34,h_35,h_36,h_37,h_38]
                                 refine Hid.brV (fun h_39 => ?_) (fun h_39 => ?_)
                                 ·replace H := HS.cnd_t h_39 H
                                  try simp -implicitDefEqProofs (maxSteps := 999999) [-selQ_sel,h_2,h_3,h_4,h_5,h_6,h_7,h_8,h_9,h_10,h_11,h_12,h_13,h_14,h_15,h_16,h_17,h_18,h_19,h_20,h_21,h_22,h_23,h_24,h_25,h_26,h_27,h_28,h_29,h_30,h_31,h_32,h_33,h_34,h_35,h_36,h_37,h_38,h_39]
                                  have hr := (HS.some H).symm; subst hr
                                  exact Hid.mk ⟨laws_heldNodeS_l0_S a0 (v14,(IntKind.i64.wrap (x8 + 1))),Wk.ofk [] hk (by rfl) (by simp -implicitDefEqProofs [laws_heldNodeS_l0_S,h_2,h_3,h_4,h_5,h_6,h_7,h_8,h_9,h_10,h_11,h_12,h_13,h_14,h_15,h_16,h_17,h_18,h_19,h_20,h_21,h_22,h_23,h_24,h_25,h_26,h_27,h_28,h_29,h_30,h_31,h_32,h_33,h_34,h_35,h_36,h_37,h_38,h_39]) (by simp -implicitDefEqProofs [laws_heldNodeS_l0_S,h_2,h_3,h_4,h_5,h_6,h_7,h_8,h_9,h_10,h_11,h_12,h_13,h_14,h_15,h_16,h_17,h_18,h_19,h_20,h_21,h_22,h_23,h_24,h_25,h_26,h_27,h_28,h_29,h_30,h_31,h_32,h_33,h_34,h_35,h_36,h_37,h_38,h_39]),hR⟩
                                 ·replace H := HS.cnd_f h_39 H
                                  try simp -implicitDefEqProofs (maxSteps := 999999) [-selQ_sel,h_2,h_3,h_4,h_5,h_6,h_7,h_8,h_9,h_10,h_11,h_12,h_13,h_14,h_15,h_16,h_17,h_18,h_19,h_20,h_21,h_22,h_23,h_24,h_25,h_26,h_27,h_28,h_29,h_30,h_31,h_32,h_33,h_34,h_35,h_36,h_37,h_38,h_39]
                                  have hr := (HS.some H).symm; subst hr
                                  exact Hid.mk ⟨(laws_heldNodeS_l0_X a0 (.inr ())).2,Wk.ofk [] hk (by rfl) (by simp -implicitDefEqProofs [laws_heldNodeS_l0_X,h_2,h_3,h_4,h_5,h_6,h_7,h_8,h_9,h_10,h_11,h_12,h_13,h_14,h_15,h_16,h_17,h_18,h_19,h_20,h_21,h_22,h_23,h_24,h_25,h_26,h_27,h_28,h_29,h_30,h_31,h_32,h_33,h_34,h_35,h_36,h_37,h_38,h_39]) (by simp -implicitDefEqProofs [laws_heldNodeS_l0_X,h_2,h_3,h_4,h_5,h_6,h_7,h_8,h_9,h_10,h_11,h_12,h_13,h_14,h_15,h_16,h_17,h_18,h_19,h_20,h_21,h_22,h_23,h_24,h_25,h_26,h_27,h_28,h_29,h_30,h_31,h_32,h_33,h_34,h_35,h_36,h_37,h_38,h_39]),hR⟩
                                ·replace H := HS.cnd_f h_37 H
                                 try simp -implicitDefEqProofs (maxSteps := 999999) [-selQ_sel,h_2,h_3,h_4,h_5,h_6,h_7,h_8,h_9,h_10,h_11,h_12,h_13,h_14,h_15,h_16,h_17,h_18,h_19,h_20,h_21,h_22,h_23,h_24,h_25,h_26,h_27,h_28,h_29,h_30,h_31,h_32,h_33,h_34,h_35,h_36,h_37]
                                 have hr := (HS.some H).symm; subst hr
                                 exact Hid.mk ⟨(laws_heldNodeS_l0_X a0 (.inr ())).2,Wk.ofk [] hk (by rfl) (by simp -implicitDefEqProofs [laws_heldNodeS_l0_X,h_2,h_3,h_4,h_5,h_6,h_7,h_8,h_9,h_10,h_11,h_12,h_13,h_14,h_15,h_16,h_17,h_18,h_19,h_20,h_21,h_22,h_23,h_24,h_25,h_26,h_27,h_28,h_29,h_30,h_31,h_32,h_33,h_34,h_35,h_36,h_37]) (by simp -implicitDefEqProofs [laws_heldNodeS_l0_X,h_2,h_3,h_4,h_5,h_6,h_7,h_8,h_9,h_10,h_11,h_12,h_13,h_14,h_15,h_16,h_17,h_18,h_19,h_20,h_21,h_22,h_23,h_24,h_25,h_26,h_27,h_28,h_29,h_30,h_31,h_32,h_33,h_34,h_35,h_36,h_37]),hR⟩
                               ·replace H := HS.cnd_f h_35 H
                                try simp -implicitDefEqProofs (maxSteps := 999999) [-selQ_sel,h_2,h_3,h_4,h_5,h_6,h_7,h_8,h_9,h_10,h_11,h_12,h_13,h_14,h_15,h_16,h_17,h_18,h_19,h_20,h_21,h_22,h_23,h_24,h_25,h_26,h_27,h_28,h_29,h_30,h_31,h_32,h_33,h_34,h_35]
                                have hr := (HS.some H).symm; subst hr
                                exact Hid.mk ⟨(laws_heldNodeS_l0_X a0 (.inr ())).2,Wk.ofk [] hk (by rfl) (by simp -implicitDefEqProofs [laws_heldNodeS_l0_X,h_2,h_3,h_4,h_5,h_6,h_7,h_8,h_9,h_10,h_11,h_12,h_13,h_14,h_15,h_16,h_17,h_18,h_19,h_20,h_21,h_22,h_23,h_24,h_25,h_26,h_27,h_28,h_29,h_30,h_31,h_32,h_33,h_34,h_35]) (by simp -implicitDefEqProofs [laws_heldNodeS_l0_X,h_2,h_3,h_4,h_5,h_6,h_7,h_8,h_9,h_10,h_11,h_12,h_13,h_14,h_15,h_16,h_17,h_18,h_19,h_20,h_21,h_22,h_23,h_24,h_25,h_26,h_27,h_28,h_29,h_30,h_31,h_32,h_33,h_34,h_35]),hR⟩
                              ·replace H := HS.cnd_f h_34 H
                               try simp -implicitDefEqProofs (maxSteps := 999999) [-selQ_sel,h_2,h_3,h_4,h_5,h_6,h_7,h_8,h_9,h_10,h_11,h_12,h_13,h_14,h_15,h_16,h_17,h_18,h_19,h_20,h_21,h_22,h_23,h_24,h_25,h_26,h_27,h_28,h_29,h_30,h_31,h_32,h_33,h_34]
                               have hr := (HS.some H).symm; subst hr
                               exact Hid.mk ⟨(laws_heldNodeS_l0_X a0 (.inr ())).2,Wk.ofk [] hk (by rfl) (by simp -implicitDefEqProofs [laws_heldNodeS_l0_X,h_2,h_3,h_4,h_5,h_6,h_7,h_8,h_9,h_10,h_11,h_12,h_13,h_14,h_15,h_16,h_17,h_18,h_19,h_20,h_21,h_22,h_23,h_24,h_25,h_26,h_27,h_28,h_29,h_30,h_31,h_32,h_33,h_34]) (by simp -implicitDefEqProofs [laws_heldNodeS_l0_X,h_2,h_3,h_4,h_5,h_6,h_7,h_8,h_9,h_10,h_11,h_12,h_13,h_14,h_15,h_16,h_17,h_18,h_19,h_20,h_21,h_22,h_23,h_24,h_25,h_26,h_27,h_28,h_29,h_30,h_31,h_32,h_33,h_34]),hR⟩
                             ·replace H := HS.cnd_f h_33 H
                              try simp -implicitDefEqProofs (maxSteps := 999999) [-selQ_sel,h_2,h_3,h_4,h_5,h_6,h_7,h_8,h_9,h_10,h_11,h_12,h_13,h_14,h_15,h_16,h_17,h_18,h_19,h_20,h_21,h_22,h_23,h_24,h_25,h_26,h_27,h_28,h_29,h_30,h_31,h_32,h_33]
                              have hr := (HS.some H).symm; subst hr
                              exact Hid.mk ⟨(laws_heldNodeS_l0_X a0 (.inr ())).2,Wk.ofk [] hk (by rfl) (by simp -implicitDefEqProofs [laws_heldNodeS_l0_X,h_2,h_3,h_4,h_5,h_6,h_7,h_8,h_9,h_10,h_11,h_12,h_13,h_14,h_15,h_16,h_17,h_18,h_19,h_20,h_21,h_22,h_23,h_24,h_25,h_26,h_27,h_28,h_29,h_30,h_31,h_32,h_33]) (by simp -implicitDefEqProofs [laws_heldNodeS_l0_X,h_2,h_3,h_4,h_5,h_6,h_7,h_8,h_9,h_10,h_11,h_12,h_13,h_14,h_15,h_16,h_17,h_18,h_19,h_20,h_21,h_22,h_23,h_24,h_25,h_26,h_27,h_28,h_29,h_30,h_31,h_32,h_33]),hR⟩
                            ·replace H := HS.cnd_f h_32 H
                             try simp -implicitDefEqProofs (maxSteps := 999999) [-selQ_sel,h_2,h_3,h_4,h_5,h_6,h_7,h_8,h_9,h_10,h_11,h_12,h_13,h_14,h_15,h_16,h_17,h_18,h_19,h_20,h_21,h_22,h_23,h_24,h_25,h_26,h_27,h_28,h_29,h_30,h_31,h_32]
                             have hr := (HS.some H).symm; subst hr
                             exact Hid.mk ⟨(laws_heldNodeS_l0_X a0 (.inr ())).2,Wk.ofk [] hk (by rfl) (by simp -implicitDefEqProofs [laws_heldNodeS_l0_X,h_2,h_3,h_4,h_5,h_6,h_7,h_8,h_9,h_10,h_11,h_12,h_13,h_14,h_15,h_16,h_17,h_18,h_19,h_20,h_21,h_22,h_23,h_24,h_25,h_26,h_27,h_28,h_29,h_30,h_31,h_32]) (by simp -implicitDefEqProofs [laws_heldNodeS_l0_X,h_2,h_3,h_4,h_5,h_6,h_7,h_8,h_9,h_10,h_11,h_12,h_13,h_14,h_15,h_16,h_17,h_18,h_19,h_20,h_21,h_22,h_23,h_24,h_25,h_26,h_27,h_28,h_29,h_30,h_31,h_32]),hR⟩
                           ·replace H := HS.cnd_f h_31 H
                            try simp -implicitDefEqProofs (maxSteps := 999999) [-selQ_sel,h_2,h_3,h_4,h_5,h_6,h_7,h_8,h_9,h_10,h_11,h_12,h_13,h_14,h_15,h_16,h_17,h_18,h_19,h_20,h_21,h_22,h_23,h_24,h_25,h_26,h_27,h_28,h_29,h_30,h_31]
                            have hr := (HS.some H).symm; subst hr
                            exact Hid.mk ⟨(laws_heldNodeS_l0_X a0 (.inr ())).2,Wk.ofk [] hk (by rfl) (by simp -implicitDefEqProofs [laws_heldNodeS_l0_X,h_2,h_3,h_4,h_5,h_6,h_7,h_8,h_9,h_10,h_11,h_12,h_13,h_14,h_15,h_16,h_17,h_18,h_19,h_20,h_21,h_22,h_23,h_24,h_25,h_26,h_27,h_28,h_29,h_30,h_31]) (by simp -implicitDefEqProofs [laws_heldNodeS_l0_X,h_2,h_3,h_4,h_5,h_6,h_7,h_8,h_9,h_10,h_11,h_12,h_13,h_14,h_15,h_16,h_17,h_18,h_19,h_20,h_21,h_22,h_23,h_24,h_25,h_26,h_27,h_28,h_29,h_30,h_31]),hR⟩
                          ·replace H := HS.cnd_f h_30 H
                           try simp -implicitDefEqProofs (maxSteps := 999999) [-selQ_sel,h_2,h_3,h_4,h_5,h_6,h_7,h_8,h_9,h_10,h_11,h_12,h_13,h_14,h_15,h_16,h_17,h_18,h_19,h_20,h_21,h_22,h_23,h_24,h_25,h_26,h_27,h_28,h_29,h_30]
                           have hr := (HS.some H).symm; subst hr
                           exact Hid.mk ⟨(laws_heldNodeS_l0_X a0 (.inr ())).2,Wk.ofk [] hk (by rfl) (by simp -implicitDefEqProofs [laws_heldNodeS_l0_X,h_2,h_3,h_4,h_5,h_6,h_7,h_8,h_9,h_10,h_11,h_12,h_13,h_14,h_15,h_16,h_17,h_18,h_19,h_20,h_21,h_22,h_23,h_24,h_25,h_26,h_27,h_28,h_29,h_30]) (by simp -implicitDefEqProofs [laws_heldNodeS_l0_X,h_2,h_3,h_4,h_5,h_6,h_7,h_8,h_9,h_10,h_11,h_12,h_13,h_14,h_15,h_16,h_17,h_18,h_19,h_20,h_21,h_22,h_23,h_24,h_25,h_26,h_27,h_28,h_29,h_30]),hR⟩
                         ·replace H := HS.cnd_f h_29 H
                          try simp -implicitDefEqProofs (maxSteps := 999999) [-selQ_sel,h_2,h_3,h_4,h_5,h_6,h_7,h_8,h_9,h_10,h_11,h_12,h_13,h_14,h_15,h_16,h_17,h_18,h_19,h_20,h_21,h_22,h_23,h_24,h_25,h_26,h_27,h_28,h_29]
                          have hr := (HS.some H).symm; subst hr
                          exact Hid.mk ⟨(laws_heldNodeS_l0_X a0 (.inr ())).2,Wk.ofk [] hk (by rfl) (by simp -implicitDefEqProofs [laws_heldNodeS_l0_X,h_2,h_3,h_4,h_5,h_6,h_7,h_8,h_9,h_10,h_11,h_12,h_13,h_14,h_15,h_16,h_17,h_18,h_19,h_20,h_21,h_22,h_23,h_24,h_25,h_26,h_27,h_28,h_29]) (by simp -implicitDefEqProofs [laws_heldNodeS_l0_X,h_2,h_3,h_4,h_5,h_6,h_7,h_8,h_9,h_10,h_11,h_12,h_13,h_14,h_15,h_16,h_17,h_18,h_19,h_20,h_21,h_22,h_23,h_24,h_25,h_26,h_27,h_28,h_29]),hR⟩
                        ·replace H := HS.cnd_f h_28 H
                         try simp -implicitDefEqProofs (maxSteps := 999999) [-selQ_sel,h_2,h_3,h_4,h_5,h_6,h_7,h_8,h_9,h_10,h_11,h_12,h_13,h_14,h_15,h_16,h_17,h_18,h_19,h_20,h_21,h_22,h_23,h_24,h_25,h_26,h_27,h_28]
                         have hr := (HS.some H).symm; subst hr
                         exact Hid.mk ⟨(laws_heldNodeS_l0_X a0 (.inr ())).2,Wk.ofk [] hk (by rfl) (by simp -implicitDefEqProofs [laws_heldNodeS_l0_X,h_2,h_3,h_4,h_5,h_6,h_7,h_8,h_9,h_10,h_11,h_12,h_13,h_14,h_15,h_16,h_17,h_18,h_19,h_20,h_21,h_22,h_23,h_24,h_25,h_26,h_27,h_28]) (by simp -implicitDefEqProofs [laws_heldNodeS_l0_X,h_2,h_3,h_4,h_5,h_6,h_7,h_8,h_9,h_10,h_11,h_12,h_13,h_14,h_15,h_16,h_17,h_18,h_19,h_20,h_21,h_22,h_23,h_24,h_25,h_26,h_27,h_28]),hR⟩
                       ·replace H := HS.cnd_f h_27 H
                        try simp -implicitDefEqProofs (maxSteps := 999999) [-selQ_sel,h_2,h_3,h_4,h_5,h_6,h_7,h_8,h_9,h_10,h_11,h_12,h_13,h_14,h_15,h_16,h_17,h_18,h_19,h_20,h_21,h_22,h_23,h_24,h_25,h_26,h_27]
                        have hr := (HS.some H).symm; subst hr
                        exact Hid.mk ⟨(laws_heldNodeS_l0_X a0 (.inr ())).2,Wk.ofk [] hk (by rfl) (by simp -implicitDefEqProofs [laws_heldNodeS_l0_X,h_2,h_3,h_4,h_5,h_6,h_7,h_8,h_9,h_10,h_11,h_12,h_13,h_14,h_15,h_16,h_17,h_18,h_19,h_20,h_21,h_22,h_23,h_24,h_25,h_26,h_27]) (by simp -implicitDefEqProofs [laws_heldNodeS_l0_X,h_2,h_3,h_4,h_5,h_6,h_7,h_8,h_9,h_10,h_11,h_12,h_13,h_14,h_15,h_16,h_17,h_18,h_19,h_20,h_21,h_22,h_23,h_24,h_25,h_26,h_27]),hR⟩
                      ·replace H := HS.cnd_f h_26 H
                       try simp -implicitDefEqProofs (maxSteps := 999999) [-selQ_sel,h_2,h_3,h_4,h_5,h_6,h_7,h_8,h_9,h_10,h_11,h_12,h_13,h_14,h_15,h_16,h_17,h_18,h_19,h_20,h_21,h_22,h_23,h_24,h_25,h_26]
                       have hr := (HS.some H).symm; subst hr
                       exact Hid.mk ⟨(laws_heldNodeS_l0_X a0 (.inr ())).2,Wk.ofk [] hk (by rfl) (by simp -implicitDefEqProofs [laws_heldNodeS_l0_X,h_2,h_3,h_4,h_5,h_6,h_7,h_8,h_9,h_10,h_11,h_12,h_13,h_14,h_15,h_16,h_17,h_18,h_19,h_20,h_21,h_22,h_23,h_24,h_25,h_26]) (by simp -implicitDefEqProofs [laws_heldNodeS_l0_X,h_2,h_3,h_4,h_5,h_6,h_7,h_8,h_9,h_10,h_11,h_12,h_13,h_14,h_15,h_16,h_17,h_18,h_19,h_20,h_21,h_22,h_23,h_24,h_25,h_26]),hR⟩
                     ·replace H := HS.cnd_f h_25 H
                      try simp -implicitDefEqProofs (maxSteps := 999999) [-selQ_sel,h_2,h_3,h_4,h_5,h_6,h_7,h_8,h_9,h_10,h_11,h_12,h_13,h_14,h_15,h_16,h_17,h_18,h_19,h_20,h_21,h_22,h_23,h_24,h_25]
                      have hr := (HS.some H).symm; subst hr
                      exact Hid.mk ⟨(laws_heldNodeS_l0_X a0 (.inr ())).2,Wk.ofk [] hk (by rfl) (by simp -implicitDefEqProofs [laws_heldNodeS_l0_X,h_2,h_3,h_4,h_5,h_6,h_7,h_8,h_9,h_10,h_11,h_12,h_13,h_14,h_15,h_16,h_17,h_18,h_19,h_20,h_21,h_22,h_23,h_24,h_25]) (by simp -implicitDefEqProofs [laws_heldNodeS_l0_X,h_2,h_3,h_4,h_5,h_6,h_7,h_8,h_9,h_10,h_11,h_12,h_13,h_14,h_15,h_16,h_17,h_18,h_19,h_20,h_21,h_22,h_23,h_24,h_25]),hR⟩
                    ·replace H := HS.cnd_f h_24 H
                     try simp -implicitDefEqProofs (maxSteps := 999999) [-selQ_sel,h_2,h_3,h_4,h_5,h_6,h_7,h_8,h_9,h_10,h_11,h_12,h_13,h_14,h_15,h_16,h_17,h_18,h_19,h_20,h_21,h_22,h_23,h_24]
                     have hr := (HS.some H).symm; subst hr
                     exact Hid.mk ⟨(laws_heldNodeS_l0_X a0 (.inr ())).2,Wk.ofk [] hk (by rfl) (by simp -implicitDefEqProofs [laws_heldNodeS_l0_X,h_2,h_3,h_4,h_5,h_6,h_7,h_8,h_9,h_10,h_11,h_12,h_13,h_14,h_15,h_16,h_17,h_18,h_19,h_20,h_21,h_22,h_23,h_24]) (by simp -implicitDefEqProofs [laws_heldNodeS_l0_X,h_2,h_3,h_4,h_5,h_6,h_7,h_8,h_9,h_10,h_11,h_12,h_13,h_14,h_15,h_16,h_17,h_18,h_19,h_20,h_21,h_22,h_23,h_24]),hR⟩
                   ·replace H := HS.cnd_f h_23 H
                    try simp -implicitDefEqProofs (maxSteps := 999999) [-selQ_sel,h_2,h_3,h_4,h_5,h_6,h_7,h_8,h_9,h_10,h_11,h_12,h_13,h_14,h_15,h_16,h_17,h_18,h_19,h_20,h_21,h_22,h_23]
                    have hr := (HS.some H).symm; subst hr
                    exact Hid.mk ⟨(laws_heldNodeS_l0_X a0 (.inr ())).2,Wk.ofk [] hk (by rfl) (by simp -implicitDefEqProofs [laws_heldNodeS_l0_X,h_2,h_3,h_4,h_5,h_6,h_7,h_8,h_9,h_10,h_11,h_12,h_13,h_14,h_15,h_16,h_17,h_18,h_19,h_20,h_21,h_22,h_23]) (by simp -implicitDefEqProofs [laws_heldNodeS_l0_X,h_2,h_3,h_4,h_5,h_6,h_7,h_8,h_9,h_10,h_11,h_12,h_13,h_14,h_15,h_16,h_17,h_18,h_19,h_20,h_21,h_22,h_23]),hR⟩
                  ·replace H := HS.cnd_f h_22 H
                   try simp -implicitDefEqProofs (maxSteps := 999999) [-selQ_sel,h_2,h_3,h_4,h_5,h_6,h_7,h_8,h_9,h_10,h_11,h_12,h_13,h_14,h_15,h_16,h_17,h_18,h_19,h_20,h_21,h_22]
                   have hr := (HS.some H).symm; subst hr
                   exact Hid.mk ⟨(laws_heldNodeS_l0_X a0 (.inr ())).2,Wk.ofk [] hk (by rfl) (by simp -implicitDefEqProofs [laws_heldNodeS_l0_X,h_2,h_3,h_4,h_5,h_6,h_7,h_8,h_9,h_10,h_11,h_12,h_13,h_14,h_15,h_16,h_17,h_18,h_19,h_20,h_21,h_22]) (by simp -implicitDefEqProofs [laws_heldNodeS_l0_X,h_2,h_3,h_4,h_5,h_6,h_7,h_8,h_9,h_10,h_11,h_12,h_13,h_14,h_15,h_16,h_17,h_18,h_19,h_20,h_21,h_22]),hR⟩
                 ·replace H := HS.cnd_f h_21 H
                  try simp -implicitDefEqProofs (maxSteps := 999999) [-selQ_sel,h_2,h_3,h_4,h_5,h_6,h_7,h_8,h_9,h_10,h_11,h_12,h_13,h_14,h_15,h_16,h_17,h_18,h_19,h_20,h_21]
                  have hr := (HS.some H).symm; subst hr
                  exact Hid.mk ⟨(laws_heldNodeS_l0_X a0 (.inr ())).2,Wk.ofk [] hk (by rfl) (by simp -implicitDefEqProofs [laws_heldNodeS_l0_X,h_2,h_3,h_4,h_5,h_6,h_7,h_8,h_9,h_10,h_11,h_12,h_13,h_14,h_15,h_16,h_17,h_18,h_19,h_20,h_21]) (by simp -implicitDefEqProofs [laws_heldNodeS_l0_X,h_2,h_3,h_4,h_5,h_6,h_7,h_8,h_9,h_10,h_11,h_12,h_13,h_14,h_15,h_16,h_17,h_18,h_19,h_20,h_21]),hR⟩
                ·replace H := HS.cnd_f h_20 H
                 try simp -implicitDefEqProofs (maxSteps := 999999) [-selQ_sel,h_2,h_3,h_4,h_5,h_6,h_7,h_8,h_9,h_10,h_11,h_12,h_13,h_14,h_15,h_16,h_17,h_18,h_19,h_20]
                 have hr := (HS.some H).symm; subst hr
                 exact Hid.mk ⟨(laws_heldNodeS_l0_X a0 (.inr ())).2,Wk.ofk [] hk (by rfl) (by simp -implicitDefEqProofs [laws_heldNodeS_l0_X,h_2,h_3,h_4,h_5,h_6,h_7,h_8,h_9,h_10,h_11,h_12,h_13,h_14,h_15,h_16,h_17,h_18,h_19,h_20]) (by simp -implicitDefEqProofs [laws_heldNodeS_l0_X,h_2,h_3,h_4,h_5,h_6,h_7,h_8,h_9,h_10,h_11,h_12,h_13,h_14,h_15,h_16,h_17,h_18,h_19,h_20]),hR⟩
               ·replace H := HS.cnd_f h_18 H
                try simp -implicitDefEqProofs (maxSteps := 999999) [-selQ_sel,h_2,h_3,h_4,h_5,h_6,h_7,h_8,h_9,h_10,h_11,h_12,h_13,h_14,h_15,h_16,h_17,h_18]
                have hr := (HS.some H).symm; subst hr
                exact Hid.mk ⟨(laws_heldNodeS_l0_X a0 (.inr ())).2,Wk.ofk [] hk (by rfl) (by simp -implicitDefEqProofs [laws_heldNodeS_l0_X,h_2,h_3,h_4,h_5,h_6,h_7,h_8,h_9,h_10,h_11,h_12,h_13,h_14,h_15,h_16,h_17,h_18]) (by simp -implicitDefEqProofs [laws_heldNodeS_l0_X,h_2,h_3,h_4,h_5,h_6,h_7,h_8,h_9,h_10,h_11,h_12,h_13,h_14,h_15,h_16,h_17,h_18]),hR⟩
              ·replace H := HS.cnd_f h_17 H
               try simp -implicitDefEqProofs (maxSteps := 999999) [-selQ_sel,h_2,h_3,h_4,h_5,h_6,h_7,h_8,h_9,h_10,h_11,h_12,h_13,h_14,h_15,h_16,h_17]
               have hr := (HS.some H).symm; subst hr
               exact Hid.mk ⟨(laws_heldNodeS_l0_X a0 (.inr ())).2,Wk.ofk [] hk (by rfl) (by simp -implicitDefEqProofs [laws_heldNodeS_l0_X,h_2,h_3,h_4,h_5,h_6,h_7,h_8,h_9,h_10,h_11,h_12,h_13,h_14,h_15,h_16,h_17]) (by simp -implicitDefEqProofs [laws_heldNodeS_l0_X,h_2,h_3,h_4,h_5,h_6,h_7,h_8,h_9,h_10,h_11,h_12,h_13,h_14,h_15,h_16,h_17]),hR⟩
             ·replace H := HS.cnd_f h_16 H
              try simp -implicitDefEqProofs (maxSteps := 999999) [-selQ_sel,h_2,h_3,h_4,h_5,h_6,h_7,h_8,h_9,h_10,h_11,h_12,h_13,h_14,h_15,h_16]
              have hr := (HS.some H).symm; subst hr
              exact Hid.mk ⟨(laws_heldNodeS_l0_X a0 (.inr ())).2,Wk.ofk [] hk (by rfl) (by simp -implicitDefEqProofs [laws_heldNodeS_l0_X,h_2,h_3,h_4,h_5,h_6,h_7,h_8,h_9,h_10,h_11,h_12,h_13,h_14,h_15,h_16]) (by simp -implicitDefEqProofs [laws_heldNodeS_l0_X,h_2,h_3,h_4,h_5,h_6,h_7,h_8,h_9,h_10,h_11,h_12,h_13,h_14,h_15,h_16]),hR⟩
            ·replace H := HS.cnd_f h_14 H
             try simp -implicitDefEqProofs (maxSteps := 999999) [-selQ_sel,h_2,h_3,h_4,h_5,h_6,h_7,h_8,h_9,h_10,h_11,h_12,h_13,h_14]
             have hr := (HS.some H).symm; subst hr
             exact Hid.mk ⟨(laws_heldNodeS_l0_X a0 (.inr ())).2,Wk.ofk [] hk (by rfl) (by simp -implicitDefEqProofs [laws_heldNodeS_l0_X,h_2,h_3,h_4,h_5,h_6,h_7,h_8,h_9,h_10,h_11,h_12,h_13,h_14]) (by simp -implicitDefEqProofs [laws_heldNodeS_l0_X,h_2,h_3,h_4,h_5,h_6,h_7,h_8,h_9,h_10,h_11,h_12,h_13,h_14]),hR⟩
           ·replace H := HS.cnd_f h_12 H
            try simp -implicitDefEqProofs (maxSteps := 999999) [-selQ_sel,h_2,h_3,h_4,h_5,h_6,h_7,h_8,h_9,h_10,h_11,h_12]
            have hr := (HS.some H).symm; subst hr
            exact Hid.mk ⟨(laws_heldNodeS_l0_X a0 (.inr ())).2,Wk.ofk [] hk (by rfl) (by simp -implicitDefEqProofs [laws_heldNodeS_l0_X,h_2,h_3,h_4,h_5,h_6,h_7,h_8,h_9,h_10,h_11,h_12]) (by simp -implicitDefEqProofs [laws_heldNodeS_l0_X,h_2,h_3,h_4,h_5,h_6,h_7,h_8,h_9,h_10,h_11,h_12]),hR⟩
          ·replace H := HS.cnd_f h_11 H
           try simp -implicitDefEqProofs (maxSteps := 999999) [-selQ_sel,h_2,h_3,h_4,h_5,h_6,h_7,h_8,h_9,h_10,h_11]
           have hr := (HS.some H).symm; subst hr
           exact Hid.mk ⟨(laws_heldNodeS_l0_X a0 (.inr ())).2,Wk.ofk [] hk (by rfl) (by simp -implicitDefEqProofs [laws_heldNodeS_l0_X,h_2,h_3,h_4,h_5,h_6,h_7,h_8,h_9,h_10,h_11]) (by simp -implicitDefEqProofs [laws_heldNodeS_l0_X,h_2,h_3,h_4,h_5,h_6,h_7,h_8,h_9,h_10,h_11]),hR⟩
         ·replace H := HS.cnd_f h_10 H
          try simp -implicitDefEqProofs (maxSteps := 999999) [-selQ_sel,h_2,h_3,h_4,h_5,h_6,h_7,h_8,h_9,h_10]
          have hr := (HS.some H).symm; subst hr
          exact Hid.mk ⟨(laws_heldNodeS_l0_X a0 (.inr ())).2,Wk.ofk [] hk (by rfl) (by simp -implicitDefEqProofs [laws_heldNodeS_l0_X,h_2,h_3,h_4,h_5,h_6,h_7,h_8,h_9,h_10]) (by simp -implicitDefEqProofs [laws_heldNodeS_l0_X,h_2,h_3,h_4,h_5,h_6,h_7,h_8,h_9,h_10]),hR⟩
        ·replace H := HS.cnd_f h_9 H
         try simp -implicitDefEqProofs (maxSteps := 999999) [-selQ_sel,h_2,h_3,h_4,h_5,h_6,h_7,h_8,h_9]
         have hr := (HS.some H).symm; subst hr
         exact Hid.mk ⟨(laws_heldNodeS_l0_X a0 (.inr ())).2,Wk.ofk [] hk (by rfl) (by simp -implicitDefEqProofs [laws_heldNodeS_l0_X,h_2,h_3,h_4,h_5,h_6,h_7,h_8,h_9]) (by simp -implicitDefEqProofs [laws_heldNodeS_l0_X,h_2,h_3,h_4,h_5,h_6,h_7,h_8,h_9]),hR⟩
       ·replace H := HS.cnd_f h_8 H
        try simp -implicitDefEqProofs (maxSteps := 999999) [-selQ_sel,h_2,h_3,h_4,h_5,h_6,h_7,h_8]
        have hr := (HS.some H).symm; subst hr
        exact Hid.mk ⟨(laws_heldNodeS_l0_X a0 (.inr ())).2,Wk.ofk [] hk (by rfl) (by simp -implicitDefEqProofs [laws_heldNodeS_l0_X,h_2,h_3,h_4,h_5,h_6,h_7,h_8]) (by simp -implicitDefEqProofs [laws_heldNodeS_l0_X,h_2,h_3,h_4,h_5,h_6,h_7,h_8]),hR⟩
      ·replace H := HS.cnd_f h_7 H
       try simp -implicitDefEqProofs (maxSteps := 999999) [-selQ_sel,h_2,h_3,h_4,h_5,h_6,h_7]
       have hr := (HS.some H).symm; subst hr
       exact Hid.mk ⟨(laws_heldNodeS_l0_X a0 (.inr ())).2,Wk.ofk [] hk (by rfl) (by simp -implicitDefEqProofs [laws_heldNodeS_l0_X,h_2,h_3,h_4,h_5,h_6,h_7]) (by simp -implicitDefEqProofs [laws_heldNodeS_l0_X,h_2,h_3,h_4,h_5,h_6,h_7]),hR⟩
     ·replace H := HS.cnd_f h_6 H
      try simp -implicitDefEqProofs (maxSteps := 999999) [-selQ_sel,h_2,h_3,h_4,h_5,h_6]
      have hr := (HS.some H).symm; subst hr
      exact Hid.mk ⟨(laws_heldNodeS_l0_X a0 (.inr ())).2,Wk.ofk [] hk (by rfl) (by simp -implicitDefEqProofs [laws_heldNodeS_l0_X,h_2,h_3,h_4,h_5,h_6]) (by simp -implicitDefEqProofs [laws_heldNodeS_l0_X,h_2,h_3,h_4,h_5,h_6]),hR⟩
    ·replace H := HS.cnd_f h_5 H
     try simp -implicitDefEqProofs (maxSteps := 999999) [-selQ_sel,h_2,h_3,h_4,h_5]
     have hr := (HS.some H).symm; subst hr
     exact Hid.mk ⟨(laws_heldNodeS_l0_X a0 (.inr ())).2,Wk.ofk [] hk (by rfl) (by simp -implicitDefEqProofs [laws_heldNodeS_l0_X,h_2,h_3,h_4,h_5]) (by simp -implicitDefEqProofs [laws_heldNodeS_l0_X,h_2,h_3,h_4,h_5]),hR⟩
   ·replace H := HS.cnd_f h_4 H
    try simp -implicitDefEqProofs (maxSteps := 999999) [-selQ_sel,h_2,h_3,h_4]
    have hr := (HS.some H).symm; subst hr
    exact Hid.mk ⟨(laws_heldNodeS_l0_X a0 (.inr ())).2,Wk.ofk [] hk (by rfl) (by simp -implicitDefEqProofs [laws_heldNodeS_l0_X,h_2,h_3,h_4]) (by simp -implicitDefEqProofs [laws_heldNodeS_l0_X,h_2,h_3,h_4]),hR⟩
 ·rcases q with y15 | ⟨⟩
  ·dsimp only at H
   try simp -implicitDefEqProofs (maxSteps := 999999) [-selQ_sel,laws_heldNodeS_l0_X]
   have hr := (HS.some H).symm; subst hr
   refine Hid.mk ⟨_,Wk.refl _,?_⟩
   try simp -implicitDefEqProofs (maxSteps := 999999) [-selQ_sel]
  ·dsimp only at H
   try simp -implicitDefEqProofs (maxSteps := 999999) [-selQ_sel,laws_heldNodeS_l0_X]
   have hr := (HS.some H).symm; subst hr
   refine Hid.mk ⟨_,Wk.refl _,?_⟩
   try simp -implicitDefEqProofs (maxSteps := 999999) [-selQ_sel]
theorem laws_FnExactDropNode_ok0 (hm : Try.prog.follows .mixedOrders = true) (k_laws_szScene : Sound Try.prog 16 laws_szScene_x) (k_laws_toScene : Sound Try.prog 19 laws_toScene_x) (k_spec_DropNode : Sound Try.prog 29 spec_DropNode_x) (k_impl_DropNode : Sound Try.prog 30 impl_DropNode_x) (k_laws_eqScene : Sound Try.prog 22 laws_eqScene_x) (k_laws_markScene : Sound Try.prog 24 laws_markScene_x) (k_laws_heldScene : Sound Try.prog 26 laws_heldScene_x) : Sound Try.prog 6 laws_FnExactDropNode_x := by
 refine xOf_sound fun q r h => ?_
 obtain ⟨a0,a1⟩ := q
 refine fn_ok E0 hm Try.func6 rfl (by decide +kernel) (by rfl) fun Γ hn hk => ?_
 dsimp only [laws_FnExactDropNode_e,laws_FnExactDropNode_v]
 replace hn : Γ.n = 101 := hn
 replace hk : Γ.k = 0 := hk
 have H : HS (laws_FnExactDropNode a0 a1) r := h
 clear h; unfold laws_FnExactDropNode at H
 try simp -implicitDefEqProofs at H
 refine Tr.of_vc (cl := tabC [(16,laws_szScene_x),(19,laws_toScene_x),(29,spec_DropNode_x),(30,impl_DropNode_x),(22,laws_eqScene_x),(24,laws_markScene_x),(26,laws_heldScene_x)]) (E := E0) [] (tab_cons k_laws_szScene (tab_cons k_laws_toScene (tab_cons k_spec_DropNode (tab_cons k_impl_DropNode (tab_cons k_laws_eqScene (tab_cons k_laws_markScene (tab_cons k_laws_heldScene tab_nil))))))) hm (by rw [hn]; decide +kernel) ?_
 try simp -implicitDefEqProofs +decide (maxSteps := 999999) [-selQ_sel,hokQ_of]
 obtain ⟨v1,h_1,H⟩ := HS.bnd H
 try simp -implicitDefEqProofs +decide (maxSteps := 999999) [-selQ_sel,hokQ_of,h_1]
 refine Hid.brV (fun h_2 => ?_) (fun h_2 => ?_)
 ·replace H := HS.cnd_t h_2 H
  try simp -implicitDefEqProofs +decide (maxSteps := 999999) [-selQ_sel,hokQ_of,h_1,h_2]
  obtain ⟨v2,h_3,H⟩ := HS.bnd H
  try simp -implicitDefEqProofs +decide (maxSteps := 999999) [-selQ_sel,hokQ_of,h_1,h_2,h_3]
  obtain ⟨⟨w4,w5⟩,h_4,H⟩ := HS.bnd H
  dsimp only at H
  have k_5 := spec_DropNode_k ((TScene.mk v2).nodes) a1
  simp -implicitDefEqProofs [-spec_DropNode_k] at k_5
  try simp -implicitDefEqProofs +decide (maxSteps := 999999) [-selQ_sel,hokQ_of,h_1,h_2,h_3,h_4,k_5]
  obtain ⟨⟨w7,w8⟩,h_6,H⟩ := HS.bnd H
  dsimp only at H
  have k_7 := impl_DropNode_k ((TScene.mk v2).nodes) a1
  simp -implicitDefEqProofs [-impl_DropNode_k] at k_7
  try simp -implicitDefEqProofs +decide (maxSteps := 999999) [-selQ_sel,hokQ_of,h_1,h_2,h_3,h_4,k_5,h_6,k_7]
  obtain ⟨v9,h_8,H⟩ := HS.bnd H
  have k_9 := laws_eqScene_k ((TScene.mk w8).nodes) ((TScene.mk w5).nodes)
  simp -implicitDefEqProofs [-laws_eqScene_k] at k_9
  try simp -implicitDefEqProofs +decide (maxSteps := 999999) [-selQ_sel,hokQ_of,h_1,h_2,h_3,h_4,k_5,h_6,k_7,h_8,k_9]
  refine Hid.selQ (fun h_10 => ?_) (fun h_10 => ?_)
  ·replace H := HS.cnd_t h_10 H
   try simp -implicitDefEqProofs +decide (maxSteps := 999999) [-selQ_sel,hokQ_of,h_1,h_2,h_3,h_4,k_5,h_6,k_7,h_8,k_9,h_10]
   refine Hid.brV (fun h_11 => ?_) (fun h_11 => ?_)
   ·replace H := HS.cnd_t h_11 H
    try simp -implicitDefEqProofs +decide (maxSteps := 999999) [-selQ_sel,hokQ_of,h_1,h_2,h_3,h_4,k_5,h_6,k_7,h_8,k_9,h_10,h_11]
    obtain ⟨v10,h_12,H⟩ := HS.bnd H
    have k_13 := laws_eqScene_k ((TScene.mk v2).nodes) ((TScene.mk v2).nodes)
    simp -implicitDefEqProofs [-laws_eqScene_k] at k_13
    try simp -implicitDefEqProofs +decide (maxSteps := 999999) [-selQ_sel,hokQ_of,h_1,h_2,h_3,h_4,k_5,h_6,k_7,h_8,k_9,h_10,h_11,h_12,k_13]
    refine Hid.brV (fun h_14 => ?_) (fun h_14 => ?_)
    ·replace H := HS.cnd_t h_14 H
     try simp -implicitDefEqProofs +decide (maxSteps := 999999) [-selQ_sel,hokQ_of,h_1,h_2,h_3,h_4,k_5,h_6,k_7,h_8,k_9,h_10,h_11,h_12,k_13,h_14]
     obtain ⟨⟨w12,w13⟩,h_15,H⟩ := HS.bnd H
     dsimp only at H
     have g_16 := laws_markScene_n h_15
     try simp -implicitDefEqProofs +decide (maxSteps := 999999) [-selQ_sel,hokQ_of,h_1,h_2,h_3,h_4,k_5,h_6,k_7,h_8,k_9,h_10,h_11,h_12,k_13,h_14,h_15,g_16]
     refine Hid.selQ (fun h_17 => ?_) (fun h_17 => ?_)
     ·replace H := HS.cnd_t h_17 H
      try simp -implicitDefEqProofs +decide (maxSteps := 999999) [-selQ_sel,hokQ_of,h_1,h_2,h_3,h_4,k_5,h_6,k_7,h_8,k_9,h_10,h_11,h_12,k_13,h_14,h_15,g_16,h_17]
      obtain ⟨⟨w15,w16⟩,h_18,H⟩ := HS.bnd H
      dsimp only at H
      have g_19 := laws_markScene_n h_18
      try simp -implicitDefEqProofs +decide (maxSteps := 999999) [-selQ_sel,hokQ_of,h_1,h_2,h_3,h_4,k_5,h_6,k_7,h_8,k_9,h_10,h_11,h_12,k_13,h_14,h_15,g_16,h_17,h_18,g_19]
      obtain ⟨v17,h_20,H⟩ := HS.bnd H
      have k_21 := laws_heldScene_k ((TScene.mk w16).nodes) 1
      simp -implicitDefEqProofs [-laws_heldScene_k] at k_21
      try simp -implicitDefEqProofs +decide (maxSteps := 999999) [-selQ_sel,hokQ_of,h_1,h_2,h_3,h_4,k_5,h_6,k_7,h_8,k_9,h_10,h_11,h_12,k_13,h_14,h_15,g_16,h_17,h_18,g_19,h_20,k_21]
      refine Hid.brV (fun h_22 => ?_) (fun h_22 => ?_)
      ·replace H := HS.cnd_t h_22 H
       try simp -implicitDefEqProofs +decide (maxSteps := 999999) [-selQ_sel,hokQ_of,h_1,h_2,h_3,h_4,k_5,h_6,k_7,h_8,k_9,h_10,h_11,h_12,k_13,h_14,h_15,g_16,h_17,h_18,g_19,h_20,k_21,h_22]
       refine Hid.brV (fun h_23 => ?_) (fun h_23 => ?_)
       ·replace H := HS.cnd_t h_23 H
        try simp -implicitDefEqProofs +decide (maxSteps := 999999) [-selQ_sel,hokQ_of,h_1,h_2,h_3,h_4,k_5,h_6,k_7,h_8,k_9,h_10,h_11,h_12,k_13,h_14,h_15,g_16,h_17,h_18,g_19,h_20,k_21,h_22,h_23]
        have hr := (HS.some H).symm; subst hr
        refine Hid.mk ⟨_,Wk.refl _,?_⟩
        try simp -implicitDefEqProofs +decide (maxSteps := 999999) [-selQ_sel,hokQ_of,h_1,h_2,h_3,h_4,k_5,h_6,k_7,h_8,k_9,h_10,h_11,h_12,k_13,h_14,h_15,g_16,h_17,h_18,g_19,h_20,k_21,h_22,h_23]
       ·replace H := HS.cnd_f h_23 H
        try simp -implicitDefEqProofs +decide (maxSteps := 999999) [-selQ_sel,hokQ_of,h_1,h_2,h_3,h_4,k_5,h_6,k_7,h_8,k_9,h_10,h_11,h_12,k_13,h_14,h_15,g_16,h_17,h_18,g_19,h_20,k_21,h_22,h_23]
        have hr := (HS.some H).symm; subst hr
        refine Hid.mk ⟨_,Wk.refl _,?_⟩
        try simp -implicitDefEqProofs +decide (maxSteps := 999999) [-selQ_sel,hokQ_of,h_1,h_2,h_3,h_4,k_5,h_6,k_7,h_8,k_9,h_10,h_11,h_12,k_13,h_14,h_15,g_16,h_17,h_18,g_19,h_20,k_21,h_22,h_23]
      ·replace H := HS.cnd_f h_22 H
       try simp -implicitDefEqProofs +decide (maxSteps := 999999) [-selQ_sel,hokQ_of,h_1,h_2,h_3,h_4,k_5,h_6,k_7,h_8,k_9,h_10,h_11,h_12,k_13,h_14,h_15,g_16,h_17,h_18,g_19,h_20,k_21,h_22]
       have hr := (HS.some H).symm; subst hr
       refine Hid.mk ⟨_,Wk.refl _,?_⟩
       try simp -implicitDefEqProofs +decide (maxSteps := 999999) [-selQ_sel,hokQ_of,h_1,h_2,h_3,h_4,k_5,h_6,k_7,h_8,k_9,h_10,h_11,h_12,k_13,h_14,h_15,g_16,h_17,h_18,g_19,h_20,k_21,h_22]
     ·replace H := HS.cnd_f h_17 H
      try simp -implicitDefEqProofs +decide (maxSteps := 999999) [-selQ_sel,hokQ_of,h_1,h_2,h_3,h_4,k_5,h_6,k_7,h_8,k_9,h_10,h_11,h_12,k_13,h_14,h_15,g_16,h_17]
      have hr := (HS.some H).symm; subst hr
      refine Hid.mk ⟨_,Wk.refl _,?_⟩
      try simp -implicitDefEqProofs +decide (maxSteps := 999999) [-selQ_sel,hokQ_of,h_1,h_2,h_3,h_4,k_5,h_6,k_7,h_8,k_9,h_10,h_11,h_12,k_13,h_14,h_15,g_16,h_17]
    ·replace H := HS.cnd_f h_14 H
     try simp -implicitDefEqProofs +decide (maxSteps := 999999) [-selQ_sel,hokQ_of,h_1,h_2,h_3,h_4,k_5,h_6,k_7,h_8,k_9,h_10,h_11,h_12,k_13,h_14]
     have hr := (HS.some H).symm; subst hr
     refine Hid.mk ⟨_,Wk.refl _,?_⟩
     try simp -implicitDefEqProofs +decide (maxSteps := 999999) [-selQ_sel,hokQ_of,h_1,h_2,h_3,h_4,k_5,h_6,k_7,h_8,k_9,h_10,h_11,h_12,k_13,h_14]
   ·replace H := HS.cnd_f h_11 H
    try simp -implicitDefEqProofs +decide (maxSteps := 999999) [-selQ_sel,hokQ_of,h_1,h_2,h_3,h_4,k_5,h_6,k_7,h_8,k_9,h_10,h_11]
    have hr := (HS.some H).symm; subst hr
    refine Hid.mk ⟨_,Wk.refl _,?_⟩
    try simp -implicitDefEqProofs +decide (maxSteps := 999999) [-selQ_sel,hokQ_of,h_1,h_2,h_3,h_4,k_5,h_6,k_7,h_8,k_9,h_10,h_11]
  ·replace H := HS.cnd_f h_10 H
   try simp -implicitDefEqProofs +decide (maxSteps := 999999) [-selQ_sel,hokQ_of,h_1,h_2,h_3,h_4,k_5,h_6,k_7,h_8,k_9,h_10]
   have hr := (HS.some H).symm; subst hr
   refine Hid.mk ⟨_,Wk.refl _,?_⟩
   try simp -implicitDefEqProofs +decide (maxSteps := 999999) [-selQ_sel,hokQ_of,h_1,h_2,h_3,h_4,k_5,h_6,k_7,h_8,k_9,h_10]
 ·replace H := HS.cnd_f h_2 H
  try simp -implicitDefEqProofs +decide (maxSteps := 999999) [-selQ_sel,hokQ_of,h_1,h_2]
  have hr := (HS.some H).symm; subst hr
  refine Hid.mk ⟨_,Wk.refl _,?_⟩
  try simp -implicitDefEqProofs +decide (maxSteps := 999999) [-selQ_sel,hokQ_of,h_1,h_2]
theorem laws_toNodeS_ok0 (hm : Try.prog.follows .mixedOrders = true) (k_laws_toNode : Sound Try.prog 20 laws_toNode_x) : Sound Try.prog 59 laws_toNodeS_x := by
 refine xOf_sound fun q r h => ?_
 revert h; revert r; revert q; intro a0 r h
 refine fn_ok E0 hm Try.func59 rfl (by decide +kernel) (by rfl) fun Γ hn hk => ?_
 dsimp only [laws_toNodeS_e,laws_toNodeS_v]
 replace hn : Γ.n = 23 := hn
 replace hk : Γ.k = 0 := hk
 have H : HS (laws_toNodeS a0) r := h
 clear h; unfold laws_toNodeS at H
 try simp -implicitDefEqProofs at H
 refine Tr.of_vc (cl := tabC [(20,laws_toNode_x)]) (E := E0) [] (tab_cons k_laws_toNode tab_nil) hm (by rw [hn]; decide +kernel) ?_
 try simp -implicitDefEqProofs (maxSteps := 999999) [-selQ_sel]
 obtain ⟨h_1,H⟩ := HS.chkP H
 try simp -implicitDefEqProofs (maxSteps := 999999) [-selQ_sel,h_1]
 obtain ⟨l1,h_2,H⟩ := HS.nam H
 have m_3 := congrArg (List.map eNode) h_2
 have q_4 := congrArg List.length h_2
 simp -implicitDefEqProofs at m_3 q_4
 try simp only [q_4] at m_3
 try simp only [q_4] at h_1
 try simp -implicitDefEqProofs (maxSteps := 999999) [-selQ_sel,h_1,m_3,q_4]
 obtain ⟨q,h_5,H⟩ := HS.bnd H
 refine Hid.mk (Tr.weak (s' := (laws_toNodeS_l0_S a0) (0,l1)) (Wk.ofk [0] hk (by rfl) (by simp -implicitDefEqProofs [laws_toNodeS_l0_S,h_1,m_3,q_4]) (by simp -implicitDefEqProofs [laws_toNodeS_l0_S,h_1,m_3,q_4])) ?_)
 refine wp_loop_of (S := (laws_toNodeS_l0_S a0)) (f := (laws_toNodeS_l0 a0)) (xt := (laws_toNodeS_l0_X a0)) ?_ ?_ h_5 ?_
 ·intro q; simp [laws_toNodeS_l0_X]
 ·clear H h_5 q
  rintro ⟨x19,x20⟩ o R hf hR
  have H : HS (laws_toNodeS_l0 a0 (x19,x20)) o := hf
  clear hf; unfold laws_toNodeS_l0 at H
  try simp -implicitDefEqProofs at H
  refine Tr.of_vc (cl := tabC [(20,laws_toNode_x)]) (E := E0) [] (tab_cons k_laws_toNode tab_nil) hm (by rw [hn]; decide +kernel) ?_
  try simp -implicitDefEqProofs (maxSteps := 999999) [-selQ_sel,laws_toNodeS_l0_S]
  refine Hid.brV (fun h_6 => ?_) (fun h_6 => ?_)
  ·replace H := HS.cnd_t h_6 H
   try simp -implicitDefEqProofs (maxSteps := 999999) [-selQ_sel,h_6]
   have hr := (HS.some H).symm; subst hr
   exact Hid.mk ⟨(laws_toNodeS_l0_X a0 x20).2,Wk.ofk [0] hk (by rfl) (by simp -implicitDefEqProofs [laws_toNodeS_l0_X,h_6]) (by simp -implicitDefEqProofs [laws_toNodeS_l0_X,h_6]),hR⟩
  ·replace H := HS.cnd_f h_6 H
   try simp -implicitDefEqProofs (maxSteps := 999999) [-selQ_sel,h_6]
   obtain ⟨v21,h_7,H⟩ := HS.bnd H
   try simp -implicitDefEqProofs (maxSteps := 999999) [-selQ_sel,h_6,h_7]
   obtain ⟨⟨w23,w24,w25,w26,w27,w28,w29,w30,w31,w32,w33,w34,w35,w36⟩,h_8,H⟩ := HS.bnd H
   dsimp only at H
   try simp -implicitDefEqProofs (maxSteps := 999999) [-selQ_sel,h_6,h_7,h_8]
   obtain ⟨v37,h_9,H⟩ := HS.bnd H
   have g_10 := idx_get h_9
   have g_11 := idx_lt h_9
   have g_12 := idx_getE h_9
   try simp -implicitDefEqProofs (maxSteps := 999999) [-selQ_sel,h_6,h_7,h_8,h_9,g_10,g_11,g_12]
   have hr := (HS.some H).symm; subst hr
   exact Hid.mk ⟨laws_toNodeS_l0_S a0 ((IntKind.i64.wrap (x19 + 1)),(List.set x20 (Int.toNat x19) (TNode.mk w23 w24 w25 w26 (TPath.mk w32 w33) w27 w28 w34 w29 w30 w31 (TPath.mk w35 w36)))),Wk.trans (Wk.abs (id := 0) (j := 1) (js := [2,3,4,5]) (by rfl) (by rfl) (by decide) (by simp -implicitDefEqProofs [laws_toNodeS_l0_S,h_6,h_7,h_8,h_9,g_10,g_11,g_12]) (by rfl) (by simp -implicitDefEqProofs [laws_toNodeS_l0_S,h_6,h_7,h_8,h_9,g_10,g_11,g_12]) (by simp -implicitDefEqProofs [laws_toNodeS_l0_S,h_6,h_7,h_8,h_9,g_10,g_11,g_12])) (Wk.trans (Wk.abs (id := 0) (j := 2) (js := [3,4,5]) (by rfl) (by rfl) (by decide) (by simp -implicitDefEqProofs [laws_toNodeS_l0_S,h_6,h_7,h_8,h_9,g_10,g_11,g_12]) (by rfl) (by simp -implicitDefEqProofs [laws_toNodeS_l0_S,h_6,h_7,h_8,h_9,g_10,g_11,g_12]) (by simp -implicitDefEqProofs [laws_toNodeS_l0_S,h_6,h_7,h_8,h_9,g_10,g_11,g_12])) (Wk.trans (Wk.abs (id := 0) (j := 3) (js := [4,5]) (by rfl) (by rfl) (by decide) (by simp -implicitDefEqProofs [laws_toNodeS_l0_S,h_6,h_7,h_8,h_9,g_10,g_11,g_12]) (by rfl) (by simp -implicitDefEqProofs [laws_toNodeS_l0_S,h_6,h_7,h_8,h_9,g_10,g_11,g_12]) (by simp -implicitDefEqProofs [laws_toNodeS_l0_S,h_6,h_7,h_8,h_9,g_10,g_11,g_12])) (Wk.trans (Wk.abs (id := 0) (j := 4) (js := [5]) (by rfl) (by rfl) (by decide) (by simp -implicitDefEqProofs [laws_toNodeS_l0_S,h_6,h_7,h_8,h_9,g_10,g_11,g_12]) (by rfl) (by simp -implicitDefEqProofs [laws_toNodeS_l0_S,h_6,h_7,h_8,h_9,g_10,g_11,g_12]) (by simp -implicitDefEqProofs [laws_toNodeS_l0_S,h_6,h_7,h_8,h_9,g_10,g_11,g_12])) (Wk.trans (Wk.abs (id := 0) (j := 5) (js := []) (by rfl) (by rfl) (by decide) (by simp -implicitDefEqProofs [laws_toNodeS_l0_S,h_6,h_7,h_8,h_9,g_10,g_11,g_12]) (by rfl) (by simp -implicitDefEqProofs [laws_toNodeS_l0_S,h_6,h_7,h_8,h_9,g_10,g_11,g_12]) (by simp -implicitDefEqProofs [laws_toNodeS_l0_S,h_6,h_7,h_8,h_9,g_10,g_11,g_12])) (Wk.ofk [0] hk (by rfl) (by simp -implicitDefEqProofs [laws_toNodeS_l0_S,h_6,h_7,h_8,h_9,g_10,g_11,g_12]) (by simp -implicitDefEqProofs [laws_toNodeS_l0_S,h_6,h_7,h_8,h_9,g_10,g_11,g_12])))))),hR⟩
 ·revert H h_5; revert q; intro y38 h_5 H
  try dsimp only at H
  try simp -implicitDefEqProofs (maxSteps := 999999) [-selQ_sel,h_1,m_3,q_4,laws_toNodeS_l0_X]
  have hr := (HS.some H).symm; subst hr
  refine Hid.mk ⟨⟨[(2,AV.osl 0 0 (List.length y38) (List.length y38))],[(0,Ob.nar 31 (List.map eNode y38) [0,0,0,0,0,0,0,0,0,1,2,0,0,1,0,0,0,0,0,0,0,0,0,0,0,0,0,0,0,1,2])],1⟩,Wk.ofk [0] hk (by rfl) (by simp -implicitDefEqProofs [h_1,m_3,q_4]) (by simp -implicitDefEqProofs [h_1,m_3,q_4]),?_⟩
  try simp -implicitDefEqProofs (maxSteps := 999999) [-selQ_sel,h_1,m_3,q_4]
theorem impl_copyScene_ok0 (hm : Try.prog.follows .mixedOrders = true) (k_impl_copyNode : Sound Try.prog 64 impl_copyNode_x) : Sound Try.prog 35 impl_copyScene_x := by
 refine xOf_sound fun q r h => ?_
 revert h; revert r; revert q; intro a0 r h
 refine fn_ok E0 hm Try.func35 rfl (by decide +kernel) (by rfl) fun Γ hn hk => ?_
 dsimp only [impl_copyScene_e,impl_copyScene_v]
 replace hn : Γ.n = 22 := hn
 replace hk : Γ.k = 0 := hk
 have H : HS (impl_copyScene a0) r := h
 clear h; unfold impl_copyScene at H
 try simp -implicitDefEqProofs at H
 refine Tr.of_vc (cl := tabC [(64,impl_copyNode_x)]) (E := E0) [] (tab_cons k_impl_copyNode tab_nil) hm (by rw [hn]; decide +kernel) ?_
 try simp -implicitDefEqProofs +decide (maxSteps := 999999) [-selQ_sel,hokQ_of]
 obtain ⟨q,h_1,H⟩ := HS.bnd H
 refine Hid.mk (Tr.weak (s' := (impl_copyScene_l0_S a0) (0,[])) (Wk.ofk [1,2,3] hk (by rfl) (by simp -implicitDefEqProofs [impl_copyScene_l0_S]) (by simp -implicitDefEqProofs [impl_copyScene_l0_S])) ?_)
 refine wp_loop_of (S := (impl_copyScene_l0_S a0)) (f := (impl_copyScene_l0 a0)) (xt := (impl_copyScene_l0_X a0)) ?_ ?_ h_1 ?_
 ·intro q; simp [impl_copyScene_l0_X]
 ·clear H h_1 q
  rintro ⟨x17,x18⟩ o R hf hR
  have H : HS (impl_copyScene_l0 a0 (x17,x18)) o := hf
  clear hf; unfold impl_copyScene_l0 at H
  try simp -implicitDefEqProofs at H
  refine Tr.of_vc (cl := tabC [(64,impl_copyNode_x)]) (E := E0) [] (tab_cons k_impl_copyNode tab_nil) hm (by rw [hn]; decide +kernel) ?_
  try simp -implicitDefEqProofs +decide (maxSteps := 999999) [-selQ_sel,hokQ_of,impl_copyScene_l0_S]
  refine Hid.brV (fun h_2 => ?_) (fun h_2 => ?_)
  ·replace H := HS.cnd_t h_2 H
   try simp -implicitDefEqProofs +decide (maxSteps := 999999) [-selQ_sel,hokQ_of,h_2]
   have hr := (HS.some H).symm; subst hr
   exact Hid.mk ⟨(impl_copyScene_l0_X a0 x18).2,Wk.ofk [0,1,2] hk (by rfl) (by simp -implicitDefEqProofs [impl_copyScene_l0_X,h_2]) (by simp -implicitDefEqProofs [impl_copyScene_l0_X,h_2]),hR⟩
  ·replace H := HS.cnd_f h_2 H
   try simp -implicitDefEqProofs +decide (maxSteps := 999999) [-selQ_sel,hokQ_of,h_2]
   obtain ⟨v19,h_3,H⟩ := HS.bnd H
   try simp -implicitDefEqProofs +decide (maxSteps := 999999) [-selQ_sel,hokQ_of,h_2,h_3]
   obtain ⟨⟨w21,w22,w23,w24,w25,w26,w27,w28,w29,w30,w31,w32,w33,w34⟩,h_4,H⟩ := HS.bnd H
   dsimp only at H
   try simp -implicitDefEqProofs +decide (maxSteps := 999999) [-selQ_sel,hokQ_of,h_2,h_3,h_4]
   obtain ⟨h_5,H⟩ := HS.chkP H
   try simp -implicitDefEqProofs +decide (maxSteps := 999999) [-selQ_sel,hokQ_of,h_2,h_3,h_4,h_5]
   have hr := (HS.some H).symm; subst hr
   exact Hid.mk ⟨impl_copyScene_l0_S a0 ((IntKind.i64.wrap (x17 + 1)),(x18 ++ [(TNode.mk w21 w22 w23 w24 (TPath.mk w30 w31) w25 w26 w32 w27 w28 w29 (TPath.mk w33 w34))])),Wk.trans (Wk.abs (id := 2) (j := 4) (js := [5,6,7,8]) (by rfl) (by rfl) (by decide) (by simp -implicitDefEqProofs [impl_copyScene_l0_S,h_2,h_3,h_4,h_5]) (by rfl) (by simp -implicitDefEqProofs [impl_copyScene_l0_S,h_2,h_3,h_4,h_5]) (by simp -implicitDefEqProofs [impl_copyScene_l0_S,h_2,h_3,h_4,h_5])) (Wk.trans (Wk.abs (id := 2) (j := 5) (js := [6,7,8]) (by rfl) (by rfl) (by decide) (by simp -implicitDefEqProofs [impl_copyScene_l0_S,h_2,h_3,h_4,h_5]) (by rfl) (by simp -implicitDefEqProofs [impl_copyScene_l0_S,h_2,h_3,h_4,h_5]) (by simp -implicitDefEqProofs [impl_copyScene_l0_S,h_2,h_3,h_4,h_5])) (Wk.trans (Wk.abs (id := 2) (j := 6) (js := [7,8]) (by rfl) (by rfl) (by decide) (by simp -implicitDefEqProofs [impl_copyScene_l0_S,h_2,h_3,h_4,h_5]) (by rfl) (by simp -implicitDefEqProofs [impl_copyScene_l0_S,h_2,h_3,h_4,h_5]) (by simp -implicitDefEqProofs [impl_copyScene_l0_S,h_2,h_3,h_4,h_5])) (Wk.trans (Wk.abs (id := 2) (j := 7) (js := [8]) (by rfl) (by rfl) (by decide) (by simp -implicitDefEqProofs [impl_copyScene_l0_S,h_2,h_3,h_4,h_5]) (by rfl) (by simp -implicitDefEqProofs [impl_copyScene_l0_S,h_2,h_3,h_4,h_5]) (by simp -implicitDefEqProofs [impl_copyScene_l0_S,h_2,h_3,h_4,h_5])) (Wk.trans (Wk.abs (id := 2) (j := 8) (js := []) (by rfl) (by rfl) (by decide) (by simp -implicitDefEqProofs [impl_copyScene_l0_S,h_2,h_3,h_4,h_5]) (by rfl) (by simp -implicitDefEqProofs [impl_copyScene_l0_S,h_2,h_3,h_4,h_5]) (by simp -implicitDefEqProofs [impl_copyScene_l0_S,h_2,h_3,h_4,h_5])) (Wk.ofk [0,1,2] hk (by rfl) (by simp -implicitDefEqProofs [impl_copyScene_l0_S,h_2,h_3,h_4,h_5]) (by simp -implicitDefEqProofs [impl_copyScene_l0_S,h_2,h_3,h_4,h_5])))))),hR⟩
 ·revert H h_1; revert q; intro y35 h_1 H
  try dsimp only at H
  try simp -implicitDefEqProofs +decide (maxSteps := 999999) [-selQ_sel,hokQ_of,impl_copyScene_l0_X]
  have hr := (HS.some H).symm; subst hr
  refine Hid.mk ⟨⟨[(2,AV.optr 0 0 1)],[(0,Ob.box [AV.osl 1 0 (List.length y35) (List.length y35)]),(1,Ob.nar 31 (List.map eNode y35) [0,0,0,0,0,0,0,0,0,1,2,0,0,1,0,0,0,0,0,0,0,0,0,0,0,0,0,0,0,1,2])],2⟩,Wk.ofk [0,2] hk (by rfl) (by simp -implicitDefEqProofs []) (by simp -implicitDefEqProofs []),?_⟩
  try simp -implicitDefEqProofs +decide (maxSteps := 999999) [-selQ_sel,hokQ_of]
theorem impl_UnderOf_ok0 (hm : Try.prog.follows .mixedOrders = true) (k_impl_NodeAt : Sound Try.prog 13 impl_NodeAt_x) (k_impl_Scene_comesTo : Sound Try.prog 84 impl_Scene_comesTo_x) : Sound Try.prog 38 impl_UnderOf_x := by
 refine xOf_sound fun q r h => ?_
 obtain ⟨a0,a1⟩ := q
 refine fn_ok E0 hm Try.func38 rfl (by decide +kernel) (by rfl) fun Γ hn hk => ?_
 dsimp only [impl_UnderOf_e,impl_UnderOf_v]
 replace hn : Γ.n = 30 := hn
 replace hk : Γ.k = 0 := hk
 have H : HS (impl_UnderOf a0 a1) r := h
 clear h; unfold impl_UnderOf at H
 try simp -implicitDefEqProofs at H
 refine Tr.of_vc (cl := tabC [(13,impl_NodeAt_x),(84,impl_Scene_comesTo_x)]) (E := E0) [] (tab_cons k_impl_NodeAt (tab_cons k_impl_Scene_comesTo tab_nil)) hm (by rw [hn]; decide +kernel) ?_
 try simp -implicitDefEqProofs (maxSteps := 999999) [-selQ_sel]
 obtain ⟨v1,h_1,H⟩ := HS.bnd H
 try simp -implicitDefEqProofs (maxSteps := 999999) [-selQ_sel,h_1]
 refine Hid.brV (fun h_2 => ?_) (fun h_2 => ?_)
 ·replace H := HS.cnd_t h_2 H
  try simp -implicitDefEqProofs (maxSteps := 999999) [-selQ_sel,h_1,h_2]
  obtain ⟨q,h_3,H⟩ := HS.bnd H
  refine Hid.mk (Tr.weak (s' := (impl_UnderOf_l0_S a0 a1) ([],0)) (Wk.ofk [0,1] hk (by rfl) (by simp -implicitDefEqProofs [impl_UnderOf_l0_S,h_1,h_2]) (by simp -implicitDefEqProofs [impl_UnderOf_l0_S,h_1,h_2])) ?_)
  refine wp_loop_of (S := (impl_UnderOf_l0_S a0 a1)) (f := (impl_UnderOf_l0 a0 a1)) (xt := (impl_UnderOf_l0_X a0 a1)) ?_ ?_ h_3 ?_
  ·intro q; simp [impl_UnderOf_l0_X]
  ·clear H h_3 q
   rintro ⟨x4,x5⟩ o R hf hR
   have H : HS (impl_UnderOf_l0 a0 a1 (x4,x5)) o := hf
   clear hf; unfold impl_UnderOf_l0 at H
   try simp -implicitDefEqProofs at H
   refine Tr.of_vc (cl := tabC [(13,impl_NodeAt_x),(84,impl_Scene_comesTo_x)]) (E := E0) [] (tab_cons k_impl_NodeAt (tab_cons k_impl_Scene_comesTo tab_nil)) hm (by rw [hn]; decide +kernel) ?_
   try simp -implicitDefEqProofs (maxSteps := 999999) [-selQ_sel,impl_UnderOf_l0_S]
   refine Hid.brV (fun h_4 => ?_) (fun h_4 => ?_)
   ·replace H := HS.cnd_t h_4 H
    try simp -implicitDefEqProofs (maxSteps := 999999) [-selQ_sel,h_4]
    have hr := (HS.some H).symm; subst hr
    exact Hid.mk ⟨(impl_UnderOf_l0_X a0 a1 x4).2,Wk.ofk [1] hk (by rfl) (by simp -implicitDefEqProofs [impl_UnderOf_l0_X,h_4]) (by simp -implicitDefEqProofs [impl_UnderOf_l0_X,h_4]),hR⟩
   ·replace H := HS.cnd_f h_4 H
    try simp -implicitDefEqProofs (maxSteps := 999999) [-selQ_sel,h_4]
    obtain ⟨v6,h_5,H⟩ := HS.bnd H
    try simp -implicitDefEqProofs (maxSteps := 999999) [-selQ_sel,h_4,h_5]
    obtain ⟨v7,h_6,H⟩ := HS.bnd H
    try simp -implicitDefEqProofs (maxSteps := 999999) [-selQ_sel,h_4,h_5,h_6]
    refine Hid.brV (fun h_7 => ?_) (fun h_7 => ?_)
    ·replace H := HS.cnd_t h_7 H
     try simp -implicitDefEqProofs (maxSteps := 999999) [-selQ_sel,h_4,h_5,h_6,h_7]
     obtain ⟨h_8,H⟩ := HS.chkP H
     try simp -implicitDefEqProofs (maxSteps := 999999) [-selQ_sel,h_4,h_5,h_6,h_7,h_8]
     obtain ⟨l8,h_9,H⟩ := HS.nam H
     have m_10 := congrArg (List.map (AV.int .i64)) h_9
     have q_11 := congrArg List.length h_9
     simp -implicitDefEqProofs at m_10 q_11
     try simp only [q_11] at m_10
     try simp only [q_11] at h_8
     try simp -implicitDefEqProofs (maxSteps := 999999) [-selQ_sel,h_4,h_5,h_6,h_7,h_8,m_10,q_11]
     have hr := (HS.some H).symm; subst hr
     exact Hid.mk ⟨impl_UnderOf_l0_S a0 a1 (l8,(IntKind.i64.wrap (x5 + 1))),Wk.ofk [0,1] hk (by rfl) (by simp -implicitDefEqProofs [impl_UnderOf_l0_S,h_4,h_5,h_6,h_7,h_8,m_10,q_11]) (by simp -implicitDefEqProofs [impl_UnderOf_l0_S,h_4,h_5,h_6,h_7,h_8,m_10,q_11]),hR⟩
    ·replace H := HS.cnd_f h_7 H
     try simp -implicitDefEqProofs (maxSteps := 999999) [-selQ_sel,h_4,h_5,h_6,h_7]
     have hr := (HS.some H).symm; subst hr
     exact Hid.mk ⟨impl_UnderOf_l0_S a0 a1 (x4,(IntKind.i64.wrap (x5 + 1))),Wk.ofk [0,1] hk (by rfl) (by simp -implicitDefEqProofs [impl_UnderOf_l0_S,h_4,h_5,h_6,h_7]) (by simp -implicitDefEqProofs [impl_UnderOf_l0_S,h_4,h_5,h_6,h_7]),hR⟩
  ·revert H h_3; revert q; intro y9 h_3 H
   try dsimp only at H
   try simp -implicitDefEqProofs (maxSteps := 999999) [-selQ_sel,h_1,h_2,impl_UnderOf_l0_X]
   have hr := (HS.some H).symm; subst hr
   refine Hid.mk ⟨_,Wk.refl _,?_⟩
   try simp -implicitDefEqProofs (maxSteps := 999999) [-selQ_sel,h_1,h_2]
 ·replace H := HS.cnd_f h_2 H
  try simp -implicitDefEqProofs (maxSteps := 999999) [-selQ_sel,h_1,h_2]
  have hr := (HS.some H).symm; subst hr
  refine Hid.mk ⟨_,Wk.refl _,?_⟩
  try simp -implicitDefEqProofs (maxSteps := 999999) [-selQ_sel,h_1,h_2]
theorem impl_MatOk_ok0 (hm : Try.prog.follows .mixedOrders = true) (k_impl_inRange : Sound Try.prog 41 impl_inRange_x) (k_impl_isFar : Sound Try.prog 119 impl_isFar_x) : Sound Try.prog 89 impl_MatOk_x := by
 refine xOf_sound fun q r h => ?_
 revert h; revert r; revert q; intro a0 r h
 refine fn_ok E0 hm Try.func89 rfl (by decide +kernel) (by rfl) fun Γ hn hk => ?_
 dsimp only [impl_MatOk_e,impl_MatOk_v]
 replace hn : Γ.n = 29 := hn
 replace hk : Γ.k = 0 := hk
 have H : HS (impl_MatOk a0) r := h
 clear h; unfold impl_MatOk at H
 try simp -implicitDefEqProofs at H
 refine Tr.of_vc (cl := tabC [(41,impl_inRange_x),(119,impl_isFar_x)]) (E := E0) [] (tab_cons k_impl_inRange (tab_cons k_impl_isFar tab_nil)) hm (by rw [hn]; decide +kernel) ?_
 try simp -implicitDefEqProofs (maxSteps := 999999) [-selQ_sel]
 obtain ⟨q,h_1,H⟩ := HS.bnd H
 refine Hid.mk (Tr.weak (s' := (impl_MatOk_l0_S a0) 0) (Wk.ofk [0] hk (by rfl) (by simp -implicitDefEqProofs [impl_MatOk_l0_S]) (by simp -implicitDefEqProofs [impl_MatOk_l0_S])) ?_)
 refine wp_loop_of (S := (impl_MatOk_l0_S a0)) (f := (impl_MatOk_l0 a0)) (xt := (impl_MatOk_l0_X a0)) ?_ ?_ h_1 ?_
 ·intro q; rcases q with ⟨⟩ | ⟨⟩ <;> simp [impl_MatOk_l0_X]
 ·clear H h_1 q
  rintro x2 o R hf hR
  have H : HS (impl_MatOk_l0 a0 x2) o := hf
  clear hf; unfold impl_MatOk_l0 at H
  try simp -implicitDefEqProofs at H
  refine Tr.of_vc (cl := tabC [(41,impl_inRange_x),(119,impl_isFar_x)]) (E := E0) [] (tab_cons k_impl_inRange (tab_cons k_impl_isFar tab_nil)) hm (by rw [hn]; decide +kernel) ?_
  try simp -implicitDefEqProofs (maxSteps := 999999) [-selQ_sel,impl_MatOk_l0_S]
  refine Hid.brV (fun h_2 => ?_) (fun h_2 => ?_)
  ·replace H := HS.cnd_t h_2 H
   try simp -implicitDefEqProofs (maxSteps := 999999) [-selQ_sel,h_2]
   have hr := (HS.some H).symm; subst hr
   exact Hid.mk ⟨(impl_MatOk_l0_X a0 (.inl ())).2,Wk.ofk [0] hk (by rfl) (by simp -implicitDefEqProofs [impl_MatOk_l0_X,h_2]) (by simp -implicitDefEqProofs [impl_MatOk_l0_X,h_2]),hR⟩
  ·replace H := HS.cnd_f h_2 H
   try simp -implicitDefEqProofs (maxSteps := 999999) [-selQ_sel,h_2]
   obtain ⟨v3,h_3,H⟩ := HS.bnd H
   have g_4 := idx_map (e := (AV.int .i64)) h_3
   simp only [List.map_cons,List.map_nil] at g_4
   try simp -implicitDefEqProofs (maxSteps := 999999) [-selQ_sel,h_2,h_3,g_4]
   obtain ⟨v4,h_5,H⟩ := HS.bnd H
   try simp -implicitDefEqProofs (maxSteps := 999999) [-selQ_sel,h_2,h_3,g_4,h_5]
   refine Hid.brV (fun h_6 => ?_) (fun h_6 => ?_)
   ·replace H := HS.cnd_t h_6 H
    try simp -implicitDefEqProofs (maxSteps := 999999) [-selQ_sel,h_2,h_3,g_4,h_5,h_6]
    have hr := (HS.some H).symm; subst hr
    exact Hid.mk ⟨impl_MatOk_l0_S a0 (IntKind.i64.wrap (x2 + 1)),Wk.ofk [0] hk (by rfl) (by simp -implicitDefEqProofs [impl_MatOk_l0_S,h_2,h_3,g_4,h_5,h_6]) (by simp -implicitDefEqProofs [impl_MatOk_l0_S,h_2,h_3,g_4,h_5,h_6]),hR⟩
   ·replace H := HS.cnd_f h_6 H
    try simp -implicitDefEqProofs (maxSteps := 999999) [-selQ_sel,h_2,h_3,g_4,h_5,h_6]
    have hr := (HS.some H).symm; subst hr
    exact Hid.mk ⟨(impl_MatOk_l0_X a0 (.inr ())).2,Wk.ofk [] hk (by rfl) (by simp -implicitDefEqProofs [impl_MatOk_l0_X,h_2,h_3,g_4,h_5,h_6]) (by simp -implicitDefEqProofs [impl_MatOk_l0_X,h_2,h_3,g_4,h_5,h_6]),hR⟩
 ·rcases q with ⟨⟩ | ⟨⟩
  ·dsimp only at H
   try simp -implicitDefEqProofs (maxSteps := 999999) [-selQ_sel,impl_MatOk_l0_X]
   obtain ⟨v5,h_7,H⟩ := HS.bnd H
   try simp -implicitDefEqProofs (maxSteps := 999999) [-selQ_sel,h_7]
   refine Hid.selQ (fun h_8 => ?_) (fun h_8 => ?_)
   ·replace H := HS.cnd_t h_8 H
    try simp -implicitDefEqProofs (maxSteps := 999999) [-selQ_sel,h_7,h_8]
    obtain ⟨v6,h_9,H⟩ := HS.bnd H
    try simp -implicitDefEqProofs (maxSteps := 999999) [-selQ_sel,h_7,h_8,h_9]
    have hr := (HS.some H).symm; subst hr
    refine Hid.mk ⟨_,Wk.refl _,?_⟩
    try simp -implicitDefEqProofs (maxSteps := 999999) [-selQ_sel,h_7,h_8,h_9]
   ·replace H := HS.cnd_f h_8 H
    try simp -implicitDefEqProofs (maxSteps := 999999) [-selQ_sel,h_7,h_8]
    have hr := (HS.some H).symm; subst hr
    refine Hid.mk ⟨_,Wk.refl _,?_⟩
    try simp -implicitDefEqProofs (maxSteps := 999999) [-selQ_sel,h_7,h_8]
  ·dsimp only at H
   try simp -implicitDefEqProofs (maxSteps := 999999) [-selQ_sel,impl_MatOk_l0_X]
   have hr := (HS.some H).symm; subst hr
   refine Hid.mk ⟨_,Wk.refl _,?_⟩
   try simp -implicitDefEqProofs (maxSteps := 999999) [-selQ_sel]
theorem spec_DepthOf_ok0 (hm : Try.prog.follows .mixedOrders = true) (k_spec_NodeAt : Sound Try.prog 45 spec_NodeAt_x) : Sound Try.prog 58 spec_DepthOf_x := by
 refine xOf_sound fun q r h => ?_
 obtain ⟨a0,a1⟩ := q
 refine fn_ok E0 hm Try.func58 rfl (by decide +kernel) (by rfl) fun Γ hn hk => ?_
 dsimp only [spec_DepthOf_e,spec_DepthOf_v]
 replace hn : Γ.n = 28 := hn
 replace hk : Γ.k = 0 := hk
 have H : HS (spec_DepthOf a0 a1) r := h
 clear h; unfold spec_DepthOf at H
 try simp -implicitDefEqProofs at H
 refine Tr.of_vc (cl := tabC [(45,spec_NodeAt_x)]) (E := E0) [] (tab_cons k_spec_NodeAt tab_nil) hm (by rw [hn]; decide +kernel) ?_
 try simp -implicitDefEqProofs (maxSteps := 999999) [-selQ_sel]
 obtain ⟨q,h_1,H⟩ := HS.bnd H
 refine Hid.mk (Tr.weak (s' := (spec_DepthOf_l0_S a0) (a1,0,0)) (Wk.ofk [0] hk (by rfl) (by simp -implicitDefEqProofs [spec_DepthOf_l0_S]) (by simp -implicitDefEqProofs [spec_DepthOf_l0_S])) ?_)
 refine wp_loop_of (S := (spec_DepthOf_l0_S a0)) (f := (spec_DepthOf_l0 a0)) (xt := (spec_DepthOf_l0_X a0)) ?_ ?_ h_1 ?_
 ·intro q; rcases q with y8 | ⟨⟩ <;> simp [spec_DepthOf_l0_X]
 ·clear H h_1 q
  rintro ⟨x3,x4,x5⟩ o R hf hR
  have H : HS (spec_DepthOf_l0 a0 (x3,x4,x5)) o := hf
  clear hf; unfold spec_DepthOf_l0 at H
  try simp -implicitDefEqProofs at H
  refine Tr.of_vc (cl := tabC [(45,spec_NodeAt_x)]) (E := E0) [] (tab_cons k_spec_NodeAt tab_nil) hm (by rw [hn]; decide +kernel) ?_
  try simp -implicitDefEqProofs (maxSteps := 999999) [-selQ_sel,spec_DepthOf_l0_S]
  refine Hid.brV (fun h_2 => ?_) (fun h_2 => ?_)
  ·replace H := HS.cnd_t h_2 H
   try simp -implicitDefEqProofs (maxSteps := 999999) [-selQ_sel,h_2]
   refine Hid.brV (fun h_3 => ?_) (fun h_3 => ?_)
   ·replace H := HS.cnd_t h_3 H
    try simp -implicitDefEqProofs (maxSteps := 999999) [-selQ_sel,h_2,h_3]
    have hr := (HS.some H).symm; subst hr
    exact Hid.mk ⟨(spec_DepthOf_l0_X a0 (.inl x4)).2,Wk.ofk [] hk (by rfl) (by simp -implicitDefEqProofs [spec_DepthOf_l0_X,h_2,h_3]) (by simp -implicitDefEqProofs [spec_DepthOf_l0_X,h_2,h_3]),hR⟩
   ·replace H := HS.cnd_f h_3 H
    try simp -implicitDefEqProofs (maxSteps := 999999) [-selQ_sel,h_2,h_3]
    obtain ⟨v6,h_4,H⟩ := HS.bnd H
    try simp -implicitDefEqProofs (maxSteps := 999999) [-selQ_sel,h_2,h_3,h_4]
    refine Hid.brV (fun h_5 => ?_) (fun h_5 => ?_)
    ·replace H := HS.cnd_t h_5 H
     try simp -implicitDefEqProofs (maxSteps := 999999) [-selQ_sel,h_2,h_3,h_4,h_5]
     obtain ⟨v7,h_6,H⟩ := HS.bnd H
     try simp -implicitDefEqProofs (maxSteps := 999999) [-selQ_sel,h_2,h_3,h_4,h_5,h_6]
     have hr := (HS.some H).symm; subst hr
     exact Hid.mk ⟨spec_DepthOf_l0_S a0 (v7.parent,(IntKind.i64.wrap (x4 + 1)),(IntKind.i64.wrap (x5 + 1))),Wk.ofk [0] hk (by rfl) (by simp -implicitDefEqProofs [spec_DepthOf_l0_S,h_2,h_3,h_4,h_5,h_6]) (by simp -implicitDefEqProofs [spec_DepthOf_l0_S,h_2,h_3,h_4,h_5,h_6]),hR⟩
    ·replace H := HS.cnd_f h_5 H
     try simp -implicitDefEqProofs (maxSteps := 999999) [-selQ_sel,h_2,h_3,h_4,h_5]
     have hr := (HS.some H).symm; subst hr
     exact Hid.mk ⟨(spec_DepthOf_l0_X a0 (.inl 0)).2,Wk.ofk [] hk (by rfl) (by simp -implicitDefEqProofs [spec_DepthOf_l0_X,h_2,h_3,h_4,h_5]) (by simp -implicitDefEqProofs [spec_DepthOf_l0_X,h_2,h_3,h_4,h_5]),hR⟩
  ·replace H := HS.cnd_f h_2 H
   try simp -implicitDefEqProofs (maxSteps := 999999) [-selQ_sel,h_2]
   have hr := (HS.some H).symm; subst hr
   exact Hid.mk ⟨(spec_DepthOf_l0_X a0 (.inr ())).2,Wk.ofk [] hk (by rfl) (by simp -implicitDefEqProofs [spec_DepthOf_l0_X,h_2]) (by simp -implicitDefEqProofs [spec_DepthOf_l0_X,h_2]),hR⟩
 ·rcases q with y8 | ⟨⟩
  ·dsimp only at H
   try simp -implicitDefEqProofs (maxSteps := 999999) [-selQ_sel,spec_DepthOf_l0_X]
   have hr := (HS.some H).symm; subst hr
   refine Hid.mk ⟨_,Wk.refl _,?_⟩
   try simp -implicitDefEqProofs (maxSteps := 999999) [-selQ_sel]
  ·dsimp only at H
   try simp -implicitDefEqProofs (maxSteps := 999999) [-selQ_sel,spec_DepthOf_l0_X]
   have hr := (HS.some H).symm; subst hr
   refine Hid.mk ⟨_,Wk.refl _,?_⟩
   try simp -implicitDefEqProofs (maxSteps := 999999) [-selQ_sel]
theorem laws_szNodeS_ok0 (hm : Try.prog.follows .mixedOrders = true) (k_laws_szNode : Sound Try.prog 17 laws_szNode_x) : Sound Try.prog 54 laws_szNodeS_x := by
 refine xOf_sound fun q r h => ?_
 obtain ⟨a0,a1⟩ := q
 refine fn_ok E0 hm Try.func54 rfl (by decide +kernel) (by rfl) fun Γ hn hk => ?_
 dsimp only [laws_szNodeS_e,laws_szNodeS_v]
 replace hn : Γ.n = 27 := hn
 replace hk : Γ.k = 0 := hk
 have H : HS (laws_szNodeS a0 a1) r := h
 clear h; unfold laws_szNodeS at H
 try simp -implicitDefEqProofs at H
 refine Tr.of_vc (cl := tabC [(17,laws_szNode_x)]) (E := E0) [] (tab_cons k_laws_szNode tab_nil) hm (by rw [hn]; decide +kernel) ?_
 try simp -implicitDefEqProofs (maxSteps := 999999) [-selQ_sel]
 refine Hid.brV (fun h_1 => ?_) (fun h_1 => ?_)
 ·replace H := HS.cnd_t h_1 H
  try simp -implicitDefEqProofs (maxSteps := 999999) [-selQ_sel,h_1]
  obtain ⟨q,h_2,H⟩ := HS.bnd H
  refine Hid.mk (Tr.weak (s' := (laws_szNodeS_l0_S a0) ((IntKind.i64.wrap (a1 - (List.length a0 : Int))),0)) (Wk.ofk [] hk (by rfl) (by simp -implicitDefEqProofs [laws_szNodeS_l0_S,h_1]) (by simp -implicitDefEqProofs [laws_szNodeS_l0_S,h_1])) ?_)
  refine wp_loop_of (S := (laws_szNodeS_l0_S a0)) (f := (laws_szNodeS_l0 a0)) (xt := (laws_szNodeS_l0_X a0)) ?_ ?_ h_2 ?_
  ·intro q; rcases q with y7 | ⟨⟩ <;> simp [laws_szNodeS_l0_X]
  ·clear H h_2 q
   rintro ⟨x3,x4⟩ o R hf hR
   have H : HS (laws_szNodeS_l0 a0 (x3,x4)) o := hf
   clear hf; unfold laws_szNodeS_l0 at H
   try simp -implicitDefEqProofs at H
   refine Tr.of_vc (cl := tabC [(17,laws_szNode_x)]) (E := E0) [] (tab_cons k_laws_szNode tab_nil) hm (by rw [hn]; decide +kernel) ?_
   try simp -implicitDefEqProofs (maxSteps := 999999) [-selQ_sel,laws_szNodeS_l0_S]
   refine Hid.brV (fun h_3 => ?_) (fun h_3 => ?_)
   ·replace H := HS.cnd_t h_3 H
    try simp -implicitDefEqProofs (maxSteps := 999999) [-selQ_sel,h_3]
    have hr := (HS.some H).symm; subst hr
    exact Hid.mk ⟨(laws_szNodeS_l0_X a0 (.inl x3)).2,Wk.ofk [] hk (by rfl) (by simp -implicitDefEqProofs [laws_szNodeS_l0_X,h_3]) (by simp -implicitDefEqProofs [laws_szNodeS_l0_X,h_3]),hR⟩
   ·replace H := HS.cnd_f h_3 H
    try simp -implicitDefEqProofs (maxSteps := 999999) [-selQ_sel,h_3]
    obtain ⟨v5,h_4,H⟩ := HS.bnd H
    try simp -implicitDefEqProofs (maxSteps := 999999) [-selQ_sel,h_3,h_4]
    obtain ⟨v6,h_5,H⟩ := HS.bnd H
    try simp -implicitDefEqProofs (maxSteps := 999999) [-selQ_sel,h_3,h_4,h_5]
    refine Hid.brV (fun h_6 => ?_) (fun h_6 => ?_)
    ·replace H := HS.cnd_t h_6 H
     try simp -implicitDefEqProofs (maxSteps := 999999) [-selQ_sel,h_3,h_4,h_5,h_6]
     have hr := (HS.some H).symm; subst hr
     exact Hid.mk ⟨laws_szNodeS_l0_S a0 (v6,(IntKind.i64.wrap (x4 + 1))),Wk.ofk [] hk (by rfl) (by simp -implicitDefEqProofs [laws_szNodeS_l0_S,h_3,h_4,h_5,h_6]) (by simp -implicitDefEqProofs [laws_szNodeS_l0_S,h_3,h_4,h_5,h_6]),hR⟩
    ·replace H := HS.cnd_f h_6 H
     try simp -implicitDefEqProofs (maxSteps := 999999) [-selQ_sel,h_3,h_4,h_5,h_6]
     have hr := (HS.some H).symm; subst hr
     exact Hid.mk ⟨(laws_szNodeS_l0_X a0 (.inr ())).2,Wk.ofk [] hk (by rfl) (by simp -implicitDefEqProofs [laws_szNodeS_l0_X,h_3,h_4,h_5,h_6]) (by simp -implicitDefEqProofs [laws_szNodeS_l0_X,h_3,h_4,h_5,h_6]),hR⟩
  ·rcases q with y7 | ⟨⟩
   ·dsimp only at H
    try simp -implicitDefEqProofs (maxSteps := 999999) [-selQ_sel,h_1,laws_szNodeS_l0_X]
    have hr := (HS.some H).symm; subst hr
    refine Hid.mk ⟨_,Wk.refl _,?_⟩
    try simp -implicitDefEqProofs (maxSteps := 999999) [-selQ_sel,h_1]
   ·dsimp only at H
    try simp -implicitDefEqProofs (maxSteps := 999999) [-selQ_sel,h_1,laws_szNodeS_l0_X]
    have hr := (HS.some H).symm; subst hr
    refine Hid.mk ⟨_,Wk.refl _,?_⟩
    try simp -implicitDefEqProofs (maxSteps := 999999) [-selQ_sel,h_1]
 ·replace H := HS.cnd_f h_1 H
  try simp -implicitDefEqProofs (maxSteps := 999999) [-selQ_sel,h_1]
  have hr := (HS.some H).symm; subst hr
  refine Hid.mk ⟨_,Wk.refl _,?_⟩
  try simp -implicitDefEqProofs (maxSteps := 999999) [-selQ_sel,h_1]
theorem laws_heldPointS_ok0 (hm : Try.prog.follows .mixedOrders = true) : Sound Try.prog 114 laws_heldPointS_x := by
 refine xOf_sound fun q r h => ?_
 obtain ⟨a0,a1⟩ := q
 refine fn_ok E0 hm Try.func114 rfl (by decide +kernel) (by rfl) fun Γ hn hk => ?_
 dsimp only [laws_heldPointS_e,laws_heldPointS_v]
 replace hn : Γ.n = 31 := hn
 replace hk : Γ.k = 0 := hk
 have H : HS (laws_heldPointS a0 a1) r := h
 clear h; unfold laws_heldPointS at H
 try simp -implicitDefEqProofs at H
 refine Tr.of_vc (cl := tabC []) (E := E0) [] tab_nil hm (by rw [hn]; decide +kernel) ?_
 try simp -implicitDefEqProofs (maxSteps := 999999) [-selQ_sel]
 obtain ⟨q,h_1,H⟩ := HS.bnd H
 refine Hid.mk (Tr.weak (s' := (laws_heldPointS_l0_S a0) (a1,0)) (Wk.ofk [] hk (by rfl) (by simp -implicitDefEqProofs [laws_heldPointS_l0_S]) (by simp -implicitDefEqProofs [laws_heldPointS_l0_S])) ?_)
 refine wp_loop_of (S := (laws_heldPointS_l0_S a0)) (f := (laws_heldPointS_l0 a0)) (xt := (laws_heldPointS_l0_X a0)) ?_ ?_ h_1 ?_
 ·intro q; rcases q with y5 | ⟨⟩ <;> simp [laws_heldPointS_l0_X]
 ·clear H h_1 q
  rintro ⟨x2,x3⟩ o R hf hR
  have H : HS (laws_heldPointS_l0 a0 (x2,x3)) o := hf
  clear hf; unfold laws_heldPointS_l0 at H
  try simp -implicitDefEqProofs at H
  refine Tr.of_vc (cl := tabC []) (E := E0) [] tab_nil hm (by rw [hn]; decide +kernel) ?_
  try simp -implicitDefEqProofs (maxSteps := 999999) [-selQ_sel,laws_heldPointS_l0_S]
  refine Hid.brV (fun h_2 => ?_) (fun h_2 => ?_)
  ·replace H := HS.cnd_t h_2 H
   try simp -implicitDefEqProofs (maxSteps := 999999) [-selQ_sel,h_2]
   have hr := (HS.some H).symm; subst hr
   exact Hid.mk ⟨(laws_heldPointS_l0_X a0 (.inl x2)).2,Wk.ofk [] hk (by rfl) (by simp -implicitDefEqProofs [laws_heldPointS_l0_X,h_2]) (by simp -implicitDefEqProofs [laws_heldPointS_l0_X,h_2]),hR⟩
  ·replace H := HS.cnd_f h_2 H
   try simp -implicitDefEqProofs (maxSteps := 999999) [-selQ_sel,h_2]
   obtain ⟨v4,h_3,H⟩ := HS.bnd H
   try simp -implicitDefEqProofs (maxSteps := 999999) [-selQ_sel,h_2,h_3]
   refine Hid.brV (fun h_4 => ?_) (fun h_4 => ?_)
   ·replace H := HS.cnd_t h_4 H
    try simp -implicitDefEqProofs (maxSteps := 999999) [-selQ_sel,h_2,h_3,h_4]
    refine Hid.brV (fun h_5 => ?_) (fun h_5 => ?_)
    ·replace H := HS.cnd_t h_5 H
     try simp -implicitDefEqProofs (maxSteps := 999999) [-selQ_sel,h_2,h_3,h_4,h_5]
     have hr := (HS.some H).symm; subst hr
     exact Hid.mk ⟨laws_heldPointS_l0_S a0 ((IntKind.i64.wrap ((IntKind.i64.wrap (x2 + 1)) + 1)),(IntKind.i64.wrap (x3 + 1))),Wk.ofk [] hk (by rfl) (by simp -implicitDefEqProofs [laws_heldPointS_l0_S,h_2,h_3,h_4,h_5]) (by simp -implicitDefEqProofs [laws_heldPointS_l0_S,h_2,h_3,h_4,h_5]),hR⟩
    ·replace H := HS.cnd_f h_5 H
     try simp -implicitDefEqProofs (maxSteps := 999999) [-selQ_sel,h_2,h_3,h_4,h_5]
     have hr := (HS.some H).symm; subst hr
     exact Hid.mk ⟨(laws_heldPointS_l0_X a0 (.inr ())).2,Wk.ofk [] hk (by rfl) (by simp -implicitDefEqProofs [laws_heldPointS_l0_X,h_2,h_3,h_4,h_5]) (by simp -implicitDefEqProofs [laws_heldPointS_l0_X,h_2,h_3,h_4,h_5]),hR⟩
   ·replace H := HS.cnd_f h_4 H
    try simp -implicitDefEqProofs (maxSteps := 999999) [-selQ_sel,h_2,h_3,h_4]
    have hr := (HS.some H).symm; subst hr
    exact Hid.mk ⟨(laws_heldPointS_l0_X a0 (.inr ())).2,Wk.ofk [] hk (by rfl) (by simp -implicitDefEqProofs [laws_heldPointS_l0_X,h_2,h_3,h_4]) (by simp -implicitDefEqProofs [laws_heldPointS_l0_X,h_2,h_3,h_4]),hR⟩
 ·rcases q with y5 | ⟨⟩
  ·dsimp only at H
   try simp -implicitDefEqProofs (maxSteps := 999999) [-selQ_sel,laws_heldPointS_l0_X]
   have hr := (HS.some H).symm; subst hr
   refine Hid.mk ⟨_,Wk.refl _,?_⟩
   try simp -implicitDefEqProofs (maxSteps := 999999) [-selQ_sel]
  ·dsimp only at H
   try simp -implicitDefEqProofs (maxSteps := 999999) [-selQ_sel,laws_heldPointS_l0_X]
   have hr := (HS.some H).symm; subst hr
   refine Hid.mk ⟨_,Wk.refl _,?_⟩
   try simp -implicitDefEqProofs (maxSteps := 999999) [-selQ_sel]
theorem laws_toPointS_ok0 (hm : Try.prog.follows .mixedOrders = true) (k_laws_toPoint : Sound Try.prog 106 laws_toPoint_x) : Sound Try.prog 104 laws_toPointS_x := by
 refine xOf_sound fun q r h => ?_
 revert h; revert r; revert q; intro a0 r h
 refine fn_ok E0 hm Try.func104 rfl (by decide +kernel) (by rfl) fun Γ hn hk => ?_
 dsimp only [laws_toPointS_e,laws_toPointS_v]
 replace hn : Γ.n = 23 := hn
 replace hk : Γ.k = 0 := hk
 have H : HS (laws_toPointS a0) r := h
 clear h; unfold laws_toPointS at H
 try simp -implicitDefEqProofs at H
 refine Tr.of_vc (cl := tabC [(106,laws_toPoint_x)]) (E := E0) [] (tab_cons k_laws_toPoint tab_nil) hm (by rw [hn]; decide +kernel) ?_
 try simp -implicitDefEqProofs (maxSteps := 999999) [-selQ_sel]
 obtain ⟨h_1,H⟩ := HS.chkP H
 try simp -implicitDefEqProofs (maxSteps := 999999) [-selQ_sel,h_1]
 obtain ⟨l1,h_2,H⟩ := HS.nam H
 have m_3 := congrArg (List.map ePoint) h_2
 have q_4 := congrArg List.length h_2
 simp -implicitDefEqProofs at m_3 q_4
 try simp only [q_4] at m_3
 try simp only [q_4] at h_1
 try simp -implicitDefEqProofs (maxSteps := 999999) [-selQ_sel,h_1,m_3,q_4]
 obtain ⟨q,h_5,H⟩ := HS.bnd H
 refine Hid.mk (Tr.weak (s' := (laws_toPointS_l0_S a0) (0,l1)) (Wk.ofk [0] hk (by rfl) (by simp -implicitDefEqProofs [laws_toPointS_l0_S,h_1,m_3,q_4]) (by simp -implicitDefEqProofs [laws_toPointS_l0_S,h_1,m_3,q_4])) ?_)
 refine wp_loop_of (S := (laws_toPointS_l0_S a0)) (f := (laws_toPointS_l0 a0)) (xt := (laws_toPointS_l0_X a0)) ?_ ?_ h_5 ?_
 ·intro q; simp [laws_toPointS_l0_X]
 ·clear H h_5 q
  rintro ⟨x6,x7⟩ o R hf hR
  have H : HS (laws_toPointS_l0 a0 (x6,x7)) o := hf
  clear hf; unfold laws_toPointS_l0 at H
  try simp -implicitDefEqProofs at H
  refine Tr.of_vc (cl := tabC [(106,laws_toPoint_x)]) (E := E0) [] (tab_cons k_laws_toPoint tab_nil) hm (by rw [hn]; decide +kernel) ?_
  try simp -implicitDefEqProofs (maxSteps := 999999) [-selQ_sel,laws_toPointS_l0_S]
  refine Hid.brV (fun h_6 => ?_) (fun h_6 => ?_)
  ·replace H := HS.cnd_t h_6 H
   try simp -implicitDefEqProofs (maxSteps := 999999) [-selQ_sel,h_6]
   have hr := (HS.some H).symm; subst hr
   exact Hid.mk ⟨(laws_toPointS_l0_X a0 x7).2,Wk.ofk [0] hk (by rfl) (by simp -implicitDefEqProofs [laws_toPointS_l0_X,h_6]) (by simp -implicitDefEqProofs [laws_toPointS_l0_X,h_6]),hR⟩
  ·replace H := HS.cnd_f h_6 H
   try simp -implicitDefEqProofs (maxSteps := 999999) [-selQ_sel,h_6]
   obtain ⟨v8,h_7,H⟩ := HS.bnd H
   try simp -implicitDefEqProofs (maxSteps := 999999) [-selQ_sel,h_6,h_7]
   obtain ⟨v9,h_8,H⟩ := HS.bnd H
   try simp -implicitDefEqProofs (maxSteps := 999999) [-selQ_sel,h_6,h_7,h_8]
   obtain ⟨v10,h_9,H⟩ := HS.bnd H
   have g_10 := idx_get h_9
   try simp -implicitDefEqProofs (maxSteps := 999999) [-selQ_sel,h_6,h_7,h_8,h_9,g_10]
   obtain ⟨l11,h_11,H⟩ := HS.nam H
   have m_12 := congrArg (List.map ePoint) h_11
   have q_13 := congrArg List.length h_11
   simp -implicitDefEqProofs at m_12 q_13
   try simp only [q_13] at m_12
   try simp only [q_13] at g_10
   try simp -implicitDefEqProofs (maxSteps := 999999) [-selQ_sel,h_6,h_7,h_8,h_9,g_10,m_12,q_13]
   have hr := (HS.some H).symm; subst hr
   exact Hid.mk ⟨laws_toPointS_l0_S a0 ((IntKind.i64.wrap (x6 + 1)),l11),Wk.ofk [0] hk (by rfl) (by simp -implicitDefEqProofs [laws_toPointS_l0_S,h_6,h_7,h_8,h_9,g_10,m_12,q_13]) (by simp -implicitDefEqProofs [laws_toPointS_l0_S,h_6,h_7,h_8,h_9,g_10,m_12,q_13]),hR⟩
 ·revert H h_5; revert q; intro y12 h_5 H
  try dsimp only at H
  try simp -implicitDefEqProofs (maxSteps := 999999) [-selQ_sel,h_1,m_3,q_4,laws_toPointS_l0_X]
  have hr := (HS.some H).symm; subst hr
  refine Hid.mk ⟨⟨[(2,AV.osl 0 0 (List.length y12) (List.length y12))],[(0,Ob.arr 2 (List.map ePoint y12) false)],1⟩,Wk.ofk [0] hk (by rfl) (by simp -implicitDefEqProofs [h_1,m_3,q_4]) (by simp -implicitDefEqProofs [h_1,m_3,q_4]),?_⟩
  try simp -implicitDefEqProofs (maxSteps := 999999) [-selQ_sel,h_1,m_3,q_4]
def lr_Node (p : TNode × (Nat → Value)) : TNodeR := (TNodeR.mk p.1.id p.1.parent p.1.group p.1.mat (TPathR.mk (some (p.2 9)) (some (p.2 10))) p.1.even p.1.width (some (p.2 13)) p.1.paint p.1.mode p.1.fade (TPathR.mk (some (p.2 29)) (some (p.2 30))))
theorem lr_Node1 : ∀ x : TNode,(eNode x).cells.length = 31 ∧ (eNode x).cells.all AV.one = true := fun x => by simp
theorem lr_Node2 : ∀ (x : TNode) (h : Nat → Value),rwE (eNode x) h 0 = eNodeR (lr_Node (x,h)) := fun _ _ => rfl
theorem lr_Node3 : ∀ (x : TNode) (h : Nat → Value),plainL (eNodeR (lr_Node (x,h))).cells = true := fun x h => by simp [lr_Node,plainL,plain,eO]
theorem lr_Node4 : ∀ (ct : Value → List AV) (x : TNode) (h : Nat → Value),(∀ c r,(eNode x).cells[c]? = some (.fsl r) → ct (h c) = r) → unE ct (eNodeR (lr_Node (x,h))) = eNode x := fun ct x h H => by
 have h9 := H 9 _ rfl
 have h10 := H 10 _ rfl
 have h13 := H 13 _ rfl
 have h29 := H 29 _ rfl
 have h30 := H 30 _ rfl
 simp [unE,unC,lr_Node,eO,h9,h10,h13,h29,h30]
theorem lr_Node5 : ∀ x : TNode,∀ c ∈ (eNode x).cells,∀ u,c ≠ .raw u := fun x => by simp
theorem slices_DeleteFunc_Node_DropNode_1_n_ok0 (hm : Try.prog.follows .mixedOrders = true) (k_slices_DeleteFunc_Node_DropNode_1R : Sound Try.prog 76 slices_DeleteFunc_Node_DropNode_1R_x) : Sound Try.prog 76 slices_DeleteFunc_Node_DropNode_1_n_x := by
 refine xOf_sound fun q r h => ?_
 obtain ⟨a0,a1⟩ := q
 have H : HS (slices_DeleteFunc_Node_DropNode_1_n a0 a1) r := h
 clear h; unfold slices_DeleteFunc_Node_DropNode_1_n at H
 obtain ⟨⟨h1,h2⟩,H⟩ := HS.chkP H
 have hr := (HS.some H).symm; subst hr
 dsimp only [slices_DeleteFunc_Node_DropNode_1_n_e,slices_DeleteFunc_Node_DropNode_1_n_v]
 refine lift_el (e := eNode) (e' := fun p => eNodeR (lr_Node p)) (w := 31) lr_Node1 lr_Node2 lr_Node3 lr_Node4 lr_Node5 (of_eq_true nid_eNode) k_slices_DeleteFunc_Node_DropNode_1R (a := 0) (l := a0) (zs := [0,0,0,0,0,0,0,0,0,1,2,0,0,1,0,0,0,0,0,0,0,0,0,0,0,0,0,0,0,1,2]) rfl [] (by simp) (by simp) (fun _ => _) (fun φ m vs hv => ⟨fun _ => default,by simp,hv⟩) (fun er => [.arr 31 er false,Ob.box [AV.fsl (List.map (AV.int .i64) a1)]]) (fun er i => ?_) (fun _ => rfl) (fun _ => []) (by simp) (fun _ => rfl) fun lz gj hz => ?_
 ·match i with
  | 0 => rfl
  | 1 => rfl
  | n + 2 => simp
 ·subst hz
  obtain ⟨l',d1,d2,d3⟩ := Na.delf_DropNode (l := lz.map lr_Node) (ids := a1) h2 (by simpa using h1)
  have k := slices_DeleteFunc_Node_DropNode_1R_k (lz.map lr_Node) a1
  rw [d1] at k
  have hf : (lz.map lr_Node).filter (fun k => !Na.isIn k.id a1) = (lz.filter (fun p => !(List.any a1 fun y => ieq p.1.id y))).map lr_Node := by
   rw [List.filter_map]; simp only [Na.isIn,Function.comp_def,lr_Node]
  have hg : (lz.map (·.1)).filter (fun k => !(List.any a1 fun y => ieq k.id y)) = (lz.filter (fun p => !(List.any a1 fun y => ieq p.1.id y))).map (·.1) := by
   rw [List.filter_map]; simp only [Function.comp_def]
  rw [hf] at k d2
  rw [hg]
  have hl : (lz.filter (fun p => !(List.any a1 fun y => ieq p.1.id y))).length ≤ lz.length := List.length_filter_le _ _
  have hs : (lz.filter (fun p => !(List.any a1 fun y => ieq p.1.id y))).Sublist lz := List.filter_sublist
  generalize lz.filter (fun p => !(List.any a1 fun y => ieq p.1.id y)) = L at *
  simp only [List.length_map] at d2 d3
  refine ⟨AV.osl 0 0 L.length l'.length,[Ob.arr 31 (l'.map eNodeR) false,Ob.box [AV.fsl (List.map (AV.int .i64) a1)]],l'.map eNodeR,L.length,L,?_,rfl,?_,?_,⟨L,.refl _,?_⟩,?_,rfl,rfl,?_,fun i hi1 hi2 => ?_⟩
  ·simp only [List.length_map] at k ⊢; rw [List.map_map] at k; exact k.trans (by show some (AV.osl 0 0 (List.map lr_Node L).length l'.length,_) = _; rw [List.length_map])
  ·rw [List.length_map]; omega
  ·rw [← List.map_take,d2,List.map_map]; rfl
  ·simpa using hs
  ·simp [shC]
  ·simp [d3]
  ·match i with
   | 0 => exact (hi1 rfl).elim
   | 1 => exact .inl rfl
   | 2 => exact (hi2 rfl).elim
   | n + 3 => exact .inl rfl
theorem laws_eqMat_ok0 (hm : Try.prog.follows .mixedOrders = true) : Sound Try.prog 66 laws_eqMat_x := by
 refine xOf_sound fun q r h => ?_
 obtain ⟨a0,a1⟩ := q
 refine fn_ok E0 hm Try.func66 rfl (by decide +kernel) (by rfl) fun Γ hn hk => ?_
 dsimp only [laws_eqMat_e,laws_eqMat_v]
 replace hn : Γ.n = 35 := hn
 replace hk : Γ.k = 0 := hk
 have H : HS (laws_eqMat a0 a1) r := h
 clear h; unfold laws_eqMat at H
 try simp -implicitDefEqProofs at H
 refine Tr.of_vc (cl := tabC []) (E := E0) [] tab_nil hm (by rw [hn]; decide +kernel) ?_
 try simp -implicitDefEqProofs (maxSteps := 999999) [-selQ_sel]
 refine Hid.brV (fun h_1 => ?_) (fun h_1 => ?_)
 ·replace H := HS.cnd_t h_1 H
  try simp -implicitDefEqProofs (maxSteps := 999999) [-selQ_sel,h_1]
  refine Hid.brV (fun h_2 => ?_) (fun h_2 => ?_)
  ·replace H := HS.cnd_t h_2 H
   try simp -implicitDefEqProofs (maxSteps := 999999) [-selQ_sel,h_1,h_2]
   refine Hid.brV (fun h_3 => ?_) (fun h_3 => ?_)
   ·replace H := HS.cnd_t h_3 H
    try simp -implicitDefEqProofs (maxSteps := 999999) [-selQ_sel,h_1,h_2,h_3]
    refine Hid.brV (fun h_4 => ?_) (fun h_4 => ?_)
    ·replace H := HS.cnd_t h_4 H
     try simp -implicitDefEqProofs (maxSteps := 999999) [-selQ_sel,h_1,h_2,h_3,h_4]
     refine Hid.brV (fun h_5 => ?_) (fun h_5 => ?_)
     ·replace H := HS.cnd_t h_5 H
      try simp -implicitDefEqProofs (maxSteps := 999999) [-selQ_sel,h_1,h_2,h_3,h_4,h_5]
      refine Hid.brV (fun h_6 => ?_) (fun h_6 => ?_)
      ·replace H := HS.cnd_t h_6 H
       try simp -implicitDefEqProofs (maxSteps := 999999) [-selQ_sel,h_1,h_2,h_3,h_4,h_5,h_6]
       have hr := (HS.some H).symm; subst hr
       refine Hid.mk ⟨_,Wk.refl _,?_⟩
       try simp -implicitDefEqProofs (maxSteps := 999999) [-selQ_sel,h_1,h_2,h_3,h_4,h_5,h_6]
      ·replace H := HS.cnd_f h_6 H
       try simp -implicitDefEqProofs (maxSteps := 999999) [-selQ_sel,h_1,h_2,h_3,h_4,h_5,h_6]
       have hr := (HS.some H).symm; subst hr
       refine Hid.mk ⟨_,Wk.refl _,?_⟩
       try simp -implicitDefEqProofs (maxSteps := 999999) [-selQ_sel,h_1,h_2,h_3,h_4,h_5,h_6]
     ·replace H := HS.cnd_f h_5 H
      try simp -implicitDefEqProofs (maxSteps := 999999) [-selQ_sel,h_1,h_2,h_3,h_4,h_5]
      have hr := (HS.some H).symm; subst hr
      refine Hid.mk ⟨_,Wk.refl _,?_⟩
      try simp -implicitDefEqProofs (maxSteps := 999999) [-selQ_sel,h_1,h_2,h_3,h_4,h_5]
    ·replace H := HS.cnd_f h_4 H
     try simp -implicitDefEqProofs (maxSteps := 999999) [-selQ_sel,h_1,h_2,h_3,h_4]
     have hr := (HS.some H).symm; subst hr
     refine Hid.mk ⟨_,Wk.refl _,?_⟩
     try simp -implicitDefEqProofs (maxSteps := 999999) [-selQ_sel,h_1,h_2,h_3,h_4]
   ·replace H := HS.cnd_f h_3 H
    try simp -implicitDefEqProofs (maxSteps := 999999) [-selQ_sel,h_1,h_2,h_3]
    have hr := (HS.some H).symm; subst hr
    refine Hid.mk ⟨_,Wk.refl _,?_⟩
    try simp -implicitDefEqProofs (maxSteps := 999999) [-selQ_sel,h_1,h_2,h_3]
  ·replace H := HS.cnd_f h_2 H
   try simp -implicitDefEqProofs (maxSteps := 999999) [-selQ_sel,h_1,h_2]
   have hr := (HS.some H).symm; subst hr
   refine Hid.mk ⟨_,Wk.refl _,?_⟩
   try simp -implicitDefEqProofs (maxSteps := 999999) [-selQ_sel,h_1,h_2]
 ·replace H := HS.cnd_f h_1 H
  try simp -implicitDefEqProofs (maxSteps := 999999) [-selQ_sel,h_1]
  have hr := (HS.some H).symm; subst hr
  refine Hid.mk ⟨_,Wk.refl _,?_⟩
  try simp -implicitDefEqProofs (maxSteps := 999999) [-selQ_sel,h_1]
theorem laws_heldIntS_ok0 (hm : Try.prog.follows .mixedOrders = true) : Sound Try.prog 113 laws_heldIntS_x := by
 refine xOf_sound fun q r h => ?_
 obtain ⟨a0,a1⟩ := q
 refine fn_ok E0 hm Try.func113 rfl (by decide +kernel) (by rfl) fun Γ hn hk => ?_
 dsimp only [laws_heldIntS_e,laws_heldIntS_v]
 replace hn : Γ.n = 21 := hn
 replace hk : Γ.k = 0 := hk
 have H : HS (laws_heldIntS a0 a1) r := h
 clear h; unfold laws_heldIntS at H
 try simp -implicitDefEqProofs at H
 refine Tr.of_vc (cl := tabC []) (E := E0) [] tab_nil hm (by rw [hn]; decide +kernel) ?_
 try simp -implicitDefEqProofs (maxSteps := 999999) [-selQ_sel]
 obtain ⟨q,h_1,H⟩ := HS.bnd H
 refine Hid.mk (Tr.weak (s' := (laws_heldIntS_l0_S a0) (a1,0)) (Wk.ofk [] hk (by rfl) (by simp -implicitDefEqProofs [laws_heldIntS_l0_S]) (by simp -implicitDefEqProofs [laws_heldIntS_l0_S])) ?_)
 refine wp_loop_of (S := (laws_heldIntS_l0_S a0)) (f := (laws_heldIntS_l0 a0)) (xt := (laws_heldIntS_l0_X a0)) ?_ ?_ h_1 ?_
 ·intro q; rcases q with y5 | ⟨⟩ <;> simp [laws_heldIntS_l0_X]
 ·clear H h_1 q
  rintro ⟨x2,x3⟩ o R hf hR
  have H : HS (laws_heldIntS_l0 a0 (x2,x3)) o := hf
  clear hf; unfold laws_heldIntS_l0 at H
  try simp -implicitDefEqProofs at H
  refine Tr.of_vc (cl := tabC []) (E := E0) [] tab_nil hm (by rw [hn]; decide +kernel) ?_
  try simp -implicitDefEqProofs (maxSteps := 999999) [-selQ_sel,laws_heldIntS_l0_S]
  refine Hid.brV (fun h_2 => ?_) (fun h_2 => ?_)
  ·replace H := HS.cnd_t h_2 H
   try simp -implicitDefEqProofs (maxSteps := 999999) [-selQ_sel,h_2]
   have hr := (HS.some H).symm; subst hr
   exact Hid.mk ⟨(laws_heldIntS_l0_X a0 (.inl x2)).2,Wk.ofk [] hk (by rfl) (by simp -implicitDefEqProofs [laws_heldIntS_l0_X,h_2]) (by simp -implicitDefEqProofs [laws_heldIntS_l0_X,h_2]),hR⟩
  ·replace H := HS.cnd_f h_2 H
   try simp -implicitDefEqProofs (maxSteps := 999999) [-selQ_sel,h_2]
   obtain ⟨v4,h_3,H⟩ := HS.bnd H
   try simp -implicitDefEqProofs (maxSteps := 999999) [-selQ_sel,h_2,h_3]
   refine Hid.brV (fun h_4 => ?_) (fun h_4 => ?_)
   ·replace H := HS.cnd_t h_4 H
    try simp -implicitDefEqProofs (maxSteps := 999999) [-selQ_sel,h_2,h_3,h_4]
    have hr := (HS.some H).symm; subst hr
    exact Hid.mk ⟨laws_heldIntS_l0_S a0 ((IntKind.i64.wrap (x2 + 1)),(IntKind.i64.wrap (x3 + 1))),Wk.ofk [] hk (by rfl) (by simp -implicitDefEqProofs [laws_heldIntS_l0_S,h_2,h_3,h_4]) (by simp -implicitDefEqProofs [laws_heldIntS_l0_S,h_2,h_3,h_4]),hR⟩
   ·replace H := HS.cnd_f h_4 H
    try simp -implicitDefEqProofs (maxSteps := 999999) [-selQ_sel,h_2,h_3,h_4]
    have hr := (HS.some H).symm; subst hr
    exact Hid.mk ⟨(laws_heldIntS_l0_X a0 (.inr ())).2,Wk.ofk [] hk (by rfl) (by simp -implicitDefEqProofs [laws_heldIntS_l0_X,h_2,h_3,h_4]) (by simp -implicitDefEqProofs [laws_heldIntS_l0_X,h_2,h_3,h_4]),hR⟩
 ·rcases q with y5 | ⟨⟩
  ·dsimp only at H
   try simp -implicitDefEqProofs (maxSteps := 999999) [-selQ_sel,laws_heldIntS_l0_X]
   have hr := (HS.some H).symm; subst hr
   refine Hid.mk ⟨_,Wk.refl _,?_⟩
   try simp -implicitDefEqProofs (maxSteps := 999999) [-selQ_sel]
  ·dsimp only at H
   try simp -implicitDefEqProofs (maxSteps := 999999) [-selQ_sel,laws_heldIntS_l0_X]
   have hr := (HS.some H).symm; subst hr
   refine Hid.mk ⟨_,Wk.refl _,?_⟩
   try simp -implicitDefEqProofs (maxSteps := 999999) [-selQ_sel]
theorem laws_toNode_ok0 (hm : Try.prog.follows .mixedOrders = true) (k_laws_toMat : Sound Try.prog 60 laws_toMat_x) (k_laws_toPath : Sound Try.prog 61 laws_toPath_x) (k_laws_toIntS : Sound Try.prog 62 laws_toIntS_x) (k_laws_toPaint : Sound Try.prog 63 laws_toPaint_x) : Sound Try.prog 20 laws_toNode_x := by
 refine xOf_sound fun q r h => ?_
 revert h; revert r; revert q; intro a0 r h
 refine fn_ok E0 hm Try.func20 rfl (by decide +kernel) (by rfl) fun Γ hn hk => ?_
 dsimp only [laws_toNode_e,laws_toNode_v]
 replace hn : Γ.n = 46 := hn
 replace hk : Γ.k = 0 := hk
 have H : HS (laws_toNode a0) r := h
 clear h; unfold laws_toNode at H
 try simp -implicitDefEqProofs at H
 refine Tr.of_vc (cl := tabC [(60,laws_toMat_x),(61,laws_toPath_x),(62,laws_toIntS_x),(63,laws_toPaint_x)]) (E := E0) [] (tab_cons k_laws_toMat (tab_cons k_laws_toPath (tab_cons k_laws_toIntS (tab_cons k_laws_toPaint tab_nil)))) hm (by rw [hn]; decide +kernel) ?_
 try simp -implicitDefEqProofs (maxSteps := 999999) [-selQ_sel]
 obtain ⟨v1,h_1,H⟩ := HS.bnd H
 try simp -implicitDefEqProofs (maxSteps := 999999) [-selQ_sel,h_1]
 obtain ⟨⟨w3,w4⟩,h_2,H⟩ := HS.bnd H
 dsimp only at H
 try simp -implicitDefEqProofs (maxSteps := 999999) [-selQ_sel,h_1,h_2]
 obtain ⟨v5,h_3,H⟩ := HS.bnd H
 try simp -implicitDefEqProofs (maxSteps := 999999) [-selQ_sel,h_1,h_2,h_3]
 obtain ⟨v6,h_4,H⟩ := HS.bnd H
 try simp -implicitDefEqProofs (maxSteps := 999999) [-selQ_sel,h_1,h_2,h_3,h_4]
 obtain ⟨⟨w8,w9⟩,h_5,H⟩ := HS.bnd H
 dsimp only at H
 try simp -implicitDefEqProofs (maxSteps := 999999) [-selQ_sel,h_1,h_2,h_3,h_4,h_5]
 have hr := (HS.some H).symm; subst hr
 refine Hid.mk ⟨⟨[(2,AV.optr 0 0 31)],[(0,Ob.box [AV.int .i64 a0.id,AV.int .i64 a0.parent,AV.bool a0.group,AV.int .i64 v1.a,AV.int .i64 v1.b,AV.int .i64 v1.c,AV.int .i64 v1.d,AV.int .i64 v1.e,AV.int .i64 v1.f,AV.osl 1 0 (List.length w3) (List.length w3),AV.osl 2 0 (List.length w4) (List.length w4),AV.bool a0.even,AV.int .i64 a0.width,AV.osl 3 0 (List.length v5) (List.length v5),AV.int .i64 v6.kind,AV.int .i64 v6.first.r,AV.int .i64 v6.first.g,AV.int .i64 v6.first.b,AV.int .i64 v6.first.a,AV.int .i64 v6.last.r,AV.int .i64 v6.last.g,AV.int .i64 v6.last.b,AV.int .i64 v6.last.a,AV.int .i64 v6.from_.x,AV.int .i64 v6.from_.y,AV.int .i64 v6.to.x,AV.int .i64 v6.to.y,AV.int .i64 a0.mode,AV.int .i64 a0.fade,AV.osl 4 0 (List.length w8) (List.length w8),AV.osl 5 0 (List.length w9) (List.length w9)]),(1,Ob.arr 1 (List.map (AV.int .i64) w3) false),(2,Ob.arr 2 (List.map ePoint w4) false),(3,Ob.arr 1 (List.map (AV.int .i64) v5) false),(4,Ob.arr 1 (List.map (AV.int .i64) w8) false),(5,Ob.arr 2 (List.map ePoint w9) false)],6⟩,Wk.ofk [1,3,4,5,6,7] hk (by rfl) (by simp -implicitDefEqProofs [h_1,h_2,h_3,h_4,h_5]) (by simp -implicitDefEqProofs [h_1,h_2,h_3,h_4,h_5]),?_⟩
 try simp -implicitDefEqProofs (maxSteps := 999999) [-selQ_sel,h_1,h_2,h_3,h_4,h_5]
theorem impl_ColorOk_ok0 (hm : Try.prog.follows .mixedOrders = true) (k_impl_isByte : Sound Try.prog 93 impl_isByte_x) : Sound Try.prog 122 impl_ColorOk_x := by
 refine xOf_sound fun q r h => ?_
 revert h; revert r; revert q; intro a0 r h
 refine fn_ok E0 hm Try.func122 rfl (by decide +kernel) (by rfl) fun Γ hn hk => ?_
 dsimp only [impl_ColorOk_e,impl_ColorOk_v]
 replace hn : Γ.n = 21 := hn
 replace hk : Γ.k = 0 := hk
 have H : HS (impl_ColorOk a0) r := h
 clear h; unfold impl_ColorOk at H
 try simp -implicitDefEqProofs at H
 refine Tr.of_vc (cl := tabC [(93,impl_isByte_x)]) (E := E0) [] (tab_cons k_impl_isByte tab_nil) hm (by rw [hn]; decide +kernel) ?_
 try simp -implicitDefEqProofs (maxSteps := 999999) [-selQ_sel]
 obtain ⟨v1,h_1,H⟩ := HS.bnd H
 try simp -implicitDefEqProofs (maxSteps := 999999) [-selQ_sel,h_1]
 refine Hid.selQ (fun h_2 => ?_) (fun h_2 => ?_)
 ·replace H := HS.cnd_t h_2 H
  try simp -implicitDefEqProofs (maxSteps := 999999) [-selQ_sel,h_1,h_2]
  obtain ⟨v2,h_3,H⟩ := HS.bnd H
  try simp -implicitDefEqProofs (maxSteps := 999999) [-selQ_sel,h_1,h_2,h_3]
  refine Hid.selQ (fun h_4 => ?_) (fun h_4 => ?_)
  ·replace H := HS.cnd_t h_4 H
   try simp -implicitDefEqProofs (maxSteps := 999999) [-selQ_sel,h_1,h_2,h_3,h_4]
   obtain ⟨v3,h_5,H⟩ := HS.bnd H
   try simp -implicitDefEqProofs (maxSteps := 999999) [-selQ_sel,h_1,h_2,h_3,h_4,h_5]
   refine Hid.selQ (fun h_6 => ?_) (fun h_6 => ?_)
   ·replace H := HS.cnd_t h_6 H
    try simp -implicitDefEqProofs (maxSteps := 999999) [-selQ_sel,h_1,h_2,h_3,h_4,h_5,h_6]
    obtain ⟨v4,h_7,H⟩ := HS.bnd H
    try simp -implicitDefEqProofs (maxSteps := 999999) [-selQ_sel,h_1,h_2,h_3,h_4,h_5,h_6,h_7]
    have hr := (HS.some H).symm; subst hr
    refine Hid.mk ⟨_,Wk.refl _,?_⟩
    try simp -implicitDefEqProofs (maxSteps := 999999) [-selQ_sel,h_1,h_2,h_3,h_4,h_5,h_6,h_7]
   ·replace H := HS.cnd_f h_6 H
    try simp -implicitDefEqProofs (maxSteps := 999999) [-selQ_sel,h_1,h_2,h_3,h_4,h_5,h_6]
    have hr := (HS.some H).symm; subst hr
    refine Hid.mk ⟨_,Wk.refl _,?_⟩
    try simp -implicitDefEqProofs (maxSteps := 999999) [-selQ_sel,h_1,h_2,h_3,h_4,h_5,h_6]
  ·replace H := HS.cnd_f h_4 H
   try simp -implicitDefEqProofs (maxSteps := 999999) [-selQ_sel,h_1,h_2,h_3,h_4]
   have hr := (HS.some H).symm; subst hr
   refine Hid.mk ⟨_,Wk.refl _,?_⟩
   try simp -implicitDefEqProofs (maxSteps := 999999) [-selQ_sel,h_1,h_2,h_3,h_4]
 ·replace H := HS.cnd_f h_2 H
  try simp -implicitDefEqProofs (maxSteps := 999999) [-selQ_sel,h_1,h_2]
  have hr := (HS.some H).symm; subst hr
  refine Hid.mk ⟨_,Wk.refl _,?_⟩
  try simp -implicitDefEqProofs (maxSteps := 999999) [-selQ_sel,h_1,h_2]
theorem laws_szNode_ok0 (hm : Try.prog.follows .mixedOrders = true) (k_laws_szPath : Sound Try.prog 55 laws_szPath_x) (k_laws_szIntS : Sound Try.prog 56 laws_szIntS_x) : Sound Try.prog 17 laws_szNode_x := by
 refine xOf_sound fun q r h => ?_
 obtain ⟨a0,a1⟩ := q
 refine fn_ok E0 hm Try.func17 rfl (by decide +kernel) (by rfl) fun Γ hn hk => ?_
 dsimp only [laws_szNode_e,laws_szNode_v]
 replace hn : Γ.n = 24 := hn
 replace hk : Γ.k = 0 := hk
 have H : HS (laws_szNode a0 a1) r := h
 clear h; unfold laws_szNode at H
 try simp -implicitDefEqProofs at H
 refine Tr.of_vc (cl := tabC [(55,laws_szPath_x),(56,laws_szIntS_x)]) (E := E0) [] (tab_cons k_laws_szPath (tab_cons k_laws_szIntS tab_nil)) hm (by rw [hn]; decide +kernel) ?_
 try simp -implicitDefEqProofs (maxSteps := 999999) [-selQ_sel]
 obtain ⟨v1,h_1,H⟩ := HS.bnd H
 try simp -implicitDefEqProofs (maxSteps := 999999) [-selQ_sel,h_1]
 refine Hid.brV (fun h_2 => ?_) (fun h_2 => ?_)
 ·replace H := HS.cnd_t h_2 H
  try simp -implicitDefEqProofs (maxSteps := 999999) [-selQ_sel,h_1,h_2]
  obtain ⟨v2,h_3,H⟩ := HS.bnd H
  try simp -implicitDefEqProofs (maxSteps := 999999) [-selQ_sel,h_1,h_2,h_3]
  refine Hid.brV (fun h_4 => ?_) (fun h_4 => ?_)
  ·replace H := HS.cnd_t h_4 H
   try simp -implicitDefEqProofs (maxSteps := 999999) [-selQ_sel,h_1,h_2,h_3,h_4]
   obtain ⟨v3,h_5,H⟩ := HS.bnd H
   try simp -implicitDefEqProofs (maxSteps := 999999) [-selQ_sel,h_1,h_2,h_3,h_4,h_5]
   refine Hid.brV (fun h_6 => ?_) (fun h_6 => ?_)
   ·replace H := HS.cnd_t h_6 H
    try simp -implicitDefEqProofs (maxSteps := 999999) [-selQ_sel,h_1,h_2,h_3,h_4,h_5,h_6]
    have hr := (HS.some H).symm; subst hr
    refine Hid.mk ⟨_,Wk.refl _,?_⟩
    try simp -implicitDefEqProofs (maxSteps := 999999) [-selQ_sel,h_1,h_2,h_3,h_4,h_5,h_6]
   ·replace H := HS.cnd_f h_6 H
    try simp -implicitDefEqProofs (maxSteps := 999999) [-selQ_sel,h_1,h_2,h_3,h_4,h_5,h_6]
    have hr := (HS.some H).symm; subst hr
    refine Hid.mk ⟨_,Wk.refl _,?_⟩
    try simp -implicitDefEqProofs (maxSteps := 999999) [-selQ_sel,h_1,h_2,h_3,h_4,h_5,h_6]
  ·replace H := HS.cnd_f h_4 H
   try simp -implicitDefEqProofs (maxSteps := 999999) [-selQ_sel,h_1,h_2,h_3,h_4]
   have hr := (HS.some H).symm; subst hr
   refine Hid.mk ⟨_,Wk.refl _,?_⟩
   try simp -implicitDefEqProofs (maxSteps := 999999) [-selQ_sel,h_1,h_2,h_3,h_4]
 ·replace H := HS.cnd_f h_2 H
  try simp -implicitDefEqProofs (maxSteps := 999999) [-selQ_sel,h_1,h_2]
  have hr := (HS.some H).symm; subst hr
  refine Hid.mk ⟨_,Wk.refl _,?_⟩
  try simp -implicitDefEqProofs (maxSteps := 999999) [-selQ_sel,h_1,h_2]
theorem laws_szPath_ok0 (hm : Try.prog.follows .mixedOrders = true) (k_laws_szIntS : Sound Try.prog 56 laws_szIntS_x) (k_laws_szPointS : Sound Try.prog 97 laws_szPointS_x) : Sound Try.prog 55 laws_szPath_x := by
 refine xOf_sound fun q r h => ?_
 obtain ⟨a0,a1⟩ := q
 refine fn_ok E0 hm Try.func55 rfl (by decide +kernel) (by rfl) fun Γ hn hk => ?_
 dsimp only [laws_szPath_e,laws_szPath_v]
 replace hn : Γ.n = 18 := hn
 replace hk : Γ.k = 0 := hk
 have H : HS (laws_szPath a0 a1) r := h
 clear h; unfold laws_szPath at H
 try simp -implicitDefEqProofs at H
 refine Tr.of_vc (cl := tabC [(56,laws_szIntS_x),(97,laws_szPointS_x)]) (E := E0) [] (tab_cons k_laws_szIntS (tab_cons k_laws_szPointS tab_nil)) hm (by rw [hn]; decide +kernel) ?_
 try simp -implicitDefEqProofs (maxSteps := 999999) [-selQ_sel]
 obtain ⟨v1,h_1,H⟩ := HS.bnd H
 try simp -implicitDefEqProofs (maxSteps := 999999) [-selQ_sel,h_1]
 refine Hid.brV (fun h_2 => ?_) (fun h_2 => ?_)
 ·replace H := HS.cnd_t h_2 H
  try simp -implicitDefEqProofs (maxSteps := 999999) [-selQ_sel,h_1,h_2]
  obtain ⟨v2,h_3,H⟩ := HS.bnd H
  try simp -implicitDefEqProofs (maxSteps := 999999) [-selQ_sel,h_1,h_2,h_3]
  refine Hid.brV (fun h_4 => ?_) (fun h_4 => ?_)
  ·replace H := HS.cnd_t h_4 H
   try simp -implicitDefEqProofs (maxSteps := 999999) [-selQ_sel,h_1,h_2,h_3,h_4]
   have hr := (HS.some H).symm; subst hr
   refine Hid.mk ⟨_,Wk.refl _,?_⟩
   try simp -implicitDefEqProofs (maxSteps := 999999) [-selQ_sel,h_1,h_2,h_3,h_4]
  ·replace H := HS.cnd_f h_4 H
   try simp -implicitDefEqProofs (maxSteps := 999999) [-selQ_sel,h_1,h_2,h_3,h_4]
   have hr := (HS.some H).symm; subst hr
   refine Hid.mk ⟨_,Wk.refl _,?_⟩
   try simp -implicitDefEqProofs (maxSteps := 999999) [-selQ_sel,h_1,h_2,h_3,h_4]
 ·replace H := HS.cnd_f h_2 H
  try simp -implicitDefEqProofs (maxSteps := 999999) [-selQ_sel,h_1,h_2]
  have hr := (HS.some H).symm; subst hr
  refine Hid.mk ⟨_,Wk.refl _,?_⟩
  try simp -implicitDefEqProofs (maxSteps := 999999) [-selQ_sel,h_1,h_2]
theorem spec_NeedOf_ok0 (hm : Try.prog.follows .mixedOrders = true) (k_spec_l01In : Sound Try.prog 87 spec_l01In_x) : Sound Try.prog 124 spec_NeedOf_x := by
 refine xOf_sound fun q r h => ?_
 revert h; revert r; revert q; intro a0 r h
 refine fn_ok E0 hm Try.func124 rfl (by decide +kernel) (by rfl) fun Γ hn hk => ?_
 dsimp only [spec_NeedOf_e,spec_NeedOf_v]
 replace hn : Γ.n = 13 := hn
 replace hk : Γ.k = 0 := hk
 have H : HS (spec_NeedOf a0) r := h
 clear h; unfold spec_NeedOf at H
 try simp -implicitDefEqProofs at H
 refine Tr.of_vc (cl := tabC [(87,spec_l01In_x)]) (E := E0) [] (tab_cons k_spec_l01In tab_nil) hm (by rw [hn]; decide +kernel) ?_
 try simp -implicitDefEqProofs (maxSteps := 999999) [-selQ_sel]
 obtain ⟨v1,h_1,H⟩ := HS.bnd H
 try simp -implicitDefEqProofs (maxSteps := 999999) [-selQ_sel,h_1]
 refine Hid.brV (fun h_2 => ?_) (fun h_2 => ?_)
 ·replace H := HS.cnd_t h_2 H
  try simp -implicitDefEqProofs (maxSteps := 999999) [-selQ_sel,h_1,h_2]
  obtain ⟨v2,h_3,H⟩ := HS.bnd H
  have g_4 := idx_get h_3
  have g_5 := idx_map (e := (AV.int .i64)) h_3
  have g_6 := idx_get g_5
  simp -implicitDefEqProofs at g_5 g_6
  try simp -implicitDefEqProofs (maxSteps := 999999) [-selQ_sel,h_1,h_2,h_3,g_4,g_5,g_6]
  have hr := (HS.some H).symm; subst hr
  refine Hid.mk ⟨_,Wk.refl _,?_⟩
  try simp -implicitDefEqProofs (maxSteps := 999999) [-selQ_sel,h_1,h_2,h_3,g_4,g_5,g_6]
 ·replace H := HS.cnd_f h_2 H
  try simp -implicitDefEqProofs (maxSteps := 999999) [-selQ_sel,h_1,h_2]
  have hr := (HS.some H).symm; subst hr
  refine Hid.mk ⟨_,Wk.refl _,?_⟩
  try simp -implicitDefEqProofs (maxSteps := 999999) [-selQ_sel,h_1,h_2]
theorem laws_eqPoint_ok0 (hm : Try.prog.follows .mixedOrders = true) : Sound Try.prog 111 laws_eqPoint_x := by
 refine xOf_sound fun q r h => ?_
 obtain ⟨a0,a1⟩ := q
 refine fn_ok E0 hm Try.func111 rfl (by decide +kernel) (by rfl) fun Γ hn hk => ?_
 dsimp only [laws_eqPoint_e,laws_eqPoint_v]
 replace hn : Γ.n = 15 := hn
 replace hk : Γ.k = 0 := hk
 have H : HS (laws_eqPoint a0 a1) r := h
 clear h; unfold laws_eqPoint at H
 try simp -implicitDefEqProofs at H
 refine Tr.of_vc (cl := tabC []) (E := E0) [] tab_nil hm (by rw [hn]; decide +kernel) ?_
 try simp -implicitDefEqProofs (maxSteps := 999999) [-selQ_sel]
 refine Hid.brV (fun h_1 => ?_) (fun h_1 => ?_)
 ·replace H := HS.cnd_t h_1 H
  try simp -implicitDefEqProofs (maxSteps := 999999) [-selQ_sel,h_1]
  refine Hid.brV (fun h_2 => ?_) (fun h_2 => ?_)
  ·replace H := HS.cnd_t h_2 H
   try simp -implicitDefEqProofs (maxSteps := 999999) [-selQ_sel,h_1,h_2]
   have hr := (HS.some H).symm; subst hr
   refine Hid.mk ⟨_,Wk.refl _,?_⟩
   try simp -implicitDefEqProofs (maxSteps := 999999) [-selQ_sel,h_1,h_2]
  ·replace H := HS.cnd_f h_2 H
   try simp -implicitDefEqProofs (maxSteps := 999999) [-selQ_sel,h_1,h_2]
   have hr := (HS.some H).symm; subst hr
   refine Hid.mk ⟨_,Wk.refl _,?_⟩
   try simp -implicitDefEqProofs (maxSteps := 999999) [-selQ_sel,h_1,h_2]
 ·replace H := HS.cnd_f h_1 H
  try simp -implicitDefEqProofs (maxSteps := 999999) [-selQ_sel,h_1]
  have hr := (HS.some H).symm; subst hr
  refine Hid.mk ⟨_,Wk.refl _,?_⟩
  try simp -implicitDefEqProofs (maxSteps := 999999) [-selQ_sel,h_1]
theorem laws_toPath_ok0 (hm : Try.prog.follows .mixedOrders = true) (k_laws_toIntS : Sound Try.prog 62 laws_toIntS_x) (k_laws_toPointS : Sound Try.prog 104 laws_toPointS_x) : Sound Try.prog 61 laws_toPath_x := by
 refine xOf_sound fun q r h => ?_
 revert h; revert r; revert q; intro a0 r h
 refine fn_ok E0 hm Try.func61 rfl (by decide +kernel) (by rfl) fun Γ hn hk => ?_
 dsimp only [laws_toPath_e,laws_toPath_v]
 replace hn : Γ.n = 13 := hn
 replace hk : Γ.k = 0 := hk
 have H : HS (laws_toPath a0) r := h
 clear h; unfold laws_toPath at H
 try simp -implicitDefEqProofs at H
 refine Tr.of_vc (cl := tabC [(62,laws_toIntS_x),(104,laws_toPointS_x)]) (E := E0) [] (tab_cons k_laws_toIntS (tab_cons k_laws_toPointS tab_nil)) hm (by rw [hn]; decide +kernel) ?_
 try simp -implicitDefEqProofs (maxSteps := 999999) [-selQ_sel]
 obtain ⟨v1,h_1,H⟩ := HS.bnd H
 try simp -implicitDefEqProofs (maxSteps := 999999) [-selQ_sel,h_1]
 obtain ⟨v2,h_2,H⟩ := HS.bnd H
 try simp -implicitDefEqProofs (maxSteps := 999999) [-selQ_sel,h_1,h_2]
 have hr := (HS.some H).symm; subst hr
 refine Hid.mk ⟨⟨[(2,AV.optr 0 0 2)],[(0,Ob.box [AV.osl 1 0 (List.length v1) (List.length v1),AV.osl 2 0 (List.length v2) (List.length v2)]),(1,Ob.arr 1 (List.map (AV.int .i64) v1) false),(2,Ob.arr 2 (List.map ePoint v2) false)],3⟩,Wk.ofk [1,3,4] hk (by rfl) (by simp -implicitDefEqProofs [h_1,h_2]) (by simp -implicitDefEqProofs [h_1,h_2]),?_⟩
 try simp -implicitDefEqProofs (maxSteps := 999999) [-selQ_sel,h_1,h_2]
theorem laws_eqScene_ok0 (hm : Try.prog.follows .mixedOrders = true) (k_laws_eqNodeS : Sound Try.prog 65 laws_eqNodeS_x) : Sound Try.prog 22 laws_eqScene_x := by
 refine xOf_sound fun q r h => ?_
 obtain ⟨a0,a1⟩ := q
 refine fn_ok E0 hm Try.func22 rfl (by decide +kernel) (by rfl) fun Γ hn hk => ?_
 dsimp only [laws_eqScene_e,laws_eqScene_v]
 replace hn : Γ.n = 11 := hn
 replace hk : Γ.k = 0 := hk
 have H : HS (laws_eqScene a0 a1) r := h
 clear h; unfold laws_eqScene at H
 try simp -implicitDefEqProofs at H
 refine Tr.of_vc (cl := tabC [(65,laws_eqNodeS_x)]) (E := E0) [] (tab_cons k_laws_eqNodeS tab_nil) hm (by rw [hn]; decide +kernel) ?_
 try simp -implicitDefEqProofs (maxSteps := 999999) [-selQ_sel]
 obtain ⟨v1,h_1,H⟩ := HS.bnd H
 try simp -implicitDefEqProofs (maxSteps := 999999) [-selQ_sel,h_1]
 refine Hid.brV (fun h_2 => ?_) (fun h_2 => ?_)
 ·replace H := HS.cnd_t h_2 H
  try simp -implicitDefEqProofs (maxSteps := 999999) [-selQ_sel,h_1,h_2]
  have hr := (HS.some H).symm; subst hr
  refine Hid.mk ⟨_,Wk.refl _,?_⟩
  try simp -implicitDefEqProofs (maxSteps := 999999) [-selQ_sel,h_1,h_2]
 ·replace H := HS.cnd_f h_2 H
  try simp -implicitDefEqProofs (maxSteps := 999999) [-selQ_sel,h_1,h_2]
  have hr := (HS.some H).symm; subst hr
  refine Hid.mk ⟨_,Wk.refl _,?_⟩
  try simp -implicitDefEqProofs (maxSteps := 999999) [-selQ_sel,h_1,h_2]
theorem spec_l15NoPath_ok0 (hm : Try.prog.follows .mixedOrders = true) : Sound Try.prog 101 spec_l15NoPath_x := by
 refine xOf_sound fun q r h => ?_
 revert h; revert r; revert q; intro a0 r h
 refine fn_ok E0 hm Try.func101 rfl (by decide +kernel) (by rfl) fun Γ hn hk => ?_
 dsimp only [spec_l15NoPath_e,spec_l15NoPath_v]
 replace hn : Γ.n = 13 := hn
 replace hk : Γ.k = 0 := hk
 have H : HS (spec_l15NoPath a0) r := h
 clear h; unfold spec_l15NoPath at H
 try simp -implicitDefEqProofs at H
 refine Tr.of_vc (cl := tabC []) (E := E0) [] tab_nil hm (by rw [hn]; decide +kernel) ?_
 try simp -implicitDefEqProofs (maxSteps := 999999) [-selQ_sel]
 refine Hid.selQ (fun h_1 => ?_) (fun h_1 => ?_)
 ·replace H := HS.cnd_t h_1 H
  try simp -implicitDefEqProofs (maxSteps := 999999) [-selQ_sel,h_1]
  have hr := (HS.some H).symm; subst hr
  refine Hid.mk ⟨_,Wk.refl _,?_⟩
  try simp -implicitDefEqProofs (maxSteps := 999999) [-selQ_sel,h_1]
 ·replace H := HS.cnd_f h_1 H
  try simp -implicitDefEqProofs (maxSteps := 999999) [-selQ_sel,h_1]
  have hr := (HS.some H).symm; subst hr
  refine Hid.mk ⟨_,Wk.refl _,?_⟩
  try simp -implicitDefEqProofs (maxSteps := 999999) [-selQ_sel,h_1]
theorem spec_l01In_ok0 (hm : Try.prog.follows .mixedOrders = true) : Sound Try.prog 87 spec_l01In_x := by
 refine xOf_sound fun q r h => ?_
 obtain ⟨a0,a1,a2⟩ := q
 refine fn_ok E0 hm Try.func87 rfl (by decide +kernel) (by rfl) fun Γ hn hk => ?_
 dsimp only [spec_l01In_e,spec_l01In_v]
 replace hn : Γ.n = 15 := hn
 replace hk : Γ.k = 0 := hk
 have H : HS (spec_l01In a0 a1 a2) r := h
 clear h; unfold spec_l01In at H
 try simp -implicitDefEqProofs at H
 refine Tr.of_vc (cl := tabC []) (E := E0) [] tab_nil hm (by rw [hn]; decide +kernel) ?_
 try simp -implicitDefEqProofs (maxSteps := 999999) [-selQ_sel]
 refine Hid.selQ (fun h_1 => ?_) (fun h_1 => ?_)
 ·replace H := HS.cnd_t h_1 H
  try simp -implicitDefEqProofs (maxSteps := 999999) [-selQ_sel,h_1]
  have hr := (HS.some H).symm; subst hr
  refine Hid.mk ⟨_,Wk.refl _,?_⟩
  try simp -implicitDefEqProofs (maxSteps := 999999) [-selQ_sel,h_1]
 ·replace H := HS.cnd_f h_1 H
  try simp -implicitDefEqProofs (maxSteps := 999999) [-selQ_sel,h_1]
  have hr := (HS.some H).symm; subst hr
  refine Hid.mk ⟨_,Wk.refl _,?_⟩
  try simp -implicitDefEqProofs (maxSteps := 999999) [-selQ_sel,h_1]
theorem impl_NodeAt_ok0 (hm : Try.prog.follows .mixedOrders = true) (k_slices_IndexFunc_Node_NodeAt_1 : Sound Try.prog 48 slices_IndexFunc_Node_NodeAt_1_x) : Sound Try.prog 13 impl_NodeAt_x := by
 refine xOf_sound fun q r h => ?_
 obtain ⟨a0,a1⟩ := q
 refine fn_ok E0 hm Try.func13 rfl (by decide +kernel) (by rfl) fun Γ hn hk => ?_
 dsimp only [impl_NodeAt_e,impl_NodeAt_v]
 replace hn : Γ.n = 9 := hn
 replace hk : Γ.k = 0 := hk
 have H : HS (impl_NodeAt a0 a1) r := h
 clear h; unfold impl_NodeAt at H
 try simp -implicitDefEqProofs at H
 refine Tr.of_vc (cl := tabC [(48,slices_IndexFunc_Node_NodeAt_1_x)]) (E := E0) [] (tab_cons k_slices_IndexFunc_Node_NodeAt_1 tab_nil) hm (by rw [hn]; decide +kernel) ?_
 try simp -implicitDefEqProofs (maxSteps := 999999) [-selQ_sel]
 obtain ⟨v1,h_1,H⟩ := HS.bnd H
 try simp -implicitDefEqProofs (maxSteps := 999999) [-selQ_sel,h_1]
 have hr := (HS.some H).symm; subst hr
 refine Hid.mk ⟨_,Wk.refl _,?_⟩
 try simp -implicitDefEqProofs (maxSteps := 999999) [-selQ_sel,h_1]
theorem impl_DropNode_1R_ok0 (hm : Try.prog.follows .mixedOrders = true) (k_slices_Contains_int : Sound Try.prog 37 slices_Contains_int_x) : Sound Try.prog 77 impl_DropNode_1R_x := by
 refine xOf_sound fun q r h => ?_
 obtain ⟨a0,a1⟩ := q
 refine fn_ok E0 hm Try.func77 rfl (by decide +kernel) (by rfl) fun Γ hn hk => ?_
 dsimp only [impl_DropNode_1R_e,impl_DropNode_1R_v]
 replace hn : Γ.n = 8 := hn
 replace hk : Γ.k = 0 := hk
 have H : HS (impl_DropNode_1R a0 a1) r := h
 clear h; unfold impl_DropNode_1R at H
 try simp -implicitDefEqProofs at H
 refine Tr.of_vc (cl := tabC [(37,slices_Contains_int_x)]) (E := E0) [] (tab_cons k_slices_Contains_int tab_nil) hm (by rw [hn]; decide +kernel) ?_
 try simp -implicitDefEqProofs (maxSteps := 999999) [-selQ_sel]
 obtain ⟨v1,h_1,H⟩ := HS.bnd H
 try simp -implicitDefEqProofs (maxSteps := 999999) [-selQ_sel,h_1]
 have hr := (HS.some H).symm; subst hr
 refine Hid.mk ⟨_,Wk.refl _,?_⟩
 try simp -implicitDefEqProofs (maxSteps := 999999) [-selQ_sel,h_1]
theorem spec_l15NoPaint_ok0 (hm : Try.prog.follows .mixedOrders = true) : Sound Try.prog 102 spec_l15NoPaint_x := by
 refine xOf_sound fun q r h => ?_
 revert h; revert r; revert q; intro a0 r h
 refine fn_ok E0 hm Try.func102 rfl (by decide +kernel) (by rfl) fun Γ hn hk => ?_
 dsimp only [spec_l15NoPaint_e,spec_l15NoPaint_v]
 replace hn : Γ.n = 6 := hn
 replace hk : Γ.k = 0 := hk
 have H : HS (spec_l15NoPaint a0) r := h
 clear h; unfold spec_l15NoPaint at H
 try simp -implicitDefEqProofs at H
 refine Tr.of_vc (cl := tabC []) (E := E0) [] tab_nil hm (by rw [hn]; decide +kernel) ?_
 try simp -implicitDefEqProofs (maxSteps := 999999) [-selQ_sel]
 have hr := (HS.some H).symm; subst hr
 refine Hid.mk ⟨_,Wk.refl _,?_⟩
 try simp -implicitDefEqProofs (maxSteps := 999999) [-selQ_sel]
theorem laws_toPoint_ok0 (hm : Try.prog.follows .mixedOrders = true) : Sound Try.prog 106 laws_toPoint_x := by
 refine xOf_sound fun q r h => ?_
 revert h; revert r; revert q; intro a0 r h
 refine fn_ok E0 hm Try.func106 rfl (by decide +kernel) (by rfl) fun Γ hn hk => ?_
 dsimp only [laws_toPoint_e,laws_toPoint_v]
 replace hn : Γ.n = 11 := hn
 replace hk : Γ.k = 0 := hk
 have H : HS (laws_toPoint a0) r := h
 clear h; unfold laws_toPoint at H
 try simp -implicitDefEqProofs at H
 refine Tr.of_vc (cl := tabC []) (E := E0) [] tab_nil hm (by rw [hn]; decide +kernel) ?_
 try simp -implicitDefEqProofs (maxSteps := 999999) [-selQ_sel]
 have hr := (HS.some H).symm; subst hr
 refine Hid.mk ⟨_,Wk.refl _,?_⟩
 try simp -implicitDefEqProofs (maxSteps := 999999) [-selQ_sel]
theorem impl_NodeAt_1_ok0 (hm : Try.prog.follows .mixedOrders = true) : Sound Try.prog 49 impl_NodeAt_1_x := by
 refine xOf_sound fun q r h => ?_
 obtain ⟨a0,a1⟩ := q
 refine fn_ok E0 hm Try.func49 rfl (by decide +kernel) (by rfl) fun Γ hn hk => ?_
 dsimp only [impl_NodeAt_1_e,impl_NodeAt_1_v]
 replace hn : Γ.n = 8 := hn
 replace hk : Γ.k = 0 := hk
 have H : HS (impl_NodeAt_1 a0 a1) r := h
 clear h; unfold impl_NodeAt_1 at H
 try simp -implicitDefEqProofs at H
 refine Tr.of_vc (cl := tabC []) (E := E0) [] tab_nil hm (by rw [hn]; decide +kernel) ?_
 try simp -implicitDefEqProofs (maxSteps := 999999) [-selQ_sel]
 have hr := (HS.some H).symm; subst hr
 refine Hid.mk ⟨_,Wk.refl _,?_⟩
 try simp -implicitDefEqProofs (maxSteps := 999999) [-selQ_sel]
end Go.Proofs.Ytapchldnmkfkoab.Am
