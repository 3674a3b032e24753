import Derived.Test.YtapchldnmkfkoabDoorAmRsMo
set_option linter.unusedVariables false
set_option linter.unusedSimpArgs false
set_option linter.unusedSectionVars false
namespace Go.Proofs.YtapchldnmkfkoabDoor.Am
open Go Go.Proofs
set_option maxRecDepth 100000
set_option linter.unusedSimpArgs false
set_option linter.unusedVariables false
set_option maxHeartbeats 4000000
theorem laws_heldDeedS_ok0 (hm : Tryd.prog.follows .mixedOrders = true) (k_laws_heldIntS : Sound Tryd.prog 20 laws_heldIntS_x) (k_laws_heldPointS : Sound Tryd.prog 21 laws_heldPointS_x) : Sound Tryd.prog 8 laws_heldDeedS_x := by
 refine xOf_sound fun q r h => ?_
 obtain ⟨a0,a1⟩ := q
 refine fn_ok E0 hm Tryd.func8 rfl (by decide +kernel) (by rfl) fun Γ hn hk => ?_
 dsimp only [laws_heldDeedS_e,laws_heldDeedS_v]
 replace hn : Γ.n = 416 := hn
 replace hk : Γ.k = 0 := hk
 have H : HS (laws_heldDeedS a0 a1) r := h
 clear h; unfold laws_heldDeedS at H
 try simp -implicitDefEqProofs at H
 refine Tr.of_vc (cl := tabC [(20,laws_heldIntS_x),(21,laws_heldPointS_x)]) (E := E0) [] (tab_cons k_laws_heldIntS (tab_cons k_laws_heldPointS tab_nil)) hm (by rw [hn]; decide +kernel) ?_
 try simp -implicitDefEqProofs (maxSteps := 999999) [-selQ_sel]
 obtain ⟨q,h_1,H⟩ := HS.bnd H
 refine Hid.mk (Tr.weak (s' := (laws_heldDeedS_l0_S a0) (a1,0)) (Wk.ofk [] hk (by rfl) (by simp -implicitDefEqProofs [laws_heldDeedS_l0_S]) (by simp -implicitDefEqProofs [laws_heldDeedS_l0_S])) ?_)
 refine wp_loop_of (S := (laws_heldDeedS_l0_S a0)) (f := (laws_heldDeedS_l0 a0)) (xt := (laws_heldDeedS_l0_X a0)) ?_ ?_ h_1 ?_
 ·intro q; rcases q with y15 | ⟨⟩ <;> simp [laws_heldDeedS_l0_X]
 ·clear H h_1 q
  rintro ⟨x7,x8⟩ o R hf hR
  have H : HS (laws_heldDeedS_l0 a0 (x7,x8)) o := hf
  clear hf; unfold laws_heldDeedS_l0 at H
  try simp -implicitDefEqProofs at H
  refine Tr.of_vc (cl := tabC [(20,laws_heldIntS_x),(21,laws_heldPointS_x)]) (E := E0) [] (tab_cons k_laws_heldIntS (tab_cons k_laws_heldPointS tab_nil)) hm (by rw [hn]; decide +kernel) ?_
  try simp -implicitDefEqProofs (maxSteps := 999999) [-selQ_sel,laws_heldDeedS_l0_S]
  refine Hid.brV (fun h_2 => ?_) (fun h_2 => ?_)
  ·replace H := HS.cnd_t h_2 H
   try simp -implicitDefEqProofs (maxSteps := 999999) [-selQ_sel,h_2]
   have hr := (HS.some H).symm; subst hr
   exact Hid.mk ⟨(laws_heldDeedS_l0_X a0 (.inl x7)).2,Wk.ofk [] hk (by rfl) (by simp -implicitDefEqProofs [laws_heldDeedS_l0_X,h_2]) (by simp -implicitDefEqProofs [laws_heldDeedS_l0_X,h_2]),hR⟩
  ·replace H := HS.cnd_f h_2 H
   try simp -implicitDefEqProofs (maxSteps := 999999) [-selQ_sel,h_2]
   obtain ⟨v9,h_3,H⟩ := HS.bnd H
   try simp -implicitDefEqProofs (maxSteps := 999999) [-selQ_sel,h_2,h_3]
   refine Hid.brV (fun h_4 => ?_) (fun h_4 => ?_)
   ·replace H := HS.cnd_t h_4 H
    try simp -implicitDefEqProofs (maxSteps := 999999) [-selQ_sel,h_2,h_3,h_4]
    refine Hid.brV (fun h_5 => ?_) (fun h_5 => ?_)
    ·replace H := HS.cnd_t h_5 H
     try simp -implicitDefEqProofs (maxSteps := 999999) [-selQ_sel,h_2,h_3,h_4,h_5]
     refine Hid.brV (fun h_6 => ?_) (fun h_6 => ?_)
     ·replace H := HS.cnd_t h_6 H
      try simp -implicitDefEqProofs (maxSteps := 999999) [-selQ_sel,h_2,h_3,h_4,h_5,h_6]
      refine Hid.brV (fun h_7 => ?_) (fun h_7 => ?_)
      ·replace H := HS.cnd_t h_7 H
       try simp -implicitDefEqProofs (maxSteps := 999999) [-selQ_sel,h_2,h_3,h_4,h_5,h_6,h_7]
       refine Hid.brV (fun h_8 => ?_) (fun h_8 => ?_)
       ·replace H := HS.cnd_t h_8 H
        try simp -implicitDefEqProofs (maxSteps := 999999) [-selQ_sel,h_2,h_3,h_4,h_5,h_6,h_7,h_8]
        refine Hid.brV (fun h_9 => ?_) (fun h_9 => ?_)
        ·replace H := HS.cnd_t h_9 H
         try simp -implicitDefEqProofs (maxSteps := 999999) [-selQ_sel,h_2,h_3,h_4,h_5,h_6,h_7,h_8,h_9]
         refine Hid.brV (fun h_10 => ?_) (fun h_10 => ?_)
         ·replace H := HS.cnd_t h_10 H
          try simp -implicitDefEqProofs (maxSteps := 999999) [-selQ_sel,h_2,h_3,h_4,h_5,h_6,h_7,h_8,h_9,h_10]
          refine Hid.brV (fun h_11 => ?_) (fun h_11 => ?_)
          ·replace H := HS.cnd_t h_11 H
           try simp -implicitDefEqProofs (maxSteps := 999999) [-selQ_sel,h_2,h_3,h_4,h_5,h_6,h_7,h_8,h_9,h_10,h_11]
           refine Hid.brV (fun h_12 => ?_) (fun h_12 => ?_)
           ·replace H := HS.cnd_t h_12 H
            try simp -implicitDefEqProofs (maxSteps := 999999) [-selQ_sel,h_2,h_3,h_4,h_5,h_6,h_7,h_8,h_9,h_10,h_11,h_12]
            refine Hid.brV (fun h_13 => ?_) (fun h_13 => ?_)
            ·replace H := HS.cnd_t h_13 H
             try simp -implicitDefEqProofs (maxSteps := 999999) [-selQ_sel,h_2,h_3,h_4,h_5,h_6,h_7,h_8,h_9,h_10,h_11,h_12,h_13]
             obtain ⟨v10,h_14,H⟩ := HS.bnd H
             try simp -implicitDefEqProofs (maxSteps := 999999) [-selQ_sel,h_2,h_3,h_4,h_5,h_6,h_7,h_8,h_9,h_10,h_11,h_12,h_13,h_14]
             refine Hid.brV (fun h_15 => ?_) (fun h_15 => ?_)
             ·replace H := HS.cnd_t h_15 H
              try simp -implicitDefEqProofs (maxSteps := 999999) [-selQ_sel,h_2,h_3,h_4,h_5,h_6,h_7,h_8,h_9,h_10,h_11,h_12,h_13,h_14,h_15]
              obtain ⟨v11,h_16,H⟩ := HS.bnd H
              try simp -implicitDefEqProofs (maxSteps := 999999) [-selQ_sel,h_2,h_3,h_4,h_5,h_6,h_7,h_8,h_9,h_10,h_11,h_12,h_13,h_14,h_15,h_16]
              refine Hid.brV (fun h_17 => ?_) (fun h_17 => ?_)
              ·replace H := HS.cnd_t h_17 H
               try simp -implicitDefEqProofs (maxSteps := 999999) [-selQ_sel,h_2,h_3,h_4,h_5,h_6,h_7,h_8,h_9,h_10,h_11,h_12,h_13,h_14,h_15,h_16,h_17]
               refine Hid.brV (fun h_18 => ?_) (fun h_18 => ?_)
               ·replace H := HS.cnd_t h_18 H
                try simp -implicitDefEqProofs (maxSteps := 999999) [-selQ_sel,h_2,h_3,h_4,h_5,h_6,h_7,h_8,h_9,h_10,h_11,h_12,h_13,h_14,h_15,h_16,h_17,h_18]
                refine Hid.brV (fun h_19 => ?_) (fun h_19 => ?_)
                ·replace H := HS.cnd_t h_19 H
                 try simp -implicitDefEqProofs (maxSteps := 999999) [-selQ_sel,h_2,h_3,h_4,h_5,h_6,h_7,h_8,h_9,h_10,h_11,h_12,h_13,h_14,h_15,h_16,h_17,h_18,h_19]
                 obtain ⟨v12,h_20,H⟩ := HS.bnd H
                 try simp -implicitDefEqProofs (maxSteps := 999999) [-selQ_sel,h_2,h_3,h_4,h_5,h_6,h_7,h_8,h_9,h_10,h_11,h_12,h_13,h_14,h_15,h_16,h_17,h_18,h_19,h_20]
                 refine Hid.brV (fun h_21 => ?_) (fun h_21 => ?_)
                 ·replace H := HS.cnd_t h_21 H
                  try simp -implicitDefEqProofs (maxSteps := 999999) [-selQ_sel,h_2,h_3,h_4,h_5,h_6,h_7,h_8,h_9,h_10,h_11,h_12,h_13,h_14,h_15,h_16,h_17,h_18,h_19,h_20,h_21]
                  refine Hid.brV (fun h_22 => ?_) (fun h_22 => ?_)
                  ·replace H := HS.cnd_t h_22 H
                   try simp -implicitDefEqProofs (maxSteps := 999999) [-selQ_sel,h_2,h_3,h_4,h_5,h_6,h_7,h_8,h_9,h_10,h_11,h_12,h_13,h_14,h_15,h_16,h_17,h_18,h_19,h_20,h_21,h_22]
                   refine Hid.brV (fun h_23 => ?_) (fun h_23 => ?_)
                   ·replace H := HS.cnd_t h_23 H
                    try simp -implicitDefEqProofs (maxSteps := 999999) [-selQ_sel,h_2,h_3,h_4,h_5,h_6,h_7,h_8,h_9,h_10,h_11,h_12,h_13,h_14,h_15,h_16,h_17,h_18,h_19,h_20,h_21,h_22,h_23]
                    refine Hid.brV (fun h_24 => ?_) (fun h_24 => ?_)
                    ·replace H := HS.cnd_t h_24 H
                     try simp -implicitDefEqProofs (maxSteps := 999999) [-selQ_sel,h_2,h_3,h_4,h_5,h_6,h_7,h_8,h_9,h_10,h_11,h_12,h_13,h_14,h_15,h_16,h_17,h_18,h_19,h_20,h_21,h_22,h_23,h_24]
                     refine Hid.brV (fun h_25 => ?_) (fun h_25 => ?_)
                     ·replace H := HS.cnd_t h_25 H
                      try simp -implicitDefEqProofs (maxSteps := 999999) [-selQ_sel,h_2,h_3,h_4,h_5,h_6,h_7,h_8,h_9,h_10,h_11,h_12,h_13,h_14,h_15,h_16,h_17,h_18,h_19,h_20,h_21,h_22,h_23,h_24,h_25]
                      refine Hid.brV (fun h_26 => ?_) (fun h_26 => ?_)
                      ·replace H := HS.cnd_t h_26 H
                       try simp -implicitDefEqProofs (maxSteps := 999999) [-selQ_sel,h_2,h_3,h_4,h_5,h_6,h_7,h_8,h_9,h_10,h_11,h_12,h_13,h_14,h_15,h_16,h_17,h_18,h_19,h_20,h_21,h_22,h_23,h_24,h_25,h_26]
                       refine Hid.brV (fun h_27 => ?_) (fun h_27 => ?_)
                       ·replace H := HS.cnd_t h_27 H
                        try simp -implicitDefEqProofs (maxSteps := 999999) [-selQ_sel,h_2,h_3,h_4,h_5,h_6,h_7,h_8,h_9,h_10,h_11,h_12,h_13,h_14,h_15,h_16,h_17,h_18,h_19,h_20,h_21,h_22,h_23,h_24,h_25,h_26,h_27]
                        refine Hid.brV (fun h_28 => ?_) (fun h_28 => ?_)
                        ·replace H := HS.cnd_t h_28 H
                         try simp -implicitDefEqProofs (maxSteps := 999999) [-selQ_sel,h_2,h_3,h_4,h_5,h_6,h_7,h_8,h_9,h_10,h_11,h_12,h_13,h_14,h_15,h_16,h_17,h_18,h_19,h_20,h_21,h_22,h_23,h_24,h_25,h_26,h_27,h_28]
                         refine Hid.brV (fun h_29 => ?_) (fun h_29 => ?_)
                         ·replace H := HS.cnd_t h_29 H
                          try simp -implicitDefEqProofs (maxSteps := 999999) [-selQ_sel,h_2,h_3,h_4,h_5,h_6,h_7,h_8,h_9,h_10,h_11,h_12,h_13,h_14,h_15,h_16,h_17,h_18,h_19,h_20,h_21,h_22,h_23,h_24,h_25,h_26,h_27,h_28,h_29]
                          refine Hid.brV (fun h_30 => ?_) (fun h_30 => ?_)
                          ·replace H := HS.cnd_t h_30 H
                           try simp -implicitDefEqProofs (maxSteps := 999999) [-selQ_sel,h_2,h_3,h_4,h_5,h_6,h_7,h_8,h_9,h_10,h_11,h_12,h_13,h_14,h_15,h_16,h_17,h_18,h_19,h_20,h_21,h_22,h_23,h_24,h_25,h_26,h_27,h_28,h_29,h_30]
                           refine Hid.brV (fun h_31 => ?_) (fun h_31 => ?_)
                           ·replace H := HS.cnd_t h_31 H
                            try simp -implicitDefEqProofs (maxSteps := 999999) [-selQ_sel,h_2,h_3,h_4,h_5,h_6,h_7,h_8,h_9,h_10,h_11,h_12,h_13,h_14,h_15,h_16,h_17,h_18,h_19,h_20,h_21,h_22,h_23,h_24,h_25,h_26,h_27,h_28,h_29,h_30,h_31]
                            refine Hid.brV (fun h_32 => ?_) (fun h_32 => ?_)
                            ·replace H := HS.cnd_t h_32 H
                             try simp -implicitDefEqProofs (maxSteps := 999999) [-selQ_sel,h_2,h_3,h_4,h_5,h_6,h_7,h_8,h_9,h_10,h_11,h_12,h_13,h_14,h_15,h_16,h_17,h_18,h_19,h_20,h_21,h_22,h_23,h_24,h_25,h_26,h_27,h_28,h_29,h_30,h_31,h_32]
                             refine Hid.brV (fun h_33 => ?_) (fun h_33 => ?_)
                             ·replace H := HS.cnd_t h_33 H
                              try simp -implicitDefEqProofs (maxSteps := 999999) [-selQ_sel,h_2,h_3,h_4,h_5,h_6,h_7,h_8,h_9,h_10,h_11,h_12,h_13,h_14,h_15,h_16,h_17,h_18,h_19,h_20,h_21,h_22,h_23,h_24,h_25,h_26,h_27,h_28,h_29,h_30,h_31,h_32,h_33]
                              refine Hid.brV (fun h_34 => ?_) (fun h_34 => ?_)
                              ·replace H := HS.cnd_t h_34 H
                               try simp -implicitDefEqProofs (maxSteps := 999999) [-selQ_sel,h_2,h_3,h_4,h_5,h_6,h_7,h_8,h_9,h_10,h_11,h_12,h_13,h_14,h_15,h_16,h_17,h_18,h_19,h_20,h_21,h_22,h_23,h_24,h_25,h_26,h_27,h_28,h_29,h_30,h_31,h_32,h_33,h_34]
                               refine Hid.brV (fun h_35 => ?_) (fun h_35 => ?_)
                               ·replace H := HS.cnd_t h_35 H
                                try simp -implicitDefEqProofs (maxSteps := 999999) [-selQ_sel,h_2,h_3,h_4,h_5,h_6,h_7,h_8,h_9,h_10,h_11,h_12,h_13,h_14,h_15,h_16,h_17,h_18,h_19,h_20,h_21,h_22,h_23,h_24,h_25,h_26,h_27,h_28,h_29,h_30,h_31,h_32,h_33,h_34,h_35]
                                refine Hid.brV (fun h_36 => ?_) (fun h_36 => ?_)
                                ·replace H := HS.cnd_t h_36 H
                                 try simp -implicitDefEqProofs (maxSteps := 999999) [-selQ_sel,h_2,h_3,h_4,h_5,h_6,h_7,h_8,h_9,h_10,h_11,h_12,h_13,h_14,h_15,h_16,h_17,h_18,h_19,h_20,h_21,h_22,h_23,h_24,h_25,h_26,h_27,h_28,h_29,h_30,h_31,h_32,h_33,h_34,h_35,h_36]
                                 obtain ⟨v13,h_37,H⟩ := HS.bnd H
                                 try simp -implicitDefEqProofs (maxSteps := 999999) [-selQ_sel,h_2,h_3,h_4,h_5,h_6,h_7,h_8,h_9,h_10,h_11,h_12,h_13,h_14,h_15,h_16,h_17,h_18,h_19,h_20,h_21,h_22,h_23,h_24,h_25,h_26,h_27,h_28,h_29,h_30,h_31,h_32,h_33,h_34,h_35,h_36,h_37]
                                 refine Hid.brV (fun h_38 => ?_) (fun h_38 => ?_)
                                 ·replace H := HS.cnd_t h_38 H
                                  try simp -implicitDefEqProofs (maxSteps := 999999) [-selQ_sel,h_2,h_3,h_4,h_5,h_6,h_7,h_8,h_9,h_10,h_11,h_12,h_13,h_14,h_15,h_16,h_17,h_18,h_19,h_20,h_21,h_22,h_23,h_24,h_25,h_26,h_27,h_28,h_29,h_30,h_31,h_32,h_33,h_34,h_35,h_36,h_37,h_38]
                                  obtain ⟨v14,h_39,H⟩ := HS.bnd H
                                  try simp -implicitDefEqProofs (maxSteps := 999999) [-selQ_sel,h_2,h_3,h_4,h_5,h_6,h_7,h_8,h_9,h_10,h_11,h_12,h_13,h_14,h_15,h_16,h_17,h_18,h_19,h_20,h_21,h_22,h_23,h_24,h_25,h_26,h_27,h_28,h_29,h_30,h_31,h_32,h_33,h_34,h_35,h_36,h_37,h_38,h_39]
                                  refine Hid.brV (fun h_40 => ?_) (fun h_40 => ?_)
                                  ·replace H := HS.cnd_t h_40 H
                                   try simp -implicitDefEqProofs (maxSteps := 999999) [-selQ_sel,h_2,h_3,h_4,h_5,h_6,h_7,h_8,h_9,h_10,h_11,h_12,h_13,h_14,h_15,h_16,h_17,h_18,h_19,h_20,h_21,h_22,h_23,h_24,h_25,h_26,h_27,h_28,h_29,h_30,h_31,h_32,h_33,h_34,h_35,h_36,h_37,h_38,h_39,h_40]
                                   refine Hid.brV (fun h_41 => ?_) (fun h_41 => ?_)
                                   ·replace H := HS.cnd_t h_41 H
                                    try simp -implicitDefEqProofs (maxSteps := 999999) [-selQ_sel,h_2,h_3,h_4,h_5,h_6,h_7,h_8,h_9,h_10,h_11,h_12,h_13,h_14,h_15,h_16,h_17,h_18,h_19,h_20,h_21,h_22,h_23,h_24,h_25,h_26,h_27,h_28,h_29,h_30,h_31,h_32,h_33,h_34,h_35,h_36,h_37,h_38,h_39,h_40,h_41]
                                    refine Hid.brV (fun h_42 => ?_) (fun h_42 => ?_)
                                    ·replace H := HS.cnd_t h_42 H
                                     try simp -implicitDefEqProofs (maxSteps := 999999) [-selQ_sel,h_2,h_3,h_4,h_5,h_6,h_7,h_8,h_9,h_10,h_11,h_12,h_13,h_14,h_15,h_16,h_17,h_18,h_19,h_20,h_21,h_22,h_23,h_24,h_25,h_26,h_27,h_28,h_29,h_30,h_31,h_32,h_33,h_34,h_35,h_36,h_37,h_38,h_39,h_40,h_41,h_42]
                                     refine Hid.brV (fun h_43 => ?_) (fun h_43 => ?_)
                                     ·replace H := HS.cnd_t h_43 H
                                      try simp -implicitDefEqProofs (maxSteps := 999999) [-selQ_sel,h_2,h_3,h_4,h_5,h_6,h_7,h_8,h_9,h_10,h_11,h_12,h_13,h_14,h_15,h_16,h_17,h_18,h_19,h_20,h_21,h_22,h_23,h_24,h_25,h_26,h_27,h_28,h_29,h_30,h_31,h_32,h_33,h_34,h_35,h_36,h_37,h_38,h_39,h_40,h_41,h_42,h_43]
                                      refine Hid.brV (fun h_44 => ?_) (fun h_44 => ?_)
                                      ·replace H := HS.cnd_t h_44 H
                                       try simp -implicitDefEqProofs (maxSteps := 999999) [-selQ_sel,h_2,h_3,h_4,h_5,h_6,h_7,h_8,h_9,h_10,h_11,h_12,h_13,h_14,h_15,h_16,h_17,h_18,h_19,h_20,h_21,h_22,h_23,h_24,h_25,h_26,h_27,h_28,h_29,h_30,h_31,h_32,h_33,h_34,h_35,h_36,h_37,h_38,h_39,h_40,h_41,h_42,h_43,h_44]
                                       refine Hid.brV (fun h_45 => ?_) (fun h_45 => ?_)
                                       ·replace H := HS.cnd_t h_45 H
                                        try simp -implicitDefEqProofs (maxSteps := 999999) [-selQ_sel,h_2,h_3,h_4,h_5,h_6,h_7,h_8,h_9,h_10,h_11,h_12,h_13,h_14,h_15,h_16,h_17,h_18,h_19,h_20,h_21,h_22,h_23,h_24,h_25,h_26,h_27,h_28,h_29,h_30,h_31,h_32,h_33,h_34,h_35,h_36,h_37,h_38,h_39,h_40,h_41,h_42,h_43,h_44,h_45]
                                        have hr := (HS.some H).symm; subst hr
                                        exact Hid.mk ⟨laws_heldDeedS_l0_S a0 ((IntKind.i64.wrap ((IntKind.i64.wrap ((IntKind.i64.wrap ((IntKind.i64.wrap ((IntKind.i64.wrap (v14 + 1)) + 1)) + 1)) + 1)) + 1)),(IntKind.i64.wrap (x8 + 1))),Wk.ofk [] hk (by rfl) (by simp -implicitDefEqProofs [laws_heldDeedS_l0_S,h_2,h_3,h_4,h_5,h_6,h_7,h_8,h_9,h_10,h_11,h_12,h_13,h_14,h_15,h_16,h_17,h_18,h_19,h_20,h_21,h_22,h_23,h_24,h_25,h_26,h_27,h_28,h_29,h_30,h_31,h_32,h_33,h_34,h_35,h_36,h_37,h_38,h_39,h_40,h_41,h_42,h_43,h_44,h_45]) (by simp -implicitDefEqProofs [laws_heldDeedS_l0_S,h_2,h_3,h_4,h_5,h_6,h_7,h_8,h_9,h_10,h_11,h_12,h_13,h_14,h_15,h_16,h_17,h_18,h_19,h_20,h_21,h_22,h_23,h_24,h_25,h_26,h_27,h_28,h_29,h_30,h_31,h_32,h_33,h_34,h_35,h_36,h_37,h_38,h_39,h_40,h_41,h_42,h_43,h_44,h_45]),hR⟩
                                       ·replace H := HS.cnd_f h_45 H
                                        try simp -implicitDefEqProofs (maxSteps := 999999) [-selQ_sel,h_2,h_3,h_4,h_5,h_6,h_7,h_8,h_9,h_10,h_11,h_12,h_13,h_14,h_15,h_16,h_17,h_18,h_19,h_20,h_21,h_22,h_23,h_24,h_25,h_26,h_27,h_28,h_29,h_30,h_31,h_32,h_33,h_34,h_35,h_36,h_37,h_38,h_39,h_40,h_41,h_42,h_43,h_44,h_45]
                                        have hr := (HS.some H).symm; subst hr
                                        exact Hid.mk ⟨(laws_heldDeedS_l0_X a0 (.inr ())).2,Wk.ofk [] hk (by rfl) (by simp -implicitDefEqProofs [laws_heldDeedS_l0_X,h_2,h_3,h_4,h_5,h_6,h_7,h_8,h_9,h_10,h_11,h_12,h_13,h_14,h_15,h_16,h_17,h_18,h_19,h_20,h_21,h_22,h_23,h_24,h_25,h_26,h_27,h_28,h_29,h_30,h_31,h_32,h_33,h_34,h_35,h_36,h_37,h_38,h_39,h_40,h_41,h_42,h_43,h_44,h_45]) (by simp -implicitDefEqProofs [laws_heldDeedS_l0_X,h_2,h_3,h_4,h_5,h_6,h_7,h_8,h_9,h_10,h_11,h_12,h_13,h_14,h_15,h_16,h_17,h_18,h_19,h_20,h_21,h_22,h_23,h_24,h_25,h_26,h_27,h_28,h_29,h_30,h_31,h_32,h_33,h_34,h_35,h_36,h_37,h_38,h_39,h_40,h_41,h_42,h_43,h_44,h_45]),hR⟩
                                      ·replace H := HS.cnd_f h_44 H
                                       try simp -implicitDefEqProofs (maxSteps := 999999) [-selQ_sel,h_2,h_3,h_4,h_5,h_6,h_7,h_8,h_9,h_10,h_11,h_12,h_13,h_14,h_15,h_16,h_17,h_18,h_19,h_20,h_21,h_22,h_23,h_24,h_25,h_26,h_27,h_28,h_29,h_30,h_31,h_32,h_33,h_34,h_35,h_36,h_37,h_38,h_39,h_40,h_41,h_42,h_43,h_44]
                                       have hr := (HS.some H).symm; subst hr
                                       exact Hid.mk ⟨(laws_heldDeedS_l0_X a0 (.inr ())).2,Wk.ofk [] hk (by rfl) (by simp -implicitDefEqProofs [laws_heldDeedS_l0_X,h_2,h_3,h_4,h_5,h_6,h_7,h_8,h_9,h_10,h_11,h_12,h_13,h_14,h_15,h_16,h_17,h_18,h_19,h_20,h_21,h_22,h_23,h_24,h_25,h_26,h_27,h_28,h_29,h_30,h_31,h_32,h_33,h_34,h_35,h_36,h_37,h_38,h_39,h_40,h_41,h_42,h_43,h_44]) (by simp -implicitDefEqProofs [laws_heldDeedS_l0_X,h_2,h_3,h_4,h_5,h_6,h_7,h_8,h_9,h_10,h_11,h_12,h_13,h_14,h_15,h_16,h_17,h_18,h_19,h_20,h_21,h_22,h_23,h_24,h_25,h_26,h_27,h_28,h_29,h_30,h_31,h_32,h_33,h_34,h_35,h_36,h_37,h_38,h_39,h_40,h_41,h_42,h_43,h_44]),hR⟩
                                     ·replace H := HS.cnd_f h_43 H
                                      try simp -implicitDefEqProofs (maxSteps := 999999) [-selQ_sel,h_2,h_3,h_4,h_5,h_6,h_7,h_8,h_9,h_10,h_11,h_12,h_13,h_14,h_15,h_16,h_17,h_18,h_19,h_20,h_21,h_22,h_23,h_24,h_25,h_26,h_27,h_28,h_29,h_30,h_31,h_32,h_33,h_34,h_35,h_36,h_37,h_38,h_39,h_40,h_41,h_42,h_43]
                                      have hr := (HS.some H).symm; subst hr
                                      exact Hid.mk ⟨(laws_heldDeedS_l0_X a0 (.inr ())).2,Wk.ofk [] hk (by rfl) (by simp -implicitDefEqProofs [laws_heldDeedS_l0_X,h_2,h_3,h_4,h_5,h_6,h_7,h_8,h_9,h_10,h_11,h_12,h_13,h_14,h_15,h_16,h_17,h_18,h_19,h_20,h_21,h_22,h_23,h_24,h_25,h_26,h_27,h_28,h_29,h_30,h_31,h_32,h_33,h_34,h_35,h_36,h_37,h_38,h_39,h_40,h_41,h_42,h_43]) (by simp -implicitDefEqProofs [laws_heldDeedS_l0_X,h_2,h_3,h_4,h_5,h_6,h_7,h_8,h_9,h_10,h_11,h_12,h_13,h_14,h_15,h_16,h_17,h_18,h_19,h_20,h_21,h_22,h_23,h_24,h_25,h_26,h_27,h_28,h_29,h_30,h_31,h_32,h_33,h_34,h_35,h_36,h_37,h_38,h_39,h_40,h_41,h_42,h_43]),hR⟩
                                    ·replace H := HS.cnd_f h_42 H
                                     try simp -implicitDefEqProofs (maxSteps := 999999) [-selQ_sel,h_2,h_3,h_4,h_5,h_6,h_7,h_8,h_9,h_10,h_11,h_12,h_13,h_14,h_15,h_16,h_17,h_18,h_19,h_20,h_21,h_22,h_23,h_24,h_25,h_26,h_27,h_28,h_29,h_30,h_31,h_32,h_33,h_34,h_35,h_36,h_37,h_38,h_39,h_40,h_41,h_42]
                                     have hr := (HS.some H).symm; subst hr
                                     exact Hid.mk ⟨(laws_heldDeedS_l0_X a0 (.inr ())).2,Wk.ofk [] hk (by rfl) (by simp -implicitDefEqProofs [laws_heldDeedS_l0_X,h_2,h_3,h_4,h_5,h_6,h_7,h_8,h_9,h_10,h_11,h_12,h_13,h_14,h_15,h_16,h_17,h_18,h_19,h_20,h_21,h_22,h_23,h_24,h_25,h_26,h_27,h_28,h_29,h_30,h_31,h_32,h_33,h_34,h_35,h_36,h_37,h_38,h_39,h_40,h_41,h_42]) (by simp -implicitDefEqProofs [laws_heldDeedS_l0_X,h_2,h_3,h_4,h_5,h_6,h_7,h_8,h_9,h_10,h_11,h_12,h_13,h_14,h_15,h_16,h_17,h_18,h_19,h_20,h_21,h_22,h_23,h_24,h_25,h_26,h_27,h_28,h_29,h_30,h_31,h_32,h_33,h_34,h_35,h_36,h_37,h_38,h_39,h_40,h_41,h_42]),hR⟩
                                   ·replace H := HS.cnd_f h_41 H
                                    try simp -implicitDefEqProofs (maxSteps := 999999) [-selQ_sel,h_2,h_3,h_4,h_5,h_6,h_7,h_8,h_9,h_10,h_11,h_12,h_13,h_14,h_15,h_16,h_17,h_18,h_19,h_20,h_21,h_22,h_23,h_24,h_25,h_26,h_27,h_28,h_29,h_30,h_31,h_32,h_33,h_34,h_35,h_36,h_37,h_38,h_39,h_40,h_41]
                                    have hr := (HS.some H).symm; subst hr
                                    exact Hid.mk ⟨(laws_heldDeedS_l0_X a0 (.inr ())).2,Wk.ofk [] hk (by rfl) (by simp -implicitDefEqProofs [laws_heldDeedS_l0_X,h_2,h_3,h_4,h_5,h_6,h_7,h_8,h_9,h_10,h_11,h_12,h_13,h_14,h_15,h_16,h_17,h_18,h_19,h_20,h_21,h_22,h_23,h_24,h_25,h_26,h_27,h_28,h_29,h_30,h_31,h_32,h_33,h_34,h_35,h_36,h_37,h_38,h_39,h_40,h_41]) (by simp -implicitDefEqProofs [laws_heldDeedS_l0_X,h_2,h_3,h_4,h_5,h_6,h_7,h_8,h_9,h_10,h_11,h_12,h_13,h_14,h_15,h_16,h_17,h_18,h_19,h_20,h_21,h_22,h_23,h_24,h_25,h_26,h_27,h_28,h_29,h_30,h_31,h_32,h_33,h_34,h_35,h_36,h_37,h_38,h_39,h_40,h_41]),hR⟩
                                  ·replace H := HS.cnd_f h_40 H
                                   try simp -implicitDefEqProofs (maxSteps := 999999) [-selQ_sel,h_2,h_3,h_4,h_5,h_6,h_7,h_8,h_9,h_10,h_11,h_12,h_13,h_14,h_15,h_16,h_17,h_18,h_19,h_20,h_21,h_22,h_23,h_24,h_25,h_26,h_27,h_28,h_29,h_30,h_31,h_32,h_33,h_34,h_35,h_36,h_37,h_38,h_39,h_40]
                                   have hr := (HS.some H).symm; subst hr
                                   exact Hid.mk ⟨(laws_heldDeedS_l0_X a0 (.inr ())).2,Wk.ofk [] hk (by rfl) (by simp -implicitDefEqProofs [laws_heldDeedS_l0_X,h_2,h_3,h_4,h_5,h_6,h_7,h_8,h_9,h_10,h_11,h_12,h_13,h_14,h_15,h_16,h_17,h_18,h_19,h_20,h_21,h_22,h_23,h_24,h_25,h_26,h_27,h_28,h_29,h_30,h_31,h_32,h_33,h_34,h_35,h_36,h_37,h_38,h_39,h_40]) (by simp -implicitDefEqProofs [laws_heldDeedS_l0_X,h_2,h_3,h_4,h_5,h_6,h_7,h_8,h_9,h_10,h_11,h_12,h_13,h_14,h_15,h_16,h_17,h_18,h_19,h_20,h_21,h_22,h_23,h_24,h_25,h_26,h_27,h_28,h_29,h_30,h_31,h_32,h_33,h_34,h_35,h_36,h_37,h_38,h_39,h_40]),hR⟩
                                 ·replace H := HS.cnd_f h_38 H
                                  try simp -implicitDefEqProofs (maxSteps := 999999) [-selQ_sel,h_2,h_3,h_4,h_5,h_6,h_7,h_8,h_9,h_10,h_11,h_12,h_13,h_14,h_15,h_16,h_17,h_18,h_19,h_20,h_21,h_22,h_23,h_24,h_25,h_26,h_27,h_28,h_29,h_30,h_31,h_32,h_33,h_34,h_35,h_36,h_37,h_38]
                                  have hr := (HS.some H).symm; subst hr
                                  exact Hid.mk ⟨(laws_heldDeedS_l0_X a0 (.inr ())).2,Wk.ofk [] hk (by rfl) (by simp -implicitDefEqProofs [laws_heldDeedS_l0_X,h_2,h_3,h_4,h_5,h_6,h_7,h_8,h_9,h_10,h_11,h_12,h_13,h_14,h_15,h_16,h_17,h_18,h_19,h_20,h_21,h_22,h_23,h_24,h_25,h_26,h_27,h_28,h_29,h_30,h_31,h_32,h_33,h_34,h_35,h_36,h_37,h_38]) (by simp -implicitDefEqProofs [laws_heldDeedS_l0_X,h_2,h_3,h_4,h_5,h_6,h_7,h_8,h_9,h_10,h_11,h_12,h_13,h_14,h_15,h_16,h_17,h_18,h_19,h_20,h_21,h_22,h_23,h_24,h_25,h_26,h_27,h_28,h_29,h_30,h_31,h_32,h_33,h_34,h_35,h_36,h_37,h_38]),hR⟩
                                ·replace H := HS.cnd_f h_36 H
                                 try simp -implicitDefEqProofs (maxSteps := 999999) [-selQ_sel,h_2,h_3,h_4,h_5,h_6,h_7,h_8,h_9,h_10,h_11,h_12,h_13,h_14,h_15,h_16,h_17,h_18,h_19,h_20,h_21,h_22,h_23,h_24,h_25,h_26,h_27,h_28,h_29,h_30,h_31,h_32,h_33,h_34,h_35,h_36]
                                 have hr := (HS.some H).symm; subst hr
                                 exact Hid.mk ⟨(laws_heldDeedS_l0_X a0 (.inr ())).2,Wk.ofk [] hk (by rfl) (by simp -implicitDefEqProofs [laws_heldDeedS_l0_X,h_2,h_3,h_4,h_5,h_6,h_7,h_8,h_9,h_10,h_11,h_12,h_13,h_14,h_15,h_16,h_17,h_18,h_19,h_20,h_21,h_22,h_23,h_24,h_25,h_26,h_27,h_28,h_29,h_30,h_31,h_32,h_33,h_34,h_35,h_36]) (by simp -implicitDefEqProofs [laws_heldDeedS_l0_X,h_2,h_3,h_4,h_5,h_6,h_7,h_8,h_9,h_10,h_11,h_12,h_13,h_14,h_15,h_16,h_17,h_18,h_19,h_20,h_21,h_22,h_23,h_24,h_25,h_26,h_27,h_28,h_29,h_30,h_31,h_32,h_33,h_34,h_35,h_36]),hR⟩
                               ·replace H := HS.cnd_f h_35 H
                                try simp -implicitDefEqProofs (maxSteps := 999999) [-selQ_sel,h_2,h_3,h_4,h_5,h_6,h_7,h_8,h_9,h_10,h_11,h_12,h_13,h_14,h_15,h_16,h_17,h_18,h_19,h_20,h_21,h_22,h_23,h_24,h_25,h_26,h_27,h_28,h_29,h_30,h_31,h_32,h_33,h_34,h_35]
                                have hr := (HS.some H).symm; subst hr
                                exact Hid.mk ⟨(laws_heldDeedS_l0_X a0 (.inr ())).2,Wk.ofk [] hk (by rfl) (by simp -implicitDefEqProofs [laws_heldDeedS_l0_X,h_2,h_3,h_4,h_5,h_6,h_7,h_8,h_9,h_10,h_11,h_12,h_13,h_14,h_15,h_16,h_17,h_18,h_19,h_20,h_21,h_22,h_23,h_24,h_25,h_26,h_27,h_28,h_29,h_30,h_31,h_32,h_33,h_34,h_35]) (by simp -implicitDefEqProofs [laws_heldDeedS_l0_X,h_2,h_3,h_4,h_5,h_6,h_7,h_8,h_9,h_10,h_11,h_12,h_13,h_14,h_15,h_16,h_17,h_18,h_19,h_20,h_21,h_22,h_23,h_24,h_25,h_26,h_27,h_28,h_29,h_30,h_31,h_32,h_33,h_34,h_35]),hR⟩
                              ·replace H := HS.cnd_f h_34 H
                               try simp -implicitDefEqProofs (maxSteps := 999999) [-selQ_sel,h_2,h_3,h_4,h_5,h_6,h_7,h_8,h_9,h_10,h_11,h_12,h_13,h_14,h_15,h_16,h_17,h_18,h_19,h_20,h_21,h_22,h_23,h_24,h_25,h_26,h_27,h_28,h_29,h_30,h_31,h_32,h_33,h_34]
                               have hr := (HS.some H).symm; subst hr
                               exact Hid.mk ⟨(laws_heldDeedS_l0_X a0 (.inr ())).2,Wk.ofk [] hk (by rfl) (by simp -implicitDefEqProofs [laws_heldDeedS_l0_X,h_2,h_3,h_4,h_5,h_6,h_7,h_8,h_9,h_10,h_11,h_12,h_13,h_14,h_15,h_16,h_17,h_18,h_19,h_20,h_21,h_22,h_23,h_24,h_25,h_26,h_27,h_28,h_29,h_30,h_31,h_32,h_33,h_34]) (by simp -implicitDefEqProofs [laws_heldDeedS_l0_X,h_2,h_3,h_4,h_5,h_6,h_7,h_8,h_9,h_10,h_11,h_12,h_13,h_14,h_15,h_16,h_17,h_18,h_19,h_20,h_21,h_22,h_23,h_24,h_25,h_26,h_27,h_28,h_29,h_30,h_31,h_32,h_33,h_34]),hR⟩
                             ·replace H := HS.cnd_f h_33 H
                              try simp -implicitDefEqProofs (maxSteps := 999999) [-selQ_sel,h_2,h_3,h_4,h_5,h_6,h_7,h_8,h_9,h_10,h_11,h_12,h_13,h_14,h_15,h_16,h_17,h_18,h_19,h_20,h_21,h_22,h_23,h_24,h_25,h_26,h_27,h_28,h_29,h_30,h_31,h_32,h_33]
                              have hr := (HS.some H).symm; subst hr
                              exact Hid.mk ⟨(laws_heldDeedS_l0_X a0 (.inr ())).2,Wk.ofk [] hk (by rfl) (by simp -implicitDefEqProofs [laws_heldDeedS_l0_X,h_2,h_3,h_4,h_5,h_6,h_7,h_8,h_9,h_10,h_11,h_12,h_13,h_14,h_15,h_16,h_17,h_18,h_19,h_20,h_21,h_22,h_23,h_24,h_25,h_26,h_27,h_28,h_29,h_30,h_31,h_32,h_33]) (by simp -implicitDefEqProofs [laws_heldDeedS_l0_X,h_2,h_3,h_4,h_5,h_6,h_7,h_8,h_9,h_10,h_11,h_12,h_13,h_14,h_15,h_16,h_17,h_18,h_19,h_20,h_21,h_22,h_23,h_24,h_25,h_26,h_27,h_28,h_29,h_30,h_31,h_32,h_33]),hR⟩
                            ·replace H := HS.cnd_f h_32 H
                             try simp -implicitDefEqProofs (maxSteps := 999999) [-selQ_sel,h_2,h_3,h_4,h_5,h_6,h_7,h_8,h_9,h_10,h_11,h_12,h_13,h_14,h_15,h_16,h_17,h_18,h_19,h_20,h_21,h_22,h_23,h_24,h_25,h_26,h_27,h_28,h_29,h_30,h_31,h_32]
                             have hr := (HS.some H).symm; subst hr
                             exact Hid.mk ⟨(laws_heldDeedS_l0_X a0 (.inr ())).2,Wk.ofk [] hk (by rfl) (by simp -implicitDefEqProofs [laws_heldDeedS_l0_X,h_2,h_3,h_4,h_5,h_6,h_7,h_8,h_9,h_10,h_11,h_12,h_13,h_14,h_15,h_16,h_17,h_18,h_19,h_20,h_21,h_22,h_23,h_24,h_25,h_26,h_27,h_28,h_29,h_30,h_31,h_32]) (by simp -implicitDefEqProofs [laws_heldDeedS_l0_X,h_2,h_3,h_4,h_5,h_6,h_7,h_8,h_9,h_10,h_11,h_12,h_13,h_14,h_15,h_16,h_17,h_18,h_19,h_20,h_21,h_22,h_23,h_24,h_25,h_26,h_27,h_28,h_29,h_30,h_31,h_32]),hR⟩
                           ·replace H := HS.cnd_f h_31 H
                            try simp -implicitDefEqProofs (maxSteps := 999999) [-selQ_sel,h_2,h_3,h_4,h_5,h_6,h_7,h_8,h_9,h_10,h_11,h_12,h_13,h_14,h_15,h_16,h_17,h_18,h_19,h_20,h_21,h_22,h_23,h_24,h_25,h_26,h_27,h_28,h_29,h_30,h_31]
                            have hr := (HS.some H).symm; subst hr
                            exact Hid.mk ⟨(laws_heldDeedS_l0_X a0 (.inr ())).2,Wk.ofk [] hk (by rfl) (by simp -implicitDefEqProofs [laws_heldDeedS_l0_X,h_2,h_3,h_4,h_5,h_6,h_7,h_8,h_9,h_10,h_11,h_12,h_13,h_14,h_15,h_16,h_17,h_18,h_19,h_20,h_21,h_22,h_23,h_24,h_25,h_26,h_27,h_28,h_29,h_30,h_31]) (by simp -implicitDefEqProofs [laws_heldDeedS_l0_X,h_2,h_3,h_4,h_5,h_6,h_7,h_8,h_9,h_10,h_11,h_12,h_13,h_14,h_15,h_16,h_17,h_18,h_19,h_20,h_21,h_22,h_23,h_24,h_25,h_26,h_27,h_28,h_29,h_30,h_31]),hR⟩
                          ·replace H := HS.cnd_f h_30 H
                           try simp -implicitDefEqProofs (maxSteps := 999999) [-selQ_sel,h_2,h_3,h_4,h_5,h_6,h_7,h_8,h_9,h_10,h_11,h_12,h_13,h_14,h_15,h_16,h_17,h_18,h_19,h_20,h_21,h_22,h_23,h_24,h_25,h_26,h_27,h_28,h_29,h_30]
                           have hr := (HS.some H).symm; subst hr
                           exact Hid.mk ⟨(laws_heldDeedS_l0_X a0 (.inr ())).2,Wk.ofk [] hk (by rfl) (by simp -implicitDefEqProofs [laws_heldDeedS_l0_X,h_2,h_3,h_4,h_5,h_6,h_7,h_8,h_9,h_10,h_11,h_12,h_13,h_14,h_15,h_16,h_17,h_18,h_19,h_20,h_21,h_22,h_23,h_24,h_25,h_26,h_27,h_28,h_29,h_30]) (by simp -implicitDefEqProofs [laws_heldDeedS_l0_X,h_2,h_3,h_4,h_5,h_6,h_7,h_8,h_9,h_10,h_11,h_12,h_13,h_14,h_15,h_16,h_17,h_18,h_19,h_20,h_21,h_22,h_23,h_24,h_25,h_26,h_27,h_28,h_29,h_30]),hR⟩
                         ·replace H := HS.cnd_f h_29 H
                          try simp -implicitDefEqProofs (maxSteps := 999999) [-selQ_sel,h_2,h_3,h_4,h_5,h_6,h_7,h_8,h_9,h_10,h_11,h_12,h_13,h_14,h_15,h_16,h_17,h_18,h_19,h_20,h_21,h_22,h_23,h_24,h_25,h_26,h_27,h_28,h_29]
                          have hr := (HS.some H).symm; subst hr
                          exact Hid.mk ⟨(laws_heldDeedS_l0_X a0 (.inr ())).2,Wk.ofk [] hk (by rfl) (by simp -implicitDefEqProofs [laws_heldDeedS_l0_X,h_2,h_3,h_4,h_5,h_6,h_7,h_8,h_9,h_10,h_11,h_12,h_13,h_14,h_15,h_16,h_17,h_18,h_19,h_20,h_21,h_22,h_23,h_24,h_25,h_26,h_27,h_28,h_29]) (by simp -implicitDefEqProofs [laws_heldDeedS_l0_X,h_2,h_3,h_4,h_5,h_6,h_7,h_8,h_9,h_10,h_11,h_12,h_13,h_14,h_15,h_16,h_17,h_18,h_19,h_20,h_21,h_22,h_23,h_24,h_25,h_26,h_27,h_28,h_29]),hR⟩
                        ·replace H := HS.cnd_f h_28 H
                         try simp -implicitDefEqProofs (maxSteps := 999999) [-selQ_sel,h_2,h_3,h_4,h_5,h_6,h_7,h_8,h_9,h_10,h_11,h_12,h_13,h_14,h_15,h_16,h_17,h_18,h_19,h_20,h_21,h_22,h_23,h_24,h_25,h_26,h_27,h_28]
                         have hr := (HS.some H).symm; subst hr
                         exact Hid.mk ⟨(laws_heldDeedS_l0_X a0 (.inr ())).2,Wk.ofk [] hk (by rfl) (by simp -implicitDefEqProofs [laws_heldDeedS_l0_X,h_2,h_3,h_4,h_5,h_6,h_7,h_8,h_9,h_10,h_11,h_12,h_13,h_14,h_15,h_16,h_17,h_18,h_19,h_20,h_21,h_22,h_23,h_24,h_25,h_26,h_27,h_28]) (by simp -implicitDefEqProofs [laws_heldDeedS_l0_X,h_2,h_3,h_4,h_5,h_6,h_7,h_8,h_9,h_10,h_11,h_12,h_13,h_14,h_15,h_16,h_17,h_18,h_19,h_20,h_21,h_22,h_23,h_24,h_25,h_26,h_27,h_28]),hR⟩
                       ·replace H := HS.cnd_f h_27 H
                        try simp -implicitDefEqProofs (maxSteps := 999999) [-selQ_sel,h_2,h_3,h_4,h_5,h_6,h_7,h_8,h_9,h_10,h_11,h_12,h_13,h_14,h_15,h_16,h_17,h_18,h_19,h_20,h_21,h_22,h_23,h_24,h_25,h_26,h_27]
                        have hr := (HS.some H).symm; subst hr
                        exact Hid.mk ⟨(laws_heldDeedS_l0_X a0 (.inr ())).2,Wk.ofk [] hk (by rfl) (by simp -implicitDefEqProofs [laws_heldDeedS_l0_X,h_2,h_3,h_4,h_5,h_6,h_7,h_8,h_9,h_10,h_11,h_12,h_13,h_14,h_15,h_16,h_17,h_18,h_19,h_20,h_21,h_22,h_23,h_24,h_25,h_26,h_27]) (by simp -implicitDefEqProofs [laws_heldDeedS_l0_X,h_2,h_3,h_4,h_5,h_6,h_7,h_8,h_9,h_10,h_11,h_12,h_13,h_14,h_15,h_16,h_17,h_18,h_19,h_20,h_21,h_22,h_23,h_24,h_25,h_26,h_27]),hR⟩
                      ·replace H := HS.cnd_f h_26 H
                       try simp -implicitDefEqProofs (maxSteps := 999999) [-selQ_sel,h_2,h_3,h_4,h_5,h_6,h_7,h_8,h_9,h_10,h_11,h_12,h_13,h_14,h_15,h_16,h_17,h_18,h_19,h_20,h_21,h_22,h_23,h_24,h_25,h_26]
                       have hr := (HS.some H).symm; subst hr
                       exact Hid.mk ⟨(laws_heldDeedS_l0_X a0 (.inr ())).2,Wk.ofk [] hk (by rfl) (by simp -implicitDefEqProofs [laws_heldDeedS_l0_X,h_2,h_3,h_4,h_5,h_6,h_7,h_8,h_9,h_10,h_11,h_12,h_13,h_14,h_15,h_16,h_17,h_18,h_19,h_20,h_21,h_22,h_23,h_24,h_25,h_26]) (by simp -implicitDefEqProofs [laws_heldDeedS_l0_X,h_2,h_3,h_4,h_5,h_6,h_7,h_8,h_9,h_10,h_11,h_12,h_13,h_14,h_15,h_16,h_17,h_18,h_19,h_20,h_21,h_22,h_23,h_24,h_25,h_26]),hR⟩
                     ·replace H := HS.cnd_f h_25 H
                      try simp -implicitDefEqProofs (maxSteps := 999999) [-selQ_sel,h_2,h_3,h_4,h_5,h_6,h_7,h_8,h_9,h_10,h_11,h_12,h_13,h_14,h_15,h_16,h_17,h_18,h_19,h_20,h_21,h_22,h_23,h_24,h_25]
                      have hr := (HS.some H).symm; subst hr
                      exact Hid.mk ⟨(laws_heldDeedS_l0_X a0 (.inr ())).2,Wk.ofk [] hk (by rfl) (by simp -implicitDefEqProofs [laws_heldDeedS_l0_X,h_2,h_3,h_4,h_5,h_6,h_7,h_8,h_9,h_10,h_11,h_12,h_13,h_14,h_15,h_16,h_17,h_18,h_19,h_20,h_21,h_22,h_23,h_24,h_25]) (by simp -implicitDefEqProofs [laws_heldDeedS_l0_X,h_2,h_3,h_4,h_5,h_6,h_7,h_8,h_9,h_10,h_11,h_12,h_13,h_14,h_15,h_16,h_17,h_18,h_19,h_20,h_21,h_22,h_23,h_24,h_25]),hR⟩
                    ·replace H := HS.cnd_f h_24 H
                     try simp -implicitDefEqProofs (maxSteps := 999999) [-selQ_sel,h_2,h_3,h_4,h_5,h_6,h_7,h_8,h_9,h_10,h_11,h_12,h_13,h_14,h_15,h_16,h_17,h_18,h_19,h_20,h_21,h_22,h_23,h_24]
                     have hr := (HS.some H).symm; subst hr
                     exact Hid.mk ⟨(laws_heldDeedS_l0_X a0 (.inr ())).2,Wk.ofk [] hk (by rfl) (by simp -implicitDefEqProofs [laws_heldDeedS_l0_X,h_2,h_3,h_4,h_5,h_6,h_7,h_8,h_9,h_10,h_11,h_12,h_13,h_14,h_15,h_16,h_17,h_18,h_19,h_20,h_21,h_22,h_23,h_24]) (by simp -implicitDefEqProofs [laws_heldDeedS_l0_X,h_2,h_3,h_4,h_5,h_6,h_7,h_8,h_9,h_10,h_11,h_12,h_13,h_14,h_15,h_16,h_17,h_18,h_19,h_20,h_21,h_22,h_23,h_24]),hR⟩
                   ·replace H := HS.cnd_f h_23 H
                    try simp -implicitDefEqProofs (maxSteps := 999999) [-selQ_sel,h_2,h_3,h_4,h_5,h_6,h_7,h_8,h_9,h_10,h_11,h_12,h_13,h_14,h_15,h_16,h_17,h_18,h_19,h_20,h_21,h_22,h_23]
                    have hr := (HS.some H).symm; subst hr
                    exact Hid.mk ⟨(laws_heldDeedS_l0_X a0 (.inr ())).2,Wk.ofk [] hk (by rfl) (by simp -implicitDefEqProofs [laws_heldDeedS_l0_X,h_2,h_3,h_4,h_5,h_6,h_7,h_8,h_9,h_10,h_11,h_12,h_13,h_14,h_15,h_16,h_17,h_18,h_19,h_20,h_21,h_22,h_23]) (by simp -implicitDefEqProofs [laws_heldDeedS_l0_X,h_2,h_3,h_4,h_5,h_6,h_7,h_8,h_9,h_10,h_11,h_12,h_13,h_14,h_15,h_16,h_17,h_18,h_19,h_20,h_21,h_22,h_23]),hR⟩
                  ·replace H := HS.cnd_f h_22 H
                   try simp -implicitDefEqProofs (maxSteps := 999999) [-selQ_sel,h_2,h_3,h_4,h_5,h_6,h_7,h_8,h_9,h_10,h_11,h_12,h_13,h_14,h_15,h_16,h_17,h_18,h_19,h_20,h_21,h_22]
                   have hr := (HS.some H).symm; subst hr
                   exact Hid.mk ⟨(laws_heldDeedS_l0_X a0 (.inr ())).2,Wk.ofk [] hk (by rfl) (by simp -implicitDefEqProofs [laws_heldDeedS_l0_X,h_2,h_3,h_4,h_5,h_6,h_7,h_8,h_9,h_10,h_11,h_12,h_13,h_14,h_15,h_16,h_17,h_18,h_19,h_20,h_21,h_22]) (by simp -implicitDefEqProofs [laws_heldDeedS_l0_X,h_2,h_3,h_4,h_5,h_6,h_7,h_8,h_9,h_10,h_11,h_12,h_13,h_14,h_15,h_16,h_17,h_18,h_19,h_20,h_21,h_22]),hR⟩
                 ·replace H := HS.cnd_f h_21 H
                  try simp -implicitDefEqProofs (maxSteps := 999999) [-selQ_sel,h_2,h_3,h_4,h_5,h_6,h_7,h_8,h_9,h_10,h_11,h_12,h_13,h_14,h_15,h_16,h_17,h_18,h_19,h_20,h_21]
                  have hr := (HS.some H).symm; subst hr
                  exact Hid.mk ⟨(laws_heldDeedS_l0_X a0 (.inr ())).2,Wk.ofk [] hk (by rfl) (by simp -implicitDefEqProofs [laws_heldDeedS_l0_X,h_2,h_3,h_4,h_5,h_6,h_7,h_8,h_9,h_10,h_11,h_12,h_13,h_14,h_15,h_16,h_17,h_18,h_19,h_20,h_21]) (by simp -implicitDefEqProofs [laws_heldDeedS_l0_X,h_2,h_3,h_4,h_5,h_6,h_7,h_8,h_9,h_10,h_11,h_12,h_13,h_14,h_15,h_16,h_17,h_18,h_19,h_20,h_21]),hR⟩
                ·replace H := HS.cnd_f h_19 H
                 try simp -implicitDefEqProofs (maxSteps := 999999) [-selQ_sel,h_2,h_3,h_4,h_5,h_6,h_7,h_8,h_9,h_10,h_11,h_12,h_13,h_14,h_15,h_16,h_17,h_18,h_19]
                 have hr := (HS.some H).symm; subst hr
                 exact Hid.mk ⟨(laws_heldDeedS_l0_X a0 (.inr ())).2,Wk.ofk [] hk (by rfl) (by simp -implicitDefEqProofs [laws_heldDeedS_l0_X,h_2,h_3,h_4,h_5,h_6,h_7,h_8,h_9,h_10,h_11,h_12,h_13,h_14,h_15,h_16,h_17,h_18,h_19]) (by simp -implicitDefEqProofs [laws_heldDeedS_l0_X,h_2,h_3,h_4,h_5,h_6,h_7,h_8,h_9,h_10,h_11,h_12,h_13,h_14,h_15,h_16,h_17,h_18,h_19]),hR⟩
               ·replace H := HS.cnd_f h_18 H
                try simp -implicitDefEqProofs (maxSteps := 999999) [-selQ_sel,h_2,h_3,h_4,h_5,h_6,h_7,h_8,h_9,h_10,h_11,h_12,h_13,h_14,h_15,h_16,h_17,h_18]
                have hr := (HS.some H).symm; subst hr
                exact Hid.mk ⟨(laws_heldDeedS_l0_X a0 (.inr ())).2,Wk.ofk [] hk (by rfl) (by simp -implicitDefEqProofs [laws_heldDeedS_l0_X,h_2,h_3,h_4,h_5,h_6,h_7,h_8,h_9,h_10,h_11,h_12,h_13,h_14,h_15,h_16,h_17,h_18]) (by simp -implicitDefEqProofs [laws_heldDeedS_l0_X,h_2,h_3,h_4,h_5,h_6,h_7,h_8,h_9,h_10,h_11,h_12,h_13,h_14,h_15,h_16,h_17,h_18]),hR⟩
              ·replace H := HS.cnd_f h_17 H
               try simp -implicitDefEqProofs (maxSteps := 999999) [-selQ_sel,h_2,h_3,h_4,h_5,h_6,h_7,h_8,h_9,h_10,h_11,h_12,h_13,h_14,h_15,h_16,h_17]
               have hr := (HS.some H).symm; subst hr
               exact Hid.mk ⟨(laws_heldDeedS_l0_X a0 (.inr ())).2,Wk.ofk [] hk (by rfl) (by simp -implicitDefEqProofs [laws_heldDeedS_l0_X,h_2,h_3,h_4,h_5,h_6,h_7,h_8,h_9,h_10,h_11,h_12,h_13,h_14,h_15,h_16,h_17]) (by simp -implicitDefEqProofs [laws_heldDeedS_l0_X,h_2,h_3,h_4,h_5,h_6,h_7,h_8,h_9,h_10,h_11,h_12,h_13,h_14,h_15,h_16,h_17]),hR⟩
             ·replace H := HS.cnd_f h_15 H
              try simp -implicitDefEqProofs (maxSteps := 999999) [-selQ_sel,h_2,h_3,h_4,h_5,h_6,h_7,h_8,h_9,h_10,h_11,h_12,h_13,h_14,h_15]
              have hr := (HS.some H).symm; subst hr
              exact Hid.mk ⟨(laws_heldDeedS_l0_X a0 (.inr ())).2,Wk.ofk [] hk (by rfl) (by simp -implicitDefEqProofs [laws_heldDeedS_l0_X,h_2,h_3,h_4,h_5,h_6,h_7,h_8,h_9,h_10,h_11,h_12,h_13,h_14,h_15]) (by simp -implicitDefEqProofs [laws_heldDeedS_l0_X,h_2,h_3,h_4,h_5,h_6,h_7,h_8,h_9,h_10,h_11,h_12,h_13,h_14,h_15]),hR⟩
            ·replace H := HS.cnd_f h_13 H
             try simp -implicitDefEqProofs (maxSteps := 999999) [-selQ_sel,h_2,h_3,h_4,h_5,h_6,h_7,h_8,h_9,h_10,h_11,h_12,h_13]
             have hr := (HS.some H).symm; subst hr
             exact Hid.mk ⟨(laws_heldDeedS_l0_X a0 (.inr ())).2,Wk.ofk [] hk (by rfl) (by simp -implicitDefEqProofs [laws_heldDeedS_l0_X,h_2,h_3,h_4,h_5,h_6,h_7,h_8,h_9,h_10,h_11,h_12,h_13]) (by simp -implicitDefEqProofs [laws_heldDeedS_l0_X,h_2,h_3,h_4,h_5,h_6,h_7,h_8,h_9,h_10,h_11,h_12,h_13]),hR⟩
           ·replace H := HS.cnd_f h_12 H
            try simp -implicitDefEqProofs (maxSteps := 999999) [-selQ_sel,h_2,h_3,h_4,h_5,h_6,h_7,h_8,h_9,h_10,h_11,h_12]
            have hr := (HS.some H).symm; subst hr
            exact Hid.mk ⟨(laws_heldDeedS_l0_X a0 (.inr ())).2,Wk.ofk [] hk (by rfl) (by simp -implicitDefEqProofs [laws_heldDeedS_l0_X,h_2,h_3,h_4,h_5,h_6,h_7,h_8,h_9,h_10,h_11,h_12]) (by simp -implicitDefEqProofs [laws_heldDeedS_l0_X,h_2,h_3,h_4,h_5,h_6,h_7,h_8,h_9,h_10,h_11,h_12]),hR⟩
          ·replace H := HS.cnd_f h_11 H
           try simp -implicitDefEqProofs (maxSteps := 999999) [-selQ_sel,h_2,h_3,h_4,h_5,h_6,h_7,h_8,h_9,h_10,h_11]
           have hr := (HS.some H).symm; subst hr
           exact Hid.mk ⟨(laws_heldDeedS_l0_X a0 (.inr ())).2,Wk.ofk [] hk (by rfl) (by simp -implicitDefEqProofs [laws_heldDeedS_l0_X,h_2,h_3,h_4,h_5,h_6,h_7,h_8,h_9,h_10,h_11]) (by simp -implicitDefEqProofs [laws_heldDeedS_l0_X,h_2,h_3,h_4,h_5,h_6,h_7,h_8,h_9,h_10,h_11]),hR⟩
         ·replace H := HS.cnd_f h_10 H
          try simp -implicitDefEqProofs (maxSteps := 999999) [-selQ_sel,h_2,h_3,h_4,h_5,h_6,h_7,h_8,h_9,h_10]
          have hr := (HS.some H).symm; subst hr
          exact Hid.mk ⟨(laws_heldDeedS_l0_X a0 (.inr ())).2,Wk.ofk [] hk (by rfl) (by simp -implicitDefEqProofs [laws_heldDeedS_l0_X,h_2,h_3,h_4,h_5,h_6,h_7,h_8,h_9,h_10]) (by simp -implicitDefEqProofs [laws_heldDeedS_l0_X,h_2,h_3,h_4,h_5,h_6,h_7,h_8,h_9,h_10]),hR⟩
        ·replace H := HS.cnd_f h_9 H
         try simp -implicitDefEqProofs (maxSteps := 999999) [-selQ_sel,h_2,h_3,h_4,h_5,h_6,h_7,h_8,h_9]
         have hr := (HS.some H).symm; subst hr
         exact Hid.mk ⟨(laws_heldDeedS_l0_X a0 (.inr ())).2,Wk.ofk [] hk (by rfl) (by simp -implicitDefEqProofs [laws_heldDeedS_l0_X,h_2,h_3,h_4,h_5,h_6,h_7,h_8,h_9]) (by simp -implicitDefEqProofs [laws_heldDeedS_l0_X,h_2,h_3,h_4,h_5,h_6,h_7,h_8,h_9]),hR⟩
       ·replace H := HS.cnd_f h_8 H
        try simp -implicitDefEqProofs (maxSteps := 999999) [-selQ_sel,h_2,h_3,h_4,h_5,h_6,h_7,h_8]
        have hr := (HS.some H).symm; subst hr
        exact Hid.mk ⟨(laws_heldDeedS_l0_X a0 (.inr ())).2,Wk.ofk [] hk (by rfl) (by simp -implicitDefEqProofs [laws_heldDeedS_l0_X,h_2,h_3,h_4,h_5,h_6,h_7,h_8]) (by simp -implicitDefEqProofs [laws_heldDeedS_l0_X,h_2,h_3,h_4,h_5,h_6,h_7,h_8]),hR⟩
      ·replace H := HS.cnd_f h_7 H
       try simp -implicitDefEqProofs (maxSteps := 999999) [-selQ_sel,h_2,h_3,h_4,h_5,h_6,h_7]
       have hr := (HS.some H).symm; subst hr
       exact Hid.mk ⟨(laws_heldDeedS_l0_X a0 (.inr ())).2,Wk.ofk [] hk (by rfl) (by simp -implicitDefEqProofs [laws_heldDeedS_l0_X,h_2,h_3,h_4,h_5,h_6,h_7]) (by simp -implicitDefEqProofs [laws_heldDeedS_l0_X,h_2,h_3,h_4,h_5,h_6,h_7]),hR⟩
     ·replace H := HS.cnd_f h_6 H
      try simp -implicitDefEqProofs (maxSteps := 999999) [-selQ_sel,h_2,h_3,h_4,h_5,h_6]
      have hr := (HS.some H).symm; subst hr
      exact Hid.mk ⟨(laws_heldDeedS_l0_X a0 (.inr ())).2,Wk.ofk [] hk (by rfl) (by simp -implicitDefEqProofs [laws_heldDeedS_l0_X,h_2,h_3,h_4,h_5,h_6]) (by simp -implicitDefEqProofs [laws_heldDeedS_l0_X,h_2,h_3,h_4,h_5,h_6]),hR⟩
    ·replace H := HS.cnd_f h_5 H
     try simp -implicitDefEqProofs (maxSteps := 999999) [-selQ_sel,h_2,h_3,h_4,h_5]
     have hr := (HS.some H).symm; subst hr
     exact Hid.mk ⟨(laws_heldDeedS_l0_X a0 (.inr ())).2,Wk.ofk [] hk (by rfl) (by simp -implicitDefEqProofs [laws_heldDeedS_l0_X,h_2,h_3,h_4,h_5]) (by simp -implicitDefEqProofs [laws_heldDeedS_l0_X,h_2,h_3,h_4,h_5]),hR⟩
   ·replace H := HS.cnd_f h_4 H
    try simp -implicitDefEqProofs (maxSteps := 999999) [-selQ_sel,h_2,h_3,h_4]
    have hr := (HS.some H).symm; subst hr
    exact Hid.mk ⟨(laws_heldDeedS_l0_X a0 (.inr ())).2,Wk.ofk [] hk (by rfl) (by simp -implicitDefEqProofs [laws_heldDeedS_l0_X,h_2,h_3,h_4]) (by simp -implicitDefEqProofs [laws_heldDeedS_l0_X,h_2,h_3,h_4]),hR⟩
 ·rcases q with y15 | ⟨⟩
  ·dsimp only at H
   try simp -implicitDefEqProofs (maxSteps := 999999) [-selQ_sel,laws_heldDeedS_l0_X]
   have hr := (HS.some H).symm; subst hr
   refine Hid.mk ⟨_,Wk.refl _,?_⟩
   try simp -implicitDefEqProofs (maxSteps := 999999) [-selQ_sel]
  ·dsimp only at H
   try simp -implicitDefEqProofs (maxSteps := 999999) [-selQ_sel,laws_heldDeedS_l0_X]
   have hr := (HS.some H).symm; subst hr
   refine Hid.mk ⟨_,Wk.refl _,?_⟩
   try simp -implicitDefEqProofs (maxSteps := 999999) [-selQ_sel]
theorem impl_PartsOf_ok0 (hm : Tryd.prog.follows .mixedOrders = true) (k_strings_Split : Sound Tryd.prog 26 strings_Split_x) : Sound Tryd.prog 14 impl_PartsOf_x := by
 refine xOf_sound fun q r h => ?_
 revert h; revert r; revert q; intro a0 r h
 refine fn_ok E0 hm Tryd.func14 rfl (by decide +kernel) (by rfl) fun Γ hn hk => ?_
 dsimp only [impl_PartsOf_e,impl_PartsOf_v]
 replace hn : Γ.n = 45 := hn
 replace hk : Γ.k = 0 := hk
 have H : HS (impl_PartsOf a0) r := h
 clear h; unfold impl_PartsOf at H
 try simp -implicitDefEqProofs at H
 refine Tr.of_vc (cl := tabC [(26,strings_Split_x)]) (E := E0) [] (tab_cons k_strings_Split tab_nil) hm (by rw [hn]; decide +kernel) ?_
 try simp -implicitDefEqProofs (maxSteps := 999999) [-selQ_sel]
 refine Hid.brV (fun h_1 => ?_) (fun h_1 => ?_)
 ·replace H := HS.cnd_t h_1 H
  try simp -implicitDefEqProofs (maxSteps := 999999) [-selQ_sel,h_1]
  obtain ⟨q,h_2,H⟩ := HS.bnd H
  refine Hid.mk (Tr.weak (s' := (impl_PartsOf_l0_S a0) 0) (Wk.ofk [] hk (by rfl) (by simp -implicitDefEqProofs [impl_PartsOf_l0_S,h_1]) (by simp -implicitDefEqProofs [impl_PartsOf_l0_S,h_1])) ?_)
  refine wp_loop_of (S := (impl_PartsOf_l0_S a0)) (f := (impl_PartsOf_l0 a0)) (xt := (impl_PartsOf_l0_X a0)) ?_ ?_ h_2 ?_
  ·intro q; rcases q with ⟨⟩ | ⟨⟩ <;> simp [impl_PartsOf_l0_X]
  ·clear H h_2 q
   rintro x2 o R hf hR
   have H : HS (impl_PartsOf_l0 a0 x2) o := hf
   clear hf; unfold impl_PartsOf_l0 at H
   try simp -implicitDefEqProofs at H
   refine Tr.of_vc (cl := tabC [(26,strings_Split_x)]) (E := E0) [] (tab_cons k_strings_Split tab_nil) hm (by rw [hn]; decide +kernel) ?_
   try simp -implicitDefEqProofs (maxSteps := 999999) [-selQ_sel,impl_PartsOf_l0_S]
   refine Hid.brV (fun h_3 => ?_) (fun h_3 => ?_)
   ·replace H := HS.cnd_t h_3 H
    try simp -implicitDefEqProofs (maxSteps := 999999) [-selQ_sel,h_3]
    have hr := (HS.some H).symm; subst hr
    exact Hid.mk ⟨(impl_PartsOf_l0_X a0 (.inl ())).2,Wk.ofk [] hk (by rfl) (by simp -implicitDefEqProofs [impl_PartsOf_l0_X,h_3]) (by simp -implicitDefEqProofs [impl_PartsOf_l0_X,h_3]),hR⟩
   ·replace H := HS.cnd_f h_3 H
    try simp -implicitDefEqProofs (maxSteps := 999999) [-selQ_sel,h_3]
    obtain ⟨b3,h_4,H⟩ := HS.bnd H
    try simp -implicitDefEqProofs (maxSteps := 999999) [-selQ_sel,h_3,h_4]
    refine Hid.selQ (fun h_5 => ?_) (fun h_5 => ?_)
    ·replace H := HS.cnd_t h_5 H
     try simp -implicitDefEqProofs (maxSteps := 999999) [-selQ_sel,h_3,h_4,h_5]
     refine Hid.brV (fun h_6 => ?_) (fun h_6 => ?_)
     ·replace H := HS.cnd_t h_6 H
      try simp -implicitDefEqProofs (maxSteps := 999999) [-selQ_sel,h_3,h_4,h_5,h_6]
      have hr := (HS.some H).symm; subst hr
      exact Hid.mk ⟨impl_PartsOf_l0_S a0 (IntKind.i64.wrap (x2 + 1)),Wk.ofk [] hk (by rfl) (by simp -implicitDefEqProofs [impl_PartsOf_l0_S,h_3,h_4,h_5,h_6]) (by simp -implicitDefEqProofs [impl_PartsOf_l0_S,h_3,h_4,h_5,h_6]),hR⟩
     ·replace H := HS.cnd_f h_6 H
      try simp -implicitDefEqProofs (maxSteps := 999999) [-selQ_sel,h_3,h_4,h_5,h_6]
      have hr := (HS.some H).symm; subst hr
      exact Hid.mk ⟨(impl_PartsOf_l0_X a0 (.inr ())).2,Wk.ofk [] hk (by rfl) (by simp -implicitDefEqProofs [impl_PartsOf_l0_X,h_3,h_4,h_5,h_6]) (by simp -implicitDefEqProofs [impl_PartsOf_l0_X,h_3,h_4,h_5,h_6]),hR⟩
    ·replace H := HS.cnd_f h_5 H
     try simp -implicitDefEqProofs (maxSteps := 999999) [-selQ_sel,h_3,h_4,h_5]
     have hr := (HS.some H).symm; subst hr
     exact Hid.mk ⟨(impl_PartsOf_l0_X a0 (.inr ())).2,Wk.ofk [] hk (by rfl) (by simp -implicitDefEqProofs [impl_PartsOf_l0_X,h_3,h_4,h_5]) (by simp -implicitDefEqProofs [impl_PartsOf_l0_X,h_3,h_4,h_5]),hR⟩
  ·rcases q with ⟨⟩ | ⟨⟩
   ·dsimp only at H
    try simp -implicitDefEqProofs (maxSteps := 999999) [-selQ_sel,h_1,impl_PartsOf_l0_X]
    obtain ⟨v4,h_7,H⟩ := HS.bnd H
    try simp -implicitDefEqProofs (maxSteps := 999999) [-selQ_sel,h_1,h_7]
    obtain ⟨q,h_8,H⟩ := HS.bnd H
    refine Hid.mk (Tr.weak (s' := (impl_PartsOf_l1_S v4) (0,[])) (Wk.ofk [0] hk (by rfl) (by simp -implicitDefEqProofs [impl_PartsOf_l1_S,h_1,h_7]) (by simp -implicitDefEqProofs [impl_PartsOf_l1_S,h_1,h_7])) ?_)
    refine wp_loop_of (S := (impl_PartsOf_l1_S v4)) (f := (impl_PartsOf_l1 v4)) (xt := (impl_PartsOf_l1_X v4)) ?_ ?_ h_8 ?_
    ·intro q; simp [impl_PartsOf_l1_X]
    ·clear H h_8 q
     rintro ⟨x6,x7⟩ o R hf hR
     have H : HS (impl_PartsOf_l1 v4 (x6,x7)) o := hf
     clear hf; unfold impl_PartsOf_l1 at H
     try simp -implicitDefEqProofs at H
     refine Tr.of_vc (cl := tabC [(26,strings_Split_x)]) (E := E0) [] (tab_cons k_strings_Split tab_nil) hm (by rw [hn]; decide +kernel) ?_
     try simp -implicitDefEqProofs (maxSteps := 999999) [-selQ_sel,impl_PartsOf_l1_S]
     refine Hid.brV (fun h_9 => ?_) (fun h_9 => ?_)
     ·replace H := HS.cnd_t h_9 H
      try simp -implicitDefEqProofs (maxSteps := 999999) [-selQ_sel,h_9]
      have hr := (HS.some H).symm; subst hr
      exact Hid.mk ⟨(impl_PartsOf_l1_X v4 x7).2,Wk.ofk [0] hk (by rfl) (by simp -implicitDefEqProofs [impl_PartsOf_l1_X,h_9]) (by simp -implicitDefEqProofs [impl_PartsOf_l1_X,h_9]),hR⟩
     ·replace H := HS.cnd_f h_9 H
      try simp -implicitDefEqProofs (maxSteps := 999999) [-selQ_sel,h_9]
      obtain ⟨v8,h_10,H⟩ := HS.bnd H
      try simp -implicitDefEqProofs (maxSteps := 999999) [-selQ_sel,h_9,h_10]
      refine Hid.brV (fun h_11 => ?_) (fun h_11 => ?_)
      ·replace H := HS.cnd_t h_11 H
       try simp -implicitDefEqProofs (maxSteps := 999999) [-selQ_sel,h_9,h_10,h_11]
       have hr := (HS.some H).symm; subst hr
       exact Hid.mk ⟨impl_PartsOf_l1_S v4 ((IntKind.i64.wrap (x6 + 1)),x7),Wk.ofk [0] hk (by rfl) (by simp -implicitDefEqProofs [impl_PartsOf_l1_S,h_9,h_10,h_11]) (by simp -implicitDefEqProofs [impl_PartsOf_l1_S,h_9,h_10,h_11]),hR⟩
      ·replace H := HS.cnd_f h_11 H
       try simp -implicitDefEqProofs (maxSteps := 999999) [-selQ_sel,h_9,h_10,h_11]
       obtain ⟨h_12,H⟩ := HS.chkP H
       try simp -implicitDefEqProofs (maxSteps := 999999) [-selQ_sel,h_9,h_10,h_11,h_12]
       obtain ⟨l9,h_13,H⟩ := HS.nam H
       have m_14 := congrArg (List.map eS) h_13
       have q_15 := congrArg List.length h_13
       simp -implicitDefEqProofs at m_14 q_15
       try simp only [q_15] at m_14
       try simp only [q_15] at h_12
       try simp -implicitDefEqProofs (maxSteps := 999999) [-selQ_sel,h_9,h_10,h_11,h_12,m_14,q_15]
       have hr := (HS.some H).symm; subst hr
       exact Hid.mk ⟨impl_PartsOf_l1_S v4 ((IntKind.i64.wrap (x6 + 1)),l9),Wk.ofk [0] hk (by rfl) (by simp -implicitDefEqProofs [impl_PartsOf_l1_S,h_9,h_10,h_11,h_12,m_14,q_15]) (by simp -implicitDefEqProofs [impl_PartsOf_l1_S,h_9,h_10,h_11,h_12,m_14,q_15]),hR⟩
    ·revert H h_8; revert q; intro y10 h_8 H
     try dsimp only at H
     try simp -implicitDefEqProofs (maxSteps := 999999) [-selQ_sel,h_1,h_7,impl_PartsOf_l1_X]
     refine Hid.brV (fun h_16 => ?_) (fun h_16 => ?_)
     ·replace H := HS.cnd_t h_16 H
      try simp -implicitDefEqProofs (maxSteps := 999999) [-selQ_sel,h_1,h_7,h_16]
      have hr := (HS.some H).symm; subst hr
      refine Hid.mk ⟨_,Wk.refl _,?_⟩
      try simp -implicitDefEqProofs (maxSteps := 999999) [-selQ_sel,h_1,h_7,h_16]
     ·replace H := HS.cnd_f h_16 H
      try simp -implicitDefEqProofs (maxSteps := 999999) [-selQ_sel,h_1,h_7,h_16]
      have hr := (HS.some H).symm; subst hr
      refine Hid.mk ⟨_,Wk.refl _,?_⟩
      try simp -implicitDefEqProofs (maxSteps := 999999) [-selQ_sel,h_1,h_7,h_16]
   ·dsimp only at H
    try simp -implicitDefEqProofs (maxSteps := 999999) [-selQ_sel,h_1,impl_PartsOf_l0_X]
    have hr := (HS.some H).symm; subst hr
    refine Hid.mk ⟨_,Wk.refl _,?_⟩
    try simp -implicitDefEqProofs (maxSteps := 999999) [-selQ_sel,h_1]
 ·replace H := HS.cnd_f h_1 H
  try simp -implicitDefEqProofs (maxSteps := 999999) [-selQ_sel,h_1]
  have hr := (HS.some H).symm; subst hr
  refine Hid.mk ⟨_,Wk.refl _,?_⟩
  try simp -implicitDefEqProofs (maxSteps := 999999) [-selQ_sel,h_1]
theorem impl_Unhex_ok0 (hm : Tryd.prog.follows .mixedOrders = true) (k_strings_IndexByte : Sound Tryd.prog 79 strings_IndexByte_x) : Sound Tryd.prog 71 impl_Unhex_x := by
 refine xOf_sound fun q r h => ?_
 revert h; revert r; revert q; intro a0 r h
 refine fn_ok E0 hm Tryd.func71 rfl (by decide +kernel) (by rfl) fun Γ hn hk => ?_
 dsimp only [impl_Unhex_e,impl_Unhex_v]
 replace hn : Γ.n = 52 := hn
 replace hk : Γ.k = 0 := hk
 have H : HS (impl_Unhex a0) r := h
 clear h; unfold impl_Unhex at H
 try simp -implicitDefEqProofs at H
 refine Tr.of_vc (cl := tabC [(79,strings_IndexByte_x)]) (E := E0) [] (tab_cons k_strings_IndexByte tab_nil) hm (by rw [hn]; decide +kernel) ?_
 try simp -implicitDefEqProofs (maxSteps := 999999) [-selQ_sel]
 refine Hid.selQ (fun h_1 => ?_) (fun h_1 => ?_)
 ·replace H := HS.cnd_t h_1 H
  try simp -implicitDefEqProofs (maxSteps := 999999) [-selQ_sel,h_1]
  refine Hid.brV (fun h_2 => ?_) (fun h_2 => ?_)
  ·replace H := HS.cnd_t h_2 H
   try simp -implicitDefEqProofs (maxSteps := 999999) [-selQ_sel,h_1,h_2]
   obtain ⟨h_3,H⟩ := HS.chkP H
   try simp -implicitDefEqProofs (maxSteps := 999999) [-selQ_sel,h_1,h_2,h_3]
   obtain ⟨q,h_4,H⟩ := HS.bnd H
   refine Hid.mk (Tr.weak (s' := (impl_Unhex_l0_S a0) (0,[])) (Wk.ofk [0] hk (by rfl) (by simp -implicitDefEqProofs [impl_Unhex_l0_S,h_1,h_2,h_3]) (by simp -implicitDefEqProofs [impl_Unhex_l0_S,h_1,h_2,h_3])) ?_)
   refine wp_loop_of (S := (impl_Unhex_l0_S a0)) (f := (impl_Unhex_l0 a0)) (xt := (impl_Unhex_l0_X a0)) ?_ ?_ h_4 ?_
   ·intro q; rcases q with y12 | ⟨⟩ <;> simp [impl_Unhex_l0_X]
   ·clear H h_4 q
    rintro ⟨x5,x6⟩ o R hf hR
    have H : HS (impl_Unhex_l0 a0 (x5,x6)) o := hf
    clear hf; unfold impl_Unhex_l0 at H
    try simp -implicitDefEqProofs at H
    refine Tr.of_vc (cl := tabC [(79,strings_IndexByte_x)]) (E := E0) [] (tab_cons k_strings_IndexByte tab_nil) hm (by rw [hn]; decide +kernel) ?_
    try simp -implicitDefEqProofs (maxSteps := 999999) [-selQ_sel,impl_Unhex_l0_S]
    refine Hid.brV (fun h_5 => ?_) (fun h_5 => ?_)
    ·replace H := HS.cnd_t h_5 H
     try simp -implicitDefEqProofs (maxSteps := 999999) [-selQ_sel,h_5]
     have hr := (HS.some H).symm; subst hr
     exact Hid.mk ⟨(impl_Unhex_l0_X a0 (.inl x6)).2,Wk.ofk [0] hk (by rfl) (by simp -implicitDefEqProofs [impl_Unhex_l0_X,h_5]) (by simp -implicitDefEqProofs [impl_Unhex_l0_X,h_5]),hR⟩
    ·replace H := HS.cnd_f h_5 H
     try simp -implicitDefEqProofs (maxSteps := 999999) [-selQ_sel,h_5]
     obtain ⟨b7,h_6,H⟩ := HS.bnd H
     try simp -implicitDefEqProofs (maxSteps := 999999) [-selQ_sel,h_5,h_6]
     obtain ⟨v8,h_7,H⟩ := HS.bnd H
     try simp -implicitDefEqProofs (maxSteps := 999999) [-selQ_sel,h_5,h_6,h_7]
     obtain ⟨b9,h_8,H⟩ := HS.bnd H
     try simp -implicitDefEqProofs (maxSteps := 999999) [-selQ_sel,h_5,h_6,h_7,h_8]
     obtain ⟨v10,h_9,H⟩ := HS.bnd H
     try simp -implicitDefEqProofs (maxSteps := 999999) [-selQ_sel,h_5,h_6,h_7,h_8,h_9]
     refine Hid.selQ (fun h_10 => ?_) (fun h_10 => ?_)
     ·replace H := HS.cnd_t h_10 H
      try simp -implicitDefEqProofs (maxSteps := 999999) [-selQ_sel,h_5,h_6,h_7,h_8,h_9,h_10]
      refine Hid.brV (fun h_11 => ?_) (fun h_11 => ?_)
      ·replace H := HS.cnd_t h_11 H
       try simp -implicitDefEqProofs (maxSteps := 999999) [-selQ_sel,h_5,h_6,h_7,h_8,h_9,h_10,h_11]
       obtain ⟨h_12,H⟩ := HS.chkP H
       try simp -implicitDefEqProofs (maxSteps := 999999) [-selQ_sel,h_5,h_6,h_7,h_8,h_9,h_10,h_11,h_12]
       obtain ⟨l11,h_13,H⟩ := HS.nam H
       have m_14 := congrArg (List.map (AV.int .u8)) h_13
       have q_15 := congrArg List.length h_13
       simp -implicitDefEqProofs at m_14 q_15
       try simp only [q_15] at m_14
       try simp only [q_15] at h_12
       try simp -implicitDefEqProofs (maxSteps := 999999) [-selQ_sel,h_5,h_6,h_7,h_8,h_9,h_10,h_11,h_12,m_14,q_15]
       have hr := (HS.some H).symm; subst hr
       exact Hid.mk ⟨impl_Unhex_l0_S a0 ((IntKind.i64.wrap (x5 + 2)),l11),Wk.ofk [0] hk (by rfl) (by simp -implicitDefEqProofs [impl_Unhex_l0_S,h_5,h_6,h_7,h_8,h_9,h_10,h_11,h_12,m_14,q_15]) (by simp -implicitDefEqProofs [impl_Unhex_l0_S,h_5,h_6,h_7,h_8,h_9,h_10,h_11,h_12,m_14,q_15]),hR⟩
      ·replace H := HS.cnd_f h_11 H
       try simp -implicitDefEqProofs (maxSteps := 999999) [-selQ_sel,h_5,h_6,h_7,h_8,h_9,h_10,h_11]
       have hr := (HS.some H).symm; subst hr
       exact Hid.mk ⟨(impl_Unhex_l0_X a0 (.inr ())).2,Wk.ofk [] hk (by rfl) (by simp -implicitDefEqProofs [impl_Unhex_l0_X,h_5,h_6,h_7,h_8,h_9,h_10,h_11]) (by simp -implicitDefEqProofs [impl_Unhex_l0_X,h_5,h_6,h_7,h_8,h_9,h_10,h_11]),hR⟩
     ·replace H := HS.cnd_f h_10 H
      try simp -implicitDefEqProofs (maxSteps := 999999) [-selQ_sel,h_5,h_6,h_7,h_8,h_9,h_10]
      have hr := (HS.some H).symm; subst hr
      exact Hid.mk ⟨(impl_Unhex_l0_X a0 (.inr ())).2,Wk.ofk [] hk (by rfl) (by simp -implicitDefEqProofs [impl_Unhex_l0_X,h_5,h_6,h_7,h_8,h_9,h_10]) (by simp -implicitDefEqProofs [impl_Unhex_l0_X,h_5,h_6,h_7,h_8,h_9,h_10]),hR⟩
   ·rcases q with y12 | ⟨⟩
    ·dsimp only at H
     try simp -implicitDefEqProofs (maxSteps := 999999) [-selQ_sel,h_1,h_2,h_3,impl_Unhex_l0_X]
     have hr := (HS.some H).symm; subst hr
     refine Hid.mk ⟨_,Wk.refl _,?_⟩
     try simp -implicitDefEqProofs (maxSteps := 999999) [-selQ_sel,h_1,h_2,h_3]
    ·dsimp only at H
     try simp -implicitDefEqProofs (maxSteps := 999999) [-selQ_sel,h_1,h_2,h_3,impl_Unhex_l0_X]
     have hr := (HS.some H).symm; subst hr
     refine Hid.mk ⟨_,Wk.refl _,?_⟩
     try simp -implicitDefEqProofs (maxSteps := 999999) [-selQ_sel,h_1,h_2,h_3]
  ·replace H := HS.cnd_f h_2 H
   try simp -implicitDefEqProofs (maxSteps := 999999) [-selQ_sel,h_1,h_2]
   have hr := (HS.some H).symm; subst hr
   refine Hid.mk ⟨_,Wk.refl _,?_⟩
   try simp -implicitDefEqProofs (maxSteps := 999999) [-selQ_sel,h_1,h_2]
 ·replace H := HS.cnd_f h_1 H
  try simp -implicitDefEqProofs (maxSteps := 999999) [-selQ_sel,h_1]
  have hr := (HS.some H).symm; subst hr
  refine Hid.mk ⟨_,Wk.refl _,?_⟩
  try simp -implicitDefEqProofs (maxSteps := 999999) [-selQ_sel,h_1]
theorem spec_ReadDecimal_ok0 (hm : Tryd.prog.follows .mixedOrders = true) (k_spec_Decimal : Sound Tryd.prog 49 spec_Decimal_x) : Sound Tryd.prog 35 spec_ReadDecimal_x := by
 refine xOf_sound fun q r h => ?_
 revert h; revert r; revert q; intro a0 r h
 refine fn_ok E0 hm Tryd.func35 rfl (by decide +kernel) (by rfl) fun Γ hn hk => ?_
 dsimp only [spec_ReadDecimal_e,spec_ReadDecimal_v]
 replace hn : Γ.n = 42 := hn
 replace hk : Γ.k = 0 := hk
 have H : HS (spec_ReadDecimal a0) r := h
 clear h; unfold spec_ReadDecimal at H
 try simp -implicitDefEqProofs at H
 refine Tr.of_vc (cl := tabC [(49,spec_Decimal_x)]) (E := E0) [] (tab_cons k_spec_Decimal tab_nil) hm (by rw [hn]; decide +kernel) ?_
 try simp -implicitDefEqProofs (maxSteps := 999999) [-selQ_sel]
 refine Hid.brV (fun h_1 => ?_) (fun h_1 => ?_)
 ·replace H := HS.cnd_t h_1 H
  try simp -implicitDefEqProofs (maxSteps := 999999) [-selQ_sel,h_1]
  obtain ⟨q,h_2,H⟩ := HS.bnd H
  refine Hid.mk (Tr.weak (s' := (spec_ReadDecimal_l0_S a0) (0,0)) (Wk.ofk [] hk (by rfl) (by simp -implicitDefEqProofs [spec_ReadDecimal_l0_S,h_1]) (by simp -implicitDefEqProofs [spec_ReadDecimal_l0_S,h_1])) ?_)
  refine wp_loop_of (S := (spec_ReadDecimal_l0_S a0)) (f := (spec_ReadDecimal_l0 a0)) (xt := (spec_ReadDecimal_l0_X a0)) ?_ ?_ h_2 ?_
  ·intro q; rcases q with y5 | ⟨⟩ <;> simp [spec_ReadDecimal_l0_X]
  ·clear H h_2 q
   rintro ⟨x2,x3⟩ o R hf hR
   have H : HS (spec_ReadDecimal_l0 a0 (x2,x3)) o := hf
   clear hf; unfold spec_ReadDecimal_l0 at H
   try simp -implicitDefEqProofs at H
   refine Tr.of_vc (cl := tabC [(49,spec_Decimal_x)]) (E := E0) [] (tab_cons k_spec_Decimal tab_nil) hm (by rw [hn]; decide +kernel) ?_
   try simp -implicitDefEqProofs (maxSteps := 999999) [-selQ_sel,spec_ReadDecimal_l0_S]
   refine Hid.brV (fun h_3 => ?_) (fun h_3 => ?_)
   ·replace H := HS.cnd_t h_3 H
    try simp -implicitDefEqProofs (maxSteps := 999999) [-selQ_sel,h_3]
    have hr := (HS.some H).symm; subst hr
    exact Hid.mk ⟨(spec_ReadDecimal_l0_X a0 (.inl x2)).2,Wk.ofk [] hk (by rfl) (by simp -implicitDefEqProofs [spec_ReadDecimal_l0_X,h_3]) (by simp -implicitDefEqProofs [spec_ReadDecimal_l0_X,h_3]),hR⟩
   ·replace H := HS.cnd_f h_3 H
    try simp -implicitDefEqProofs (maxSteps := 999999) [-selQ_sel,h_3]
    obtain ⟨b4,h_4,H⟩ := HS.bnd H
    try simp -implicitDefEqProofs (maxSteps := 999999) [-selQ_sel,h_3,h_4]
    refine Hid.selQ (fun h_5 => ?_) (fun h_5 => ?_)
    ·replace H := HS.cnd_t h_5 H
     try simp -implicitDefEqProofs (maxSteps := 999999) [-selQ_sel,h_3,h_4,h_5]
     refine Hid.brV (fun h_6 => ?_) (fun h_6 => ?_)
     ·replace H := HS.cnd_t h_6 H
      try simp -implicitDefEqProofs (maxSteps := 999999) [-selQ_sel,h_3,h_4,h_5,h_6]
      have hr := (HS.some H).symm; subst hr
      exact Hid.mk ⟨spec_ReadDecimal_l0_S a0 ((IntKind.i64.wrap ((IntKind.i64.wrap ((IntKind.i64.wrap (10 * x2)) + (IntKind.i64.wrap (b4.toNat : Int)))) - 48)),(IntKind.i64.wrap (x3 + 1))),Wk.ofk [] hk (by rfl) (by simp -implicitDefEqProofs [spec_ReadDecimal_l0_S,h_3,h_4,h_5,h_6]) (by simp -implicitDefEqProofs [spec_ReadDecimal_l0_S,h_3,h_4,h_5,h_6]),hR⟩
     ·replace H := HS.cnd_f h_6 H
      try simp -implicitDefEqProofs (maxSteps := 999999) [-selQ_sel,h_3,h_4,h_5,h_6]
      have hr := (HS.some H).symm; subst hr
      exact Hid.mk ⟨(spec_ReadDecimal_l0_X a0 (.inr ())).2,Wk.ofk [] hk (by rfl) (by simp -implicitDefEqProofs [spec_ReadDecimal_l0_X,h_3,h_4,h_5,h_6]) (by simp -implicitDefEqProofs [spec_ReadDecimal_l0_X,h_3,h_4,h_5,h_6]),hR⟩
    ·replace H := HS.cnd_f h_5 H
     try simp -implicitDefEqProofs (maxSteps := 999999) [-selQ_sel,h_3,h_4,h_5]
     have hr := (HS.some H).symm; subst hr
     exact Hid.mk ⟨(spec_ReadDecimal_l0_X a0 (.inr ())).2,Wk.ofk [] hk (by rfl) (by simp -implicitDefEqProofs [spec_ReadDecimal_l0_X,h_3,h_4,h_5]) (by simp -implicitDefEqProofs [spec_ReadDecimal_l0_X,h_3,h_4,h_5]),hR⟩
  ·rcases q with y5 | ⟨⟩
   ·dsimp only at H
    try simp -implicitDefEqProofs (maxSteps := 999999) [-selQ_sel,h_1,spec_ReadDecimal_l0_X]
    refine Hid.selQ (fun h_7 => ?_) (fun h_7 => ?_)
    ·replace H := HS.cnd_t h_7 H
     try simp -implicitDefEqProofs (maxSteps := 999999) [-selQ_sel,h_1,h_7]
     obtain ⟨v6,h_8,H⟩ := HS.bnd H
     try simp -implicitDefEqProofs (maxSteps := 999999) [-selQ_sel,h_1,h_7,h_8]
     refine Hid.brV (fun h_9 => ?_) (fun h_9 => ?_)
     ·replace H := HS.cnd_t h_9 H
      try simp -implicitDefEqProofs (maxSteps := 999999) [-selQ_sel,h_1,h_7,h_8,h_9]
      have hr := (HS.some H).symm; subst hr
      refine Hid.mk ⟨_,Wk.refl _,?_⟩
      try simp -implicitDefEqProofs (maxSteps := 999999) [-selQ_sel,h_1,h_7,h_8,h_9]
     ·replace H := HS.cnd_f h_9 H
      try simp -implicitDefEqProofs (maxSteps := 999999) [-selQ_sel,h_1,h_7,h_8,h_9]
      have hr := (HS.some H).symm; subst hr
      refine Hid.mk ⟨_,Wk.refl _,?_⟩
      try simp -implicitDefEqProofs (maxSteps := 999999) [-selQ_sel,h_1,h_7,h_8,h_9]
    ·replace H := HS.cnd_f h_7 H
     try simp -implicitDefEqProofs (maxSteps := 999999) [-selQ_sel,h_1,h_7]
     have hr := (HS.some H).symm; subst hr
     refine Hid.mk ⟨_,Wk.refl _,?_⟩
     try simp -implicitDefEqProofs (maxSteps := 999999) [-selQ_sel,h_1,h_7]
   ·dsimp only at H
    try simp -implicitDefEqProofs (maxSteps := 999999) [-selQ_sel,h_1,spec_ReadDecimal_l0_X]
    have hr := (HS.some H).symm; subst hr
    refine Hid.mk ⟨_,Wk.refl _,?_⟩
    try simp -implicitDefEqProofs (maxSteps := 999999) [-selQ_sel,h_1]
 ·replace H := HS.cnd_f h_1 H
  try simp -implicitDefEqProofs (maxSteps := 999999) [-selQ_sel,h_1]
  have hr := (HS.some H).symm; subst hr
  refine Hid.mk ⟨_,Wk.refl _,?_⟩
  try simp -implicitDefEqProofs (maxSteps := 999999) [-selQ_sel,h_1]
theorem laws_eqPointS_ok0 (hm : Tryd.prog.follows .mixedOrders = true) (k_laws_eqPoint : Sound Tryd.prog 61 laws_eqPoint_x) : Sound Tryd.prog 59 laws_eqPointS_x := by
 refine xOf_sound fun q r h => ?_
 obtain ⟨a0,a1⟩ := q
 refine fn_ok E0 hm Tryd.func59 rfl (by decide +kernel) (by rfl) fun Γ hn hk => ?_
 dsimp only [laws_eqPointS_e,laws_eqPointS_v]
 replace hn : Γ.n = 27 := hn
 replace hk : Γ.k = 0 := hk
 have H : HS (laws_eqPointS a0 a1) r := h
 clear h; unfold laws_eqPointS at H
 try simp -implicitDefEqProofs at H
 refine Tr.of_vc (cl := tabC [(61,laws_eqPoint_x)]) (E := E0) [] (tab_cons k_laws_eqPoint tab_nil) hm (by rw [hn]; decide +kernel) ?_
 try simp -implicitDefEqProofs +decide (maxSteps := 999999) [-selQ_sel,hokQ_of]
 refine Hid.brV (fun h_1 => ?_) (fun h_1 => ?_)
 ·replace H := HS.cnd_t h_1 H
  try simp -implicitDefEqProofs +decide (maxSteps := 999999) [-selQ_sel,hokQ_of,h_1]
  obtain ⟨q,h_2,H⟩ := HS.bnd H
  refine Hid.mk (Tr.weak (s' := (laws_eqPointS_l0_S a0 a1) 0) (Wk.ofk [] hk (by rfl) (by simp -implicitDefEqProofs [laws_eqPointS_l0_S,h_1]) (by simp -implicitDefEqProofs [laws_eqPointS_l0_S,h_1])) ?_)
  refine wp_loop_of (S := (laws_eqPointS_l0_S a0 a1)) (f := (laws_eqPointS_l0 a0 a1)) (xt := (laws_eqPointS_l0_X a0 a1)) ?_ ?_ h_2 ?_
  ·intro q; rcases q with ⟨⟩ | ⟨⟩ <;> simp [laws_eqPointS_l0_X]
  ·clear H h_2 q
   rintro x4 o R hf hR
   have H : HS (laws_eqPointS_l0 a0 a1 x4) o := hf
   clear hf; unfold laws_eqPointS_l0 at H
   try simp -implicitDefEqProofs at H
   refine Tr.of_vc (cl := tabC [(61,laws_eqPoint_x)]) (E := E0) [] (tab_cons k_laws_eqPoint tab_nil) hm (by rw [hn]; decide +kernel) ?_
   try simp -implicitDefEqProofs +decide (maxSteps := 999999) [-selQ_sel,hokQ_of,laws_eqPointS_l0_S]
   refine Hid.brV (fun h_3 => ?_) (fun h_3 => ?_)
   ·replace H := HS.cnd_t h_3 H
    try simp -implicitDefEqProofs +decide (maxSteps := 999999) [-selQ_sel,hokQ_of,h_3]
    have hr := (HS.some H).symm; subst hr
    exact Hid.mk ⟨(laws_eqPointS_l0_X a0 a1 (.inl ())).2,Wk.ofk [] hk (by rfl) (by simp -implicitDefEqProofs [laws_eqPointS_l0_X,h_3]) (by simp -implicitDefEqProofs [laws_eqPointS_l0_X,h_3]),hR⟩
   ·replace H := HS.cnd_f h_3 H
    try simp -implicitDefEqProofs +decide (maxSteps := 999999) [-selQ_sel,hokQ_of,h_3]
    obtain ⟨v5,h_4,H⟩ := HS.bnd H
    try simp -implicitDefEqProofs +decide (maxSteps := 999999) [-selQ_sel,hokQ_of,h_3,h_4]
    obtain ⟨v6,h_5,H⟩ := HS.bnd H
    try simp -implicitDefEqProofs +decide (maxSteps := 999999) [-selQ_sel,hokQ_of,h_3,h_4,h_5]
    obtain ⟨v7,h_6,H⟩ := HS.bnd H
    try simp -implicitDefEqProofs +decide (maxSteps := 999999) [-selQ_sel,hokQ_of,h_3,h_4,h_5,h_6]
    refine Hid.brV (fun h_7 => ?_) (fun h_7 => ?_)
    ·replace H := HS.cnd_t h_7 H
     try simp -implicitDefEqProofs +decide (maxSteps := 999999) [-selQ_sel,hokQ_of,h_3,h_4,h_5,h_6,h_7]
     have hr := (HS.some H).symm; subst hr
     exact Hid.mk ⟨laws_eqPointS_l0_S a0 a1 (IntKind.i64.wrap (x4 + 1)),Wk.ofk [] hk (by rfl) (by simp -implicitDefEqProofs [laws_eqPointS_l0_S,h_3,h_4,h_5,h_6,h_7]) (by simp -implicitDefEqProofs [laws_eqPointS_l0_S,h_3,h_4,h_5,h_6,h_7]),hR⟩
    ·replace H := HS.cnd_f h_7 H
     try simp -implicitDefEqProofs +decide (maxSteps := 999999) [-selQ_sel,hokQ_of,h_3,h_4,h_5,h_6,h_7]
     have hr := (HS.some H).symm; subst hr
     exact Hid.mk ⟨(laws_eqPointS_l0_X a0 a1 (.inr ())).2,Wk.ofk [] hk (by rfl) (by simp -implicitDefEqProofs [laws_eqPointS_l0_X,h_3,h_4,h_5,h_6,h_7]) (by simp -implicitDefEqProofs [laws_eqPointS_l0_X,h_3,h_4,h_5,h_6,h_7]),hR⟩
  ·rcases q with ⟨⟩ | ⟨⟩
   ·dsimp only at H
    try simp -implicitDefEqProofs +decide (maxSteps := 999999) [-selQ_sel,hokQ_of,h_1,laws_eqPointS_l0_X]
    have hr := (HS.some H).symm; subst hr
    refine Hid.mk ⟨_,Wk.refl _,?_⟩
    try simp -implicitDefEqProofs +decide (maxSteps := 999999) [-selQ_sel,hokQ_of,h_1]
   ·dsimp only at H
    try simp -implicitDefEqProofs +decide (maxSteps := 999999) [-selQ_sel,hokQ_of,h_1,laws_eqPointS_l0_X]
    have hr := (HS.some H).symm; subst hr
    refine Hid.mk ⟨_,Wk.refl _,?_⟩
    try simp -implicitDefEqProofs +decide (maxSteps := 999999) [-selQ_sel,hokQ_of,h_1]
 ·replace H := HS.cnd_f h_1 H
  try simp -implicitDefEqProofs +decide (maxSteps := 999999) [-selQ_sel,hokQ_of,h_1]
  have hr := (HS.some H).symm; subst hr
  refine Hid.mk ⟨_,Wk.refl _,?_⟩
  try simp -implicitDefEqProofs +decide (maxSteps := 999999) [-selQ_sel,hokQ_of,h_1]
theorem spec_RectPath_ok0 (hm : Tryd.prog.follows .mixedOrders = true) (k_spec_Empty : Sound Tryd.prog 47 spec_Empty_x) (k_spec_PointOk : Sound Tryd.prog 48 spec_PointOk_x) : Sound Tryd.prog 34 spec_RectPath_x := by
 refine xOf_sound fun q r h => ?_
 revert h; revert r; revert q; intro a0 r h
 refine fn_ok E0 hm Tryd.func34 rfl (by decide +kernel) (by rfl) fun Γ hn hk => ?_
 dsimp only [spec_RectPath_e,spec_RectPath_v]
 replace hn : Γ.n = 45 := hn
 replace hk : Γ.k = 0 := hk
 have H : HS (spec_RectPath a0) r := h
 clear h; unfold spec_RectPath at H
 try simp -implicitDefEqProofs at H
 refine Tr.of_vc (cl := tabC [(47,spec_Empty_x),(48,spec_PointOk_x)]) (E := E0) [] (tab_cons k_spec_Empty (tab_cons k_spec_PointOk tab_nil)) hm (by rw [hn]; decide +kernel) ?_
 try simp -implicitDefEqProofs (maxSteps := 999999) [-selQ_sel]
 obtain ⟨v1,h_1,H⟩ := HS.bnd H
 try simp -implicitDefEqProofs (maxSteps := 999999) [-selQ_sel,h_1]
 refine Hid.selQ (fun h_2 => ?_) (fun h_2 => ?_)
 ·replace H := HS.cnd_t h_2 H
  try simp -implicitDefEqProofs (maxSteps := 999999) [-selQ_sel,h_1,h_2]
  have hr := (HS.some H).symm; subst hr
  refine Hid.mk ⟨⟨[(2,AV.optr 0 0 2)],[(0,Ob.box [AV.osl 1 0 0 0,AV.osl 2 0 0 0]),(1,Ob.arr 1 (List.map (AV.int .i64) []) false),(2,Ob.arr 2 (List.map ePoint []) false)],3⟩,Wk.ofk [1,3,4] hk (by rfl) (by simp -implicitDefEqProofs [h_1,h_2]) (by simp -implicitDefEqProofs [h_1,h_2]),?_⟩
  try simp -implicitDefEqProofs (maxSteps := 999999) [-selQ_sel,h_1,h_2]
 ·replace H := HS.cnd_f h_2 H
  try simp -implicitDefEqProofs (maxSteps := 999999) [-selQ_sel,h_1,h_2]
  obtain ⟨v2,h_3,H⟩ := HS.bnd H
  try simp -implicitDefEqProofs (maxSteps := 999999) [-selQ_sel,h_1,h_2,h_3]
  refine Hid.selQ (fun h_4 => ?_) (fun h_4 => ?_)
  ·replace H := HS.cnd_t h_4 H
   try simp -implicitDefEqProofs (maxSteps := 999999) [-selQ_sel,h_1,h_2,h_3,h_4]
   obtain ⟨v3,h_5,H⟩ := HS.bnd H
   try simp -implicitDefEqProofs (maxSteps := 999999) [-selQ_sel,h_1,h_2,h_3,h_4,h_5]
   refine Hid.brV (fun h_6 => ?_) (fun h_6 => ?_)
   ·replace H := HS.cnd_t h_6 H
    try simp -implicitDefEqProofs (maxSteps := 999999) [-selQ_sel,h_1,h_2,h_3,h_4,h_5,h_6]
    have hr := (HS.some H).symm; subst hr
    refine Hid.mk ⟨⟨[(2,AV.optr 0 0 2)],[(0,Ob.box [AV.osl 1 0 (List.length [1,2,2,2,5]) (List.length [1,2,2,2,5]),AV.osl 2 0 (List.length [(TPoint.mk a0.x0 a0.y0),(TPoint.mk a0.x1 a0.y0),(TPoint.mk a0.x1 a0.y1),(TPoint.mk a0.x0 a0.y1)]) (List.length [(TPoint.mk a0.x0 a0.y0),(TPoint.mk a0.x1 a0.y0),(TPoint.mk a0.x1 a0.y1),(TPoint.mk a0.x0 a0.y1)])]),(1,Ob.arr 1 (List.map (AV.int .i64) [1,2,2,2,5]) false),(2,Ob.arr 2 (List.map ePoint [(TPoint.mk a0.x0 a0.y0),(TPoint.mk a0.x1 a0.y0),(TPoint.mk a0.x1 a0.y1),(TPoint.mk a0.x0 a0.y1)]) false)],3⟩,Wk.ofk [1,3,2] hk (by rfl) (by simp -implicitDefEqProofs [h_1,h_2,h_3,h_4,h_5,h_6]) (by simp -implicitDefEqProofs [h_1,h_2,h_3,h_4,h_5,h_6]),?_⟩
    try simp -implicitDefEqProofs (maxSteps := 999999) [-selQ_sel,h_1,h_2,h_3,h_4,h_5,h_6]
   ·replace H := HS.cnd_f h_6 H
    try simp -implicitDefEqProofs (maxSteps := 999999) [-selQ_sel,h_1,h_2,h_3,h_4,h_5,h_6]
    have hr := (HS.some H).symm; subst hr
    refine Hid.mk ⟨⟨[(2,AV.optr 0 0 2)],[(0,Ob.box [AV.osl 1 0 0 0,AV.osl 2 0 0 0]),(1,Ob.arr 1 (List.map (AV.int .i64) []) false),(2,Ob.arr 2 (List.map ePoint []) false)],3⟩,Wk.ofk [1,3,4] hk (by rfl) (by simp -implicitDefEqProofs [h_1,h_2,h_3,h_4,h_5,h_6]) (by simp -implicitDefEqProofs [h_1,h_2,h_3,h_4,h_5,h_6]),?_⟩
    try simp -implicitDefEqProofs (maxSteps := 999999) [-selQ_sel,h_1,h_2,h_3,h_4,h_5,h_6]
  ·replace H := HS.cnd_f h_4 H
   try simp -implicitDefEqProofs (maxSteps := 999999) [-selQ_sel,h_1,h_2,h_3,h_4]
   have hr := (HS.some H).symm; subst hr
   refine Hid.mk ⟨⟨[(2,AV.optr 0 0 2)],[(0,Ob.box [AV.osl 1 0 0 0,AV.osl 2 0 0 0]),(1,Ob.arr 1 (List.map (AV.int .i64) []) false),(2,Ob.arr 2 (List.map ePoint []) false)],3⟩,Wk.ofk [1,3,4] hk (by rfl) (by simp -implicitDefEqProofs [h_1,h_2,h_3,h_4]) (by simp -implicitDefEqProofs [h_1,h_2,h_3,h_4]),?_⟩
   try simp -implicitDefEqProofs (maxSteps := 999999) [-selQ_sel,h_1,h_2,h_3,h_4]
theorem laws_heldPointS_ok0 (hm : Tryd.prog.follows .mixedOrders = true) : Sound Tryd.prog 21 laws_heldPointS_x := by
 refine xOf_sound fun q r h => ?_
 obtain ⟨a0,a1⟩ := q
 refine fn_ok E0 hm Tryd.func21 rfl (by decide +kernel) (by rfl) fun Γ hn hk => ?_
 dsimp only [laws_heldPointS_e,laws_heldPointS_v]
 replace hn : Γ.n = 31 := hn
 replace hk : Γ.k = 0 := hk
 have H : HS (laws_heldPointS a0 a1) r := h
 clear h; unfold laws_heldPointS at H
 try simp -implicitDefEqProofs at H
 refine Tr.of_vc (cl := tabC []) (E := E0) [] tab_nil hm (by rw [hn]; decide +kernel) ?_
 try simp -implicitDefEqProofs (maxSteps := 999999) [-selQ_sel]
 obtain ⟨q,h_1,H⟩ := HS.bnd H
 refine Hid.mk (Tr.weak (s' := (laws_heldPointS_l0_S a0) (a1,0)) (Wk.ofk [] hk (by rfl) (by simp -implicitDefEqProofs [laws_heldPointS_l0_S]) (by simp -implicitDefEqProofs [laws_heldPointS_l0_S])) ?_)
 refine wp_loop_of (S := (laws_heldPointS_l0_S a0)) (f := (laws_heldPointS_l0 a0)) (xt := (laws_heldPointS_l0_X a0)) ?_ ?_ h_1 ?_
 ·intro q; rcases q with y5 | ⟨⟩ <;> simp [laws_heldPointS_l0_X]
 ·clear H h_1 q
  rintro ⟨x2,x3⟩ o R hf hR
  have H : HS (laws_heldPointS_l0 a0 (x2,x3)) o := hf
  clear hf; unfold laws_heldPointS_l0 at H
  try simp -implicitDefEqProofs at H
  refine Tr.of_vc (cl := tabC []) (E := E0) [] tab_nil hm (by rw [hn]; decide +kernel) ?_
  try simp -implicitDefEqProofs (maxSteps := 999999) [-selQ_sel,laws_heldPointS_l0_S]
  refine Hid.brV (fun h_2 => ?_) (fun h_2 => ?_)
  ·replace H := HS.cnd_t h_2 H
   try simp -implicitDefEqProofs (maxSteps := 999999) [-selQ_sel,h_2]
   have hr := (HS.some H).symm; subst hr
   exact Hid.mk ⟨(laws_heldPointS_l0_X a0 (.inl x2)).2,Wk.ofk [] hk (by rfl) (by simp -implicitDefEqProofs [laws_heldPointS_l0_X,h_2]) (by simp -implicitDefEqProofs [laws_heldPointS_l0_X,h_2]),hR⟩
  ·replace H := HS.cnd_f h_2 H
   try simp -implicitDefEqProofs (maxSteps := 999999) [-selQ_sel,h_2]
   obtain ⟨v4,h_3,H⟩ := HS.bnd H
   try simp -implicitDefEqProofs (maxSteps := 999999) [-selQ_sel,h_2,h_3]
   refine Hid.brV (fun h_4 => ?_) (fun h_4 => ?_)
   ·replace H := HS.cnd_t h_4 H
    try simp -implicitDefEqProofs (maxSteps := 999999) [-selQ_sel,h_2,h_3,h_4]
    refine Hid.brV (fun h_5 => ?_) (fun h_5 => ?_)
    ·replace H := HS.cnd_t h_5 H
     try simp -implicitDefEqProofs (maxSteps := 999999) [-selQ_sel,h_2,h_3,h_4,h_5]
     have hr := (HS.some H).symm; subst hr
     exact Hid.mk ⟨laws_heldPointS_l0_S a0 ((IntKind.i64.wrap ((IntKind.i64.wrap (x2 + 1)) + 1)),(IntKind.i64.wrap (x3 + 1))),Wk.ofk [] hk (by rfl) (by simp -implicitDefEqProofs [laws_heldPointS_l0_S,h_2,h_3,h_4,h_5]) (by simp -implicitDefEqProofs [laws_heldPointS_l0_S,h_2,h_3,h_4,h_5]),hR⟩
    ·replace H := HS.cnd_f h_5 H
     try simp -implicitDefEqProofs (maxSteps := 999999) [-selQ_sel,h_2,h_3,h_4,h_5]
     have hr := (HS.some H).symm; subst hr
     exact Hid.mk ⟨(laws_heldPointS_l0_X a0 (.inr ())).2,Wk.ofk [] hk (by rfl) (by simp -implicitDefEqProofs [laws_heldPointS_l0_X,h_2,h_3,h_4,h_5]) (by simp -implicitDefEqProofs [laws_heldPointS_l0_X,h_2,h_3,h_4,h_5]),hR⟩
   ·replace H := HS.cnd_f h_4 H
    try simp -implicitDefEqProofs (maxSteps := 999999) [-selQ_sel,h_2,h_3,h_4]
    have hr := (HS.some H).symm; subst hr
    exact Hid.mk ⟨(laws_heldPointS_l0_X a0 (.inr ())).2,Wk.ofk [] hk (by rfl) (by simp -implicitDefEqProofs [laws_heldPointS_l0_X,h_2,h_3,h_4]) (by simp -implicitDefEqProofs [laws_heldPointS_l0_X,h_2,h_3,h_4]),hR⟩
 ·rcases q with y5 | ⟨⟩
  ·dsimp only at H
   try simp -implicitDefEqProofs (maxSteps := 999999) [-selQ_sel,laws_heldPointS_l0_X]
   have hr := (HS.some H).symm; subst hr
   refine Hid.mk ⟨_,Wk.refl _,?_⟩
   try simp -implicitDefEqProofs (maxSteps := 999999) [-selQ_sel]
  ·dsimp only at H
   try simp -implicitDefEqProofs (maxSteps := 999999) [-selQ_sel,laws_heldPointS_l0_X]
   have hr := (HS.some H).symm; subst hr
   refine Hid.mk ⟨_,Wk.refl _,?_⟩
   try simp -implicitDefEqProofs (maxSteps := 999999) [-selQ_sel]
def xtItoaR : Go.Shelf.Ren := ⟨fun n => if n = 129 then 91 else if n = 171 then 80 else if n = 243 then 84 else if n = 246 then 85 else if n = 283 then 86 else if n = 284 then 87 else if n = 285 then 88 else if n = 286 then 89 else if n = 317 then 90 else if n = 318 then 92 else if n = 319 then 93 else if n = 320 then 94 else if n = 337 then 95 else if n = 338 then 96 else 0,fun n => if n = 0 then 0 else if n = 2 then 2 else if n = 3 then 3 else if n = 4 then 4 else if n = 5 then 5 else if n = 9 then 9 else if n = 20 then 20 else if n = 37 then 111 else if n = 46 then 121 else if n = 51 then 126 else if n = 53 then 131 else if n = 171 then 130 else if n = 173 then 134 else if n = 212 then 137 else if n = 213 then 138 else if n = 232 then 141 else if n = 233 then 142 else 0,fun n => if n = 1 then 0 else if n = 3 then 1 else if n = 4 then 2 else if n = 17 then 3 else if n = 18 then 4 else if n = 19 then 5 else 0⟩
theorem xtItoaL : Go.Proofs.LaysM.n171 Tryd.prog xtItoaR where
 mixed := by kernel_rfl
 f129 := by kernel_rfl
 f171 := by kernel_rfl
 f243 := by kernel_rfl
 f246 := by kernel_rfl
 f283 := by kernel_rfl
 f284 := by kernel_rfl
 f285 := by kernel_rfl
 f286 := by kernel_rfl
 f317 := by kernel_rfl
 f318 := by kernel_rfl
 f319 := by kernel_rfl
 f320 := by kernel_rfl
 f337 := by kernel_rfl
 f338 := by kernel_rfl
 t0 := by kernel_rfl
 a0 := fun _ => rfl
 z0 := fun _ => rfl
 v0 := fun _ => rfl
 t2 := by kernel_rfl
 a2 := fun _ => rfl
 z2 := fun _ => rfl
 v2 := fun _ => rfl
 t3 := by kernel_rfl
 a3 := fun _ => rfl
 z3 := fun _ => rfl
 v3 := fun _ => rfl
 t4 := by kernel_rfl
 a4 := fun _ => rfl
 z4 := fun _ => rfl
 v4 := fun _ => rfl
 t5 := by kernel_rfl
 a5 := fun _ => rfl
 z5 := fun _ => rfl
 v5 := fun _ => rfl
 t9 := by kernel_rfl
 a9 := fun _ => rfl
 z9 := fun _ => rfl
 v9 := fun _ => rfl
 t20 := by kernel_rfl
 a20 := fun _ => rfl
 z20 := fun _ => rfl
 v20 := fun _ => rfl
 t37 := by kernel_rfl
 a37 := fun _ => rfl
 z37 := fun _ => rfl
 v37 := fun _ => rfl
 t46 := by kernel_rfl
 a46 := fun _ => rfl
 z46 := fun _ => rfl
 v46 := fun _ => rfl
 t51 := by kernel_rfl
 a51 := fun _ => rfl
 z51 := fun _ => rfl
 v51 := fun _ => rfl
 t53 := by kernel_rfl
 a53 := fun _ => rfl
 z53 := fun _ => rfl
 v53 := fun _ => rfl
 t171 := by kernel_rfl
 a171 := fun _ => rfl
 z171 := fun _ => rfl
 v171 := fun _ => rfl
 t173 := by kernel_rfl
 a173 := fun _ => rfl
 z173 := fun _ => rfl
 v173 := fun _ => rfl
 t212 := by kernel_rfl
 a212 := fun _ => rfl
 z212 := fun _ => rfl
 v212 := fun _ => rfl
 t213 := by kernel_rfl
 a213 := fun _ => rfl
 z213 := fun _ => rfl
 t232 := by kernel_rfl
 a232 := fun _ => rfl
 z232 := fun _ => rfl
 v232 := fun _ => rfl
 t233 := by kernel_rfl
 a233 := fun _ => rfl
 z233 := fun _ => rfl
 v233 := fun _ => rfl
 g17 := by kernel_rfl
 g18 := by kernel_rfl
 g19 := by kernel_rfl
 i0 := by kernel_rfl
 i2 := by kernel_rfl
 i3 := by kernel_rfl
 i4 := by kernel_rfl
 i5 := by kernel_rfl
 i9 := by kernel_rfl
 i20 := by kernel_rfl
 i37 := by kernel_rfl
 i46 := by kernel_rfl
 i51 := by kernel_rfl
 i53 := by kernel_rfl
 i171 := by kernel_rfl
 i173 := by kernel_rfl
 i212 := by kernel_rfl
 i232 := by kernel_rfl
 i233 := by kernel_rfl
 m17 := by kernel_rfl
 m18 := by kernel_rfl
 m19 := by kernel_rfl
theorem strconv_Itoa_ok0 (hm : Tryd.prog.follows .mixedOrders = true) : Sound Tryd.prog 80 strconv_Itoa_x := by
 refine xOf_sound fun q r h => ?_
 revert h; revert r; revert q; intro a0 r h
 have H : HS (strconv_Itoa a0) r := h
 clear h; unfold strconv_Itoa at H
 obtain ⟨h1,H⟩ := HS.chkP H
 have hr := (HS.some H).symm; subst hr
 exact ⟨⟨Tryd.f80,_,Tryd.func80,rfl,by decide +kernel⟩,ck_itoa (by kernel_rfl) (fun n k1 k2 w k3 => Go.Proofs.Any.strconv_Itoa xtItoaL n k1 k2 w k3) h1.1 h1.2⟩
theorem laws_markPointS_ok0 (hm : Tryd.prog.follows .mixedOrders = true) : Sound Tryd.prog 19 laws_markPointS_x := by
 refine xOf_sound fun q r h => ?_
 obtain ⟨a0,a1⟩ := q
 refine fn_ok E0 hm Tryd.func19 rfl (by decide +kernel) (by rfl) fun Γ hn hk => ?_
 dsimp only [laws_markPointS_e,laws_markPointS_v]
 replace hn : Γ.n = 27 := hn
 replace hk : Γ.k = 1 := hk
 have H : HS (laws_markPointS a0 a1) r := h
 clear h; unfold laws_markPointS at H
 try simp -implicitDefEqProofs at H
 refine Tr.of_vc (cl := tabC []) (E := E0) [] tab_nil hm (by rw [hn]; decide +kernel) ?_
 try simp -implicitDefEqProofs (maxSteps := 999999) [-selQ_sel]
 obtain ⟨q,h_1,H⟩ := HS.bnd H
 refine Hid.mk (Tr.weak (s' := laws_markPointS_l0_S (a0,0,a1)) (Wk.ofk [0] hk (by rfl) (by simp -implicitDefEqProofs [laws_markPointS_l0_S]) (by simp -implicitDefEqProofs [laws_markPointS_l0_S])) ?_)
 refine wp_loop_of (S := laws_markPointS_l0_S) (f := laws_markPointS_l0) (xt := laws_markPointS_l0_X) ?_ ?_ h_1 ?_
 ·intro q; rcases q with ⟨y12,y13⟩ <;> simp [laws_markPointS_l0_X]
 ·clear H h_1 q
  rintro ⟨x5,x6,x7⟩ o R hf hR
  have H : HS (laws_markPointS_l0 (x5,x6,x7)) o := hf
  clear hf; unfold laws_markPointS_l0 at H
  try simp -implicitDefEqProofs at H
  refine Tr.of_vc (cl := tabC []) (E := E0) [] tab_nil hm (by rw [hn]; decide +kernel) ?_
  try simp -implicitDefEqProofs (maxSteps := 999999) [-selQ_sel,laws_markPointS_l0_S]
  refine Hid.brV (fun h_2 => ?_) (fun h_2 => ?_)
  ·replace H := HS.cnd_t h_2 H
   try simp -implicitDefEqProofs (maxSteps := 999999) [-selQ_sel,h_2]
   have hr := (HS.some H).symm; subst hr
   exact Hid.mk ⟨(laws_markPointS_l0_X (x7,x5)).2,Wk.ofk [0] hk (by rfl) (by simp -implicitDefEqProofs [laws_markPointS_l0_X,h_2]) (by simp -implicitDefEqProofs [laws_markPointS_l0_X,h_2]),hR⟩
  ·replace H := HS.cnd_f h_2 H
   try simp -implicitDefEqProofs (maxSteps := 999999) [-selQ_sel,h_2]
   obtain ⟨v8,h_3,H⟩ := HS.bnd H
   have g_4 := idx_get h_3
   try simp -implicitDefEqProofs (maxSteps := 999999) [-selQ_sel,h_2,h_3,g_4]
   obtain ⟨l9,h_5,H⟩ := HS.nam H
   have m_6 := congrArg (List.map ePoint) h_5
   have q_7 := congrArg List.length h_5
   simp -implicitDefEqProofs at m_6 q_7
   try simp only [q_7] at m_6
   try simp only [q_7] at g_4
   try simp -implicitDefEqProofs (maxSteps := 999999) [-selQ_sel,h_2,h_3,g_4,m_6,q_7]
   obtain ⟨v10,h_8,H⟩ := HS.bnd H
   have g_9 := idx_get h_8
   try simp -implicitDefEqProofs (maxSteps := 999999) [-selQ_sel,h_2,h_3,g_4,m_6,q_7,h_8,g_9]
   obtain ⟨l11,h_10,H⟩ := HS.nam H
   have m_11 := congrArg (List.map ePoint) h_10
   have q_12 := congrArg List.length h_10
   simp -implicitDefEqProofs at m_11 q_12
   try simp only [q_12] at m_11
   try simp only [q_12] at g_9
   try simp -implicitDefEqProofs (maxSteps := 999999) [-selQ_sel,h_2,h_3,g_4,m_6,q_7,h_8,g_9,m_11,q_12]
   have hr := (HS.some H).symm; subst hr
   exact Hid.mk ⟨laws_markPointS_l0_S ((IntKind.i64.wrap ((IntKind.i64.wrap (x5 + 1)) + 1)),(IntKind.i64.wrap (x6 + 1)),l11),Wk.ofk [0] hk (by rfl) (by simp -implicitDefEqProofs [laws_markPointS_l0_S,h_2,h_3,g_4,m_6,q_7,h_8,g_9,m_11,q_12]) (by simp -implicitDefEqProofs [laws_markPointS_l0_S,h_2,h_3,g_4,m_6,q_7,h_8,g_9,m_11,q_12]),hR⟩
 ·obtain ⟨y12,y13⟩ := q
  try dsimp only at H
  try simp -implicitDefEqProofs (maxSteps := 999999) [-selQ_sel,laws_markPointS_l0_X]
  have hr := (HS.some H).symm; subst hr
  refine Hid.mk ⟨_,Wk.refl _,?_⟩
  try simp -implicitDefEqProofs (maxSteps := 999999) [-selQ_sel]
theorem impl_RectPath_ok0 (hm : Tryd.prog.follows .mixedOrders = true) (k_impl_corners : Sound Tryd.prog 68 impl_corners_x) (k_impl_Empty : Sound Tryd.prog 69 impl_Empty_x) (k_impl_pointsOk : Sound Tryd.prog 70 impl_pointsOk_x) : Sound Tryd.prog 56 impl_RectPath_x := by
 refine xOf_sound fun q r h => ?_
 revert h; revert r; revert q; intro a0 r h
 refine fn_ok E0 hm Tryd.func56 rfl (by decide +kernel) (by rfl) fun Γ hn hk => ?_
 dsimp only [impl_RectPath_e,impl_RectPath_v]
 replace hn : Γ.n = 17 := hn
 replace hk : Γ.k = 0 := hk
 have H : HS (impl_RectPath a0) r := h
 clear h; unfold impl_RectPath at H
 try simp -implicitDefEqProofs at H
 refine Tr.of_vc (cl := tabC [(68,impl_corners_x),(69,impl_Empty_x),(70,impl_pointsOk_x)]) (E := E0) [] (tab_cons k_impl_corners (tab_cons k_impl_Empty (tab_cons k_impl_pointsOk tab_nil))) hm (by rw [hn]; decide +kernel) ?_
 try simp -implicitDefEqProofs (maxSteps := 999999) [-selQ_sel]
 obtain ⟨v1,h_1,H⟩ := HS.bnd H
 try simp -implicitDefEqProofs (maxSteps := 999999) [-selQ_sel,h_1]
 obtain ⟨v2,h_2,H⟩ := HS.bnd H
 try simp -implicitDefEqProofs (maxSteps := 999999) [-selQ_sel,h_1,h_2]
 refine Hid.selQ (fun h_3 => ?_) (fun h_3 => ?_)
 ·replace H := HS.cnd_t h_3 H
  try simp -implicitDefEqProofs (maxSteps := 999999) [-selQ_sel,h_1,h_2,h_3]
  have hr := (HS.some H).symm; subst hr
  refine Hid.mk ⟨⟨[(2,AV.optr 0 0 2)],[(0,Ob.box [AV.osl 1 0 0 0,AV.osl 2 0 0 0]),(1,Ob.arr 1 (List.map (AV.int .i64) []) false),(2,Ob.arr 2 (List.map ePoint []) false)],3⟩,Wk.ofk [1,3,4] hk (by rfl) (by simp -implicitDefEqProofs [h_1,h_2,h_3]) (by simp -implicitDefEqProofs [h_1,h_2,h_3]),?_⟩
  try simp -implicitDefEqProofs (maxSteps := 999999) [-selQ_sel,h_1,h_2,h_3]
 ·replace H := HS.cnd_f h_3 H
  try simp -implicitDefEqProofs (maxSteps := 999999) [-selQ_sel,h_1,h_2,h_3]
  obtain ⟨v3,h_4,H⟩ := HS.bnd H
  try simp -implicitDefEqProofs (maxSteps := 999999) [-selQ_sel,h_1,h_2,h_3,h_4]
  refine Hid.brV (fun h_5 => ?_) (fun h_5 => ?_)
  ·replace H := HS.cnd_t h_5 H
   try simp -implicitDefEqProofs (maxSteps := 999999) [-selQ_sel,h_1,h_2,h_3,h_4,h_5]
   have hr := (HS.some H).symm; subst hr
   refine Hid.mk ⟨⟨[(2,AV.optr 0 0 2)],[(0,Ob.box [AV.osl 1 0 (List.length [1,2,2,2,5]) (List.length [1,2,2,2,5]),AV.osl 2 0 (List.length v1) (List.length v1)]),(1,Ob.arr 1 (List.map (AV.int .i64) [1,2,2,2,5]) false),(2,Ob.arr 2 (List.map ePoint v1) false)],3⟩,Wk.ofk [1,3,2] hk (by rfl) (by simp -implicitDefEqProofs [h_1,h_2,h_3,h_4,h_5]) (by simp -implicitDefEqProofs [h_1,h_2,h_3,h_4,h_5]),?_⟩
   try simp -implicitDefEqProofs (maxSteps := 999999) [-selQ_sel,h_1,h_2,h_3,h_4,h_5]
  ·replace H := HS.cnd_f h_5 H
   try simp -implicitDefEqProofs (maxSteps := 999999) [-selQ_sel,h_1,h_2,h_3,h_4,h_5]
   have hr := (HS.some H).symm; subst hr
   refine Hid.mk ⟨⟨[(2,AV.optr 0 0 2)],[(0,Ob.box [AV.osl 1 0 0 0,AV.osl 2 0 0 0]),(1,Ob.arr 1 (List.map (AV.int .i64) []) false),(2,Ob.arr 2 (List.map ePoint []) false)],3⟩,Wk.ofk [1,3,4] hk (by rfl) (by simp -implicitDefEqProofs [h_1,h_2,h_3,h_4,h_5]) (by simp -implicitDefEqProofs [h_1,h_2,h_3,h_4,h_5]),?_⟩
   try simp -implicitDefEqProofs (maxSteps := 999999) [-selQ_sel,h_1,h_2,h_3,h_4,h_5]
theorem laws_markIntS_ok0 (hm : Tryd.prog.follows .mixedOrders = true) : Sound Tryd.prog 18 laws_markIntS_x := by
 refine xOf_sound fun q r h => ?_
 obtain ⟨a0,a1⟩ := q
 refine fn_ok E0 hm Tryd.func18 rfl (by decide +kernel) (by rfl) fun Γ hn hk => ?_
 dsimp only [laws_markIntS_e,laws_markIntS_v]
 replace hn : Γ.n = 19 := hn
 replace hk : Γ.k = 1 := hk
 have H : HS (laws_markIntS a0 a1) r := h
 clear h; unfold laws_markIntS at H
 try simp -implicitDefEqProofs at H
 refine Tr.of_vc (cl := tabC []) (E := E0) [] tab_nil hm (by rw [hn]; decide +kernel) ?_
 try simp -implicitDefEqProofs (maxSteps := 999999) [-selQ_sel]
 obtain ⟨q,h_1,H⟩ := HS.bnd H
 refine Hid.mk (Tr.weak (s' := laws_markIntS_l0_S (a0,0,a1)) (Wk.ofk [0] hk (by rfl) (by simp -implicitDefEqProofs [laws_markIntS_l0_S]) (by simp -implicitDefEqProofs [laws_markIntS_l0_S])) ?_)
 refine wp_loop_of (S := laws_markIntS_l0_S) (f := laws_markIntS_l0) (xt := laws_markIntS_l0_X) ?_ ?_ h_1 ?_
 ·intro q; rcases q with ⟨y8,y9⟩ <;> simp [laws_markIntS_l0_X]
 ·clear H h_1 q
  rintro ⟨x3,x4,x5⟩ o R hf hR
  have H : HS (laws_markIntS_l0 (x3,x4,x5)) o := hf
  clear hf; unfold laws_markIntS_l0 at H
  try simp -implicitDefEqProofs at H
  refine Tr.of_vc (cl := tabC []) (E := E0) [] tab_nil hm (by rw [hn]; decide +kernel) ?_
  try simp -implicitDefEqProofs (maxSteps := 999999) [-selQ_sel,laws_markIntS_l0_S]
  refine Hid.brV (fun h_2 => ?_) (fun h_2 => ?_)
  ·replace H := HS.cnd_t h_2 H
   try simp -implicitDefEqProofs (maxSteps := 999999) [-selQ_sel,h_2]
   have hr := (HS.some H).symm; subst hr
   exact Hid.mk ⟨(laws_markIntS_l0_X (x5,x3)).2,Wk.ofk [0] hk (by rfl) (by simp -implicitDefEqProofs [laws_markIntS_l0_X,h_2]) (by simp -implicitDefEqProofs [laws_markIntS_l0_X,h_2]),hR⟩
  ·replace H := HS.cnd_f h_2 H
   try simp -implicitDefEqProofs (maxSteps := 999999) [-selQ_sel,h_2]
   obtain ⟨v6,h_3,H⟩ := HS.bnd H
   have g_4 := idx_get h_3
   try simp -implicitDefEqProofs (maxSteps := 999999) [-selQ_sel,h_2,h_3,g_4]
   obtain ⟨l7,h_5,H⟩ := HS.nam H
   have m_6 := congrArg (List.map (AV.int .i64)) h_5
   have q_7 := congrArg List.length h_5
   simp -implicitDefEqProofs at m_6 q_7
   try simp only [q_7] at m_6
   try simp only [q_7] at g_4
   try simp -implicitDefEqProofs (maxSteps := 999999) [-selQ_sel,h_2,h_3,g_4,m_6,q_7]
   have hr := (HS.some H).symm; subst hr
   exact Hid.mk ⟨laws_markIntS_l0_S ((IntKind.i64.wrap (x3 + 1)),(IntKind.i64.wrap (x4 + 1)),l7),Wk.ofk [0] hk (by rfl) (by simp -implicitDefEqProofs [laws_markIntS_l0_S,h_2,h_3,g_4,m_6,q_7]) (by simp -implicitDefEqProofs [laws_markIntS_l0_S,h_2,h_3,g_4,m_6,q_7]),hR⟩
 ·obtain ⟨y8,y9⟩ := q
  try dsimp only at H
  try simp -implicitDefEqProofs (maxSteps := 999999) [-selQ_sel,laws_markIntS_l0_X]
  have hr := (HS.some H).symm; subst hr
  refine Hid.mk ⟨_,Wk.refl _,?_⟩
  try simp -implicitDefEqProofs (maxSteps := 999999) [-selQ_sel]
theorem spec_EngineNew_ok0 (hm : Tryd.prog.follows .mixedOrders = true) (k_spec_SurfaceNew : Sound Tryd.prog 24 spec_SurfaceNew_x) (k_spec_TileCount : Sound Tryd.prog 25 spec_TileCount_x) : Sound Tryd.prog 12 spec_EngineNew_x := by
 refine xOf_sound fun q r h => ?_
 obtain ⟨a0,a1⟩ := q
 refine fn_ok E0 hm Tryd.func12 rfl (by decide +kernel) (by rfl) fun Γ hn hk => ?_
 dsimp only [spec_EngineNew_e,spec_EngineNew_v]
 replace hn : Γ.n = 24 := hn
 replace hk : Γ.k = 0 := hk
 have H : HS (spec_EngineNew a0 a1) r := h
 clear h; unfold spec_EngineNew at H
 try simp -implicitDefEqProofs at H
 refine Tr.of_vc (cl := tabC [(24,spec_SurfaceNew_x),(25,spec_TileCount_x)]) (E := E0) [] (tab_cons k_spec_SurfaceNew (tab_cons k_spec_TileCount tab_nil)) hm (by rw [hn]; decide +kernel) ?_
 try simp -implicitDefEqProofs +decide (maxSteps := 999999) [-selQ_sel,hokQ_of]
 obtain ⟨⟨w2,w3⟩,h_1,H⟩ := HS.bnd H
 try dsimp only at H
 try simp -implicitDefEqProofs +decide (maxSteps := 999999) [-selQ_sel,hokQ_of,h_1]
 refine Hid.brV (fun h_2 => ?_) (fun h_2 => ?_)
 ·replace H := HS.cnd_t h_2 H
  try simp -implicitDefEqProofs +decide (maxSteps := 999999) [-selQ_sel,hokQ_of,h_1,h_2]
  obtain ⟨v4,h_3,H⟩ := HS.bnd H
  try simp -implicitDefEqProofs +decide (maxSteps := 999999) [-selQ_sel,hokQ_of,h_1,h_2,h_3]
  obtain ⟨h_4,H⟩ := HS.chkP H
  try simp -implicitDefEqProofs +decide (maxSteps := 999999) [-selQ_sel,hokQ_of,h_1,h_2,h_3,h_4]
  obtain ⟨l5,h_5,H⟩ := HS.nam H
  have m_6 := congrArg (List.map (AV.int .i64)) h_5
  have q_7 := congrArg List.length h_5
  simp -implicitDefEqProofs at m_6 q_7
  try simp only [q_7] at m_6
  try simp only [q_7] at h_4
  try simp -implicitDefEqProofs +decide (maxSteps := 999999) [-selQ_sel,hokQ_of,h_1,h_2,h_3,h_4,m_6,q_7]
  have hr := (HS.some H).symm; subst hr
  refine Hid.mk ⟨_,Wk.refl _,?_⟩
  try simp -implicitDefEqProofs +decide (maxSteps := 999999) [-selQ_sel,hokQ_of,h_1,h_2,h_3,h_4,m_6,q_7]
 ·replace H := HS.cnd_f h_2 H
  try simp -implicitDefEqProofs +decide (maxSteps := 999999) [-selQ_sel,hokQ_of,h_1,h_2]
  have hr := (HS.some H).symm; subst hr
  refine Hid.mk ⟨_,Wk.refl _,?_⟩
  try simp -implicitDefEqProofs +decide (maxSteps := 999999) [-selQ_sel,hokQ_of,h_1,h_2]
theorem spec_TileCount_ok0 (hm : Tryd.prog.follows .mixedOrders = true) (k_spec_l01In : Sound Tryd.prog 36 spec_l01In_x) : Sound Tryd.prog 25 spec_TileCount_x := by
 refine xOf_sound fun q r h => ?_
 obtain ⟨a0,a1⟩ := q
 refine fn_ok E0 hm Tryd.func25 rfl (by decide +kernel) (by rfl) fun Γ hn hk => ?_
 dsimp only [spec_TileCount_e,spec_TileCount_v]
 replace hn : Γ.n = 20 := hn
 replace hk : Γ.k = 0 := hk
 have H : HS (spec_TileCount a0 a1) r := h
 clear h; unfold spec_TileCount at H
 try simp -implicitDefEqProofs at H
 refine Tr.of_vc (cl := tabC [(36,spec_l01In_x)]) (E := E0) [] (tab_cons k_spec_l01In tab_nil) hm (by rw [hn]; decide +kernel) ?_
 try simp -implicitDefEqProofs (maxSteps := 999999) [-selQ_sel]
 obtain ⟨v1,h_1,H⟩ := HS.bnd H
 try simp -implicitDefEqProofs (maxSteps := 999999) [-selQ_sel,h_1]
 refine Hid.selQ (fun h_2 => ?_) (fun h_2 => ?_)
 ·replace H := HS.cnd_t h_2 H
  try simp -implicitDefEqProofs (maxSteps := 999999) [-selQ_sel,h_1,h_2]
  obtain ⟨v2,h_3,H⟩ := HS.bnd H
  try simp -implicitDefEqProofs (maxSteps := 999999) [-selQ_sel,h_1,h_2,h_3]
  refine Hid.brV (fun h_4 => ?_) (fun h_4 => ?_)
  ·replace H := HS.cnd_t h_4 H
   try simp -implicitDefEqProofs (maxSteps := 999999) [-selQ_sel,h_1,h_2,h_3,h_4]
   have hr := (HS.some H).symm; subst hr
   refine Hid.mk ⟨_,Wk.refl _,?_⟩
   try simp -implicitDefEqProofs (maxSteps := 999999) [-selQ_sel,h_1,h_2,h_3,h_4]
  ·replace H := HS.cnd_f h_4 H
   try simp -implicitDefEqProofs (maxSteps := 999999) [-selQ_sel,h_1,h_2,h_3,h_4]
   have hr := (HS.some H).symm; subst hr
   refine Hid.mk ⟨_,Wk.refl _,?_⟩
   try simp -implicitDefEqProofs (maxSteps := 999999) [-selQ_sel,h_1,h_2,h_3,h_4]
 ·replace H := HS.cnd_f h_2 H
  try simp -implicitDefEqProofs (maxSteps := 999999) [-selQ_sel,h_1,h_2]
  have hr := (HS.some H).symm; subst hr
  refine Hid.mk ⟨_,Wk.refl _,?_⟩
  try simp -implicitDefEqProofs (maxSteps := 999999) [-selQ_sel,h_1,h_2]
theorem impl_lineReader_box_ok0 (hm : Tryd.prog.follows .mixedOrders = true) (k_impl_lineReader_number : Sound Tryd.prog 41 impl_lineReader_number_x) : Sound Tryd.prog 55 impl_lineReader_box_x := by
 refine xOf_sound fun q r h => ?_
 revert h; revert r; revert q; intro a0 r h
 refine fn_ok E0 hm Tryd.func55 rfl (by decide +kernel) (by rfl) fun Γ hn hk => ?_
 dsimp only [impl_lineReader_box_e,impl_lineReader_box_v]
 replace hn : Γ.n = 17 := hn
 replace hk : Γ.k = 1 := hk
 have H : HS (impl_lineReader_box a0) r := h
 clear h; unfold impl_lineReader_box at H
 try simp -implicitDefEqProofs at H
 refine Tr.of_vc (cl := tabC [(41,impl_lineReader_number_x)]) (E := E0) [] (tab_cons k_impl_lineReader_number tab_nil) hm (by rw [hn]; decide +kernel) ?_
 try simp -implicitDefEqProofs (maxSteps := 999999) [-selQ_sel]
 obtain ⟨⟨w2,w3⟩,h_1,H⟩ := HS.bnd H
 try dsimp only at H
 try simp -implicitDefEqProofs (maxSteps := 999999) [-selQ_sel,h_1]
 obtain ⟨⟨w5,w6⟩,h_2,H⟩ := HS.bnd H
 try dsimp only at H
 try simp -implicitDefEqProofs (maxSteps := 999999) [-selQ_sel,h_1,h_2]
 obtain ⟨⟨w8,w9⟩,h_3,H⟩ := HS.bnd H
 try dsimp only at H
 try simp -implicitDefEqProofs (maxSteps := 999999) [-selQ_sel,h_1,h_2,h_3]
 obtain ⟨⟨w11,w12⟩,h_4,H⟩ := HS.bnd H
 try dsimp only at H
 try simp -implicitDefEqProofs (maxSteps := 999999) [-selQ_sel,h_1,h_2,h_3,h_4]
 have hr := (HS.some H).symm; subst hr
 refine Hid.mk ⟨_,Wk.refl _,?_⟩
 try simp -implicitDefEqProofs (maxSteps := 999999) [-selQ_sel,h_1,h_2,h_3,h_4]
theorem spec_PointOk_ok0 (hm : Tryd.prog.follows .mixedOrders = true) (k_spec_l01In : Sound Tryd.prog 36 spec_l01In_x) : Sound Tryd.prog 48 spec_PointOk_x := by
 refine xOf_sound fun q r h => ?_
 revert h; revert r; revert q; intro a0 r h
 refine fn_ok E0 hm Tryd.func48 rfl (by decide +kernel) (by rfl) fun Γ hn hk => ?_
 dsimp only [spec_PointOk_e,spec_PointOk_v]
 replace hn : Γ.n = 11 := hn
 replace hk : Γ.k = 0 := hk
 have H : HS (spec_PointOk a0) r := h
 clear h; unfold spec_PointOk at H
 try simp -implicitDefEqProofs at H
 refine Tr.of_vc (cl := tabC [(36,spec_l01In_x)]) (E := E0) [] (tab_cons k_spec_l01In tab_nil) hm (by rw [hn]; decide +kernel) ?_
 try simp -implicitDefEqProofs (maxSteps := 999999) [-selQ_sel]
 obtain ⟨v1,h_1,H⟩ := HS.bnd H
 try simp -implicitDefEqProofs (maxSteps := 999999) [-selQ_sel,h_1]
 refine Hid.selQ (fun h_2 => ?_) (fun h_2 => ?_)
 ·replace H := HS.cnd_t h_2 H
  try simp -implicitDefEqProofs (maxSteps := 999999) [-selQ_sel,h_1,h_2]
  obtain ⟨v2,h_3,H⟩ := HS.bnd H
  try simp -implicitDefEqProofs (maxSteps := 999999) [-selQ_sel,h_1,h_2,h_3]
  have hr := (HS.some H).symm; subst hr
  refine Hid.mk ⟨_,Wk.refl _,?_⟩
  try simp -implicitDefEqProofs (maxSteps := 999999) [-selQ_sel,h_1,h_2,h_3]
 ·replace H := HS.cnd_f h_2 H
  try simp -implicitDefEqProofs (maxSteps := 999999) [-selQ_sel,h_1,h_2]
  have hr := (HS.some H).symm; subst hr
  refine Hid.mk ⟨_,Wk.refl _,?_⟩
  try simp -implicitDefEqProofs (maxSteps := 999999) [-selQ_sel,h_1,h_2]
theorem impl_corners_ok0 (hm : Tryd.prog.follows .mixedOrders = true) : Sound Tryd.prog 68 impl_corners_x := by
 refine xOf_sound fun q r h => ?_
 revert h; revert r; revert q; intro a0 r h
 refine fn_ok E0 hm Tryd.func68 rfl (by decide +kernel) (by rfl) fun Γ hn hk => ?_
 dsimp only [impl_corners_e,impl_corners_v]
 replace hn : Γ.n = 24 := hn
 replace hk : Γ.k = 0 := hk
 have H : HS (impl_corners a0) r := h
 clear h; unfold impl_corners at H
 try simp -implicitDefEqProofs at H
 refine Tr.of_vc (cl := tabC []) (E := E0) [] tab_nil hm (by rw [hn]; decide +kernel) ?_
 try simp -implicitDefEqProofs (maxSteps := 999999) [-selQ_sel]
 have hr := (HS.some H).symm; subst hr
 refine Hid.mk ⟨⟨[(2,AV.osl 0 0 (List.length [(TPoint.mk a0.x0 a0.y0),(TPoint.mk a0.x1 a0.y0),(TPoint.mk a0.x1 a0.y1),(TPoint.mk a0.x0 a0.y1)]) (List.length [(TPoint.mk a0.x0 a0.y0),(TPoint.mk a0.x1 a0.y0),(TPoint.mk a0.x1 a0.y1),(TPoint.mk a0.x0 a0.y1)]))],[(0,Ob.arr 2 (List.map ePoint [(TPoint.mk a0.x0 a0.y0),(TPoint.mk a0.x1 a0.y0),(TPoint.mk a0.x1 a0.y1),(TPoint.mk a0.x0 a0.y1)]) false)],1⟩,Wk.ofk [1] hk (by rfl) (by simp -implicitDefEqProofs []) (by simp -implicitDefEqProofs []),?_⟩
 try simp -implicitDefEqProofs (maxSteps := 999999) [-selQ_sel]
theorem spec_Empty_ok0 (hm : Tryd.prog.follows .mixedOrders = true) : Sound Tryd.prog 47 spec_Empty_x := by
 refine xOf_sound fun q r h => ?_
 revert h; revert r; revert q; intro a0 r h
 refine fn_ok E0 hm Tryd.func47 rfl (by decide +kernel) (by rfl) fun Γ hn hk => ?_
 dsimp only [spec_Empty_e,spec_Empty_v]
 replace hn : Γ.n = 15 := hn
 replace hk : Γ.k = 0 := hk
 have H : HS (spec_Empty a0) r := h
 clear h; unfold spec_Empty at H
 try simp -implicitDefEqProofs at H
 refine Tr.of_vc (cl := tabC []) (E := E0) [] tab_nil hm (by rw [hn]; decide +kernel) ?_
 try simp -implicitDefEqProofs (maxSteps := 999999) [-selQ_sel]
 refine Hid.selQ (fun h_1 => ?_) (fun h_1 => ?_)
 ·replace H := HS.cnd_t h_1 H
  try simp -implicitDefEqProofs (maxSteps := 999999) [-selQ_sel,h_1]
  have hr := (HS.some H).symm; subst hr
  refine Hid.mk ⟨_,Wk.refl _,?_⟩
  try simp -implicitDefEqProofs (maxSteps := 999999) [-selQ_sel,h_1]
 ·replace H := HS.cnd_f h_1 H
  try simp -implicitDefEqProofs (maxSteps := 999999) [-selQ_sel,h_1]
  have hr := (HS.some H).symm; subst hr
  refine Hid.mk ⟨_,Wk.refl _,?_⟩
  try simp -implicitDefEqProofs (maxSteps := 999999) [-selQ_sel,h_1]
def xtIndexByteR : Go.Shelf.Ren := ⟨fun n => if n = 137 then 79 else if n = 217 then 74 else if n = 266 then 81 else 0,fun n => if n = 3 then 3 else if n = 5 then 5 else if n = 9 then 9 else 0,fun n => if n = 1 then 0 else if n = 3 then 1 else if n = 4 then 2 else if n = 17 then 3 else if n = 18 then 4 else if n = 19 then 5 else 0⟩
theorem xtIndexByteL : Go.Proofs.Lays.n137 Tryd.prog xtIndexByteR where
 mixed := by kernel_rfl
 f137 := by kernel_rfl
 f217 := by kernel_rfl
 f266 := by kernel_rfl
 t3 := by kernel_rfl
 a3 := fun _ => rfl
 z3 := fun _ => rfl
 v3 := fun _ => rfl
 t5 := by kernel_rfl
 a5 := fun _ => rfl
 z5 := fun _ => rfl
 v5 := fun _ => rfl
 t9 := by kernel_rfl
 a9 := fun _ => rfl
 z9 := fun _ => rfl
 v9 := fun _ => rfl
theorem strings_IndexByte_ok0 (hm : Tryd.prog.follows .mixedOrders = true) : Sound Tryd.prog 79 strings_IndexByte_x := by
 refine xOf_sound fun q r h => ?_
 obtain ⟨a0,a1⟩ := q
 have H : HS (strings_IndexByte a0 a1) r := h
 clear h; unfold strings_IndexByte at H
 have hr := (HS.some H).symm; subst hr
 exact ⟨⟨Tryd.f79,_,Tryd.func79,rfl,by decide +kernel⟩,ck_ix (fun s c w => Go.Proofs.Any.strings_IndexByte xtIndexByteL s c w)⟩
theorem impl_isFar_ok0 (hm : Tryd.prog.follows .mixedOrders = true) (k_impl_inRange : Sound Tryd.prog 29 impl_inRange_x) : Sound Tryd.prog 83 impl_isFar_x := by
 refine xOf_sound fun q r h => ?_
 revert h; revert r; revert q; intro a0 r h
 refine fn_ok E0 hm Tryd.func83 rfl (by decide +kernel) (by rfl) fun Γ hn hk => ?_
 dsimp only [impl_isFar_e,impl_isFar_v]
 replace hn : Γ.n = 5 := hn
 replace hk : Γ.k = 0 := hk
 have H : HS (impl_isFar a0) r := h
 clear h; unfold impl_isFar at H
 try simp -implicitDefEqProofs at H
 refine Tr.of_vc (cl := tabC [(29,impl_inRange_x)]) (E := E0) [] (tab_cons k_impl_inRange tab_nil) hm (by rw [hn]; decide +kernel) ?_
 try simp -implicitDefEqProofs (maxSteps := 999999) [-selQ_sel]
 obtain ⟨v1,h_1,H⟩ := HS.bnd H
 try simp -implicitDefEqProofs (maxSteps := 999999) [-selQ_sel,h_1]
 have hr := (HS.some H).symm; subst hr
 refine Hid.mk ⟨_,Wk.refl _,?_⟩
 try simp -implicitDefEqProofs (maxSteps := 999999) [-selQ_sel,h_1]
end Go.Proofs.YtapchldnmkfkoabDoor.Am
