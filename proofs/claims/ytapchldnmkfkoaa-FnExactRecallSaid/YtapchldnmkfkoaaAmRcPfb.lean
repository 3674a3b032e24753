import Derived.Test.YtapchldnmkfkoaaAmRcNa
set_option linter.unusedVariables false
set_option linter.unusedSimpArgs false
set_option linter.unusedSectionVars false
namespace Go.Proofs.Ytapchldnmkfkoaa.Am
open Go Go.Proofs
set_option maxRecDepth 100000
set_option linter.unusedSimpArgs false
set_option linter.unusedVariables false
set_option maxHeartbeats 4000000
theorem laws_FnExactRecall_ok0 (hm : Try.prog.follows .mixedOrders = true) (k_laws_szCache : Sound Try.prog 14 laws_szCache_x) (k_laws_toCache : Sound Try.prog 16 laws_toCache_x) (k_spec_Recall : Sound Try.prog 30 spec_Recall_x) (k_impl_Recall : Sound Try.prog 31 impl_Recall_x) (k_laws_eqCache : Sound Try.prog 19 laws_eqCache_x) (k_laws_eqMask : Sound Try.prog 28 laws_eqMask_x) (k_laws_markCache : Sound Try.prog 21 laws_markCache_x) (k_laws_markMask : Sound Try.prog 29 laws_markMask_x) (k_laws_heldCache : Sound Try.prog 23 laws_heldCache_x) (k_laws_heldMask : Sound Try.prog 32 laws_heldMask_x) : Sound Try.prog 6 laws_FnExactRecall_x := by
 refine xOf_sound fun q r h => ?_
 obtain ⟨a0,a1⟩ := q
 refine fn_ok E0 hm Try.func6 rfl (by decide +kernel) (by rfl) fun Γ hn hk => ?_
 dsimp only [laws_FnExactRecall_e,laws_FnExactRecall_v]
 replace hn : Γ.n = 138 := hn
 replace hk : Γ.k = 0 := hk
 have H : HS (laws_FnExactRecall a0 a1) r := h
 clear h; unfold laws_FnExactRecall at H
 try simp -implicitDefEqProofs at H
 refine Tr.of_vc (cl := tabC [(14,laws_szCache_x),(16,laws_toCache_x),(30,spec_Recall_x),(31,impl_Recall_x),(19,laws_eqCache_x),(28,laws_eqMask_x),(21,laws_markCache_x),(29,laws_markMask_x),(23,laws_heldCache_x),(32,laws_heldMask_x)]) (E := E0) [] (tab_cons k_laws_szCache (tab_cons k_laws_toCache (tab_cons k_spec_Recall (tab_cons k_impl_Recall (tab_cons k_laws_eqCache (tab_cons k_laws_eqMask (tab_cons k_laws_markCache (tab_cons k_laws_markMask (tab_cons k_laws_heldCache (tab_cons k_laws_heldMask tab_nil)))))))))) hm (by rw [hn]; decide +kernel) ?_
 try simp -implicitDefEqProofs +decide (maxSteps := 999999) [-selQ_sel,hokQ_of]
 obtain ⟨v1,h_1,H⟩ := HS.bnd H
 try simp -implicitDefEqProofs +decide (maxSteps := 999999) [-selQ_sel,hokQ_of,h_1]
 refine Hid.brV (fun h_2 => ?_) (fun h_2 => ?_)
 ·replace H := HS.cnd_t h_2 H
  try simp -implicitDefEqProofs +decide (maxSteps := 999999) [-selQ_sel,hokQ_of,h_1,h_2]
  obtain ⟨⟨w3,w4⟩,h_3,H⟩ := HS.bnd H
  dsimp only at H
  try simp -implicitDefEqProofs +decide (maxSteps := 999999) [-selQ_sel,hokQ_of,h_1,h_2,h_3]
  obtain ⟨⟨w6,w7,w8,w9,w10⟩,h_4,H⟩ := HS.bnd H
  dsimp only at H
  have k_5 := spec_Recall_k ((TCache.mk w3 w4).most) ((TCache.mk w3 w4).list) a1
  simp -implicitDefEqProofs [-spec_Recall_k] at k_5
  try simp -implicitDefEqProofs +decide (maxSteps := 999999) [-selQ_sel,hokQ_of,h_1,h_2,h_3,h_4,k_5]
  obtain ⟨⟨w12,w13,w14,w15,w16⟩,h_6,H⟩ := HS.bnd H
  dsimp only at H
  have k_7 := impl_Recall_k ((TCache.mk w3 w4).most) ((TCache.mk w3 w4).list) a1
  simp -implicitDefEqProofs [-impl_Recall_k] at k_7
  try simp -implicitDefEqProofs +decide (maxSteps := 999999) [-selQ_sel,hokQ_of,h_1,h_2,h_3,h_4,k_5,h_6,k_7]
  obtain ⟨v17,h_8,H⟩ := HS.bnd H
  have k_9 := laws_eqCache_k ((TCache.mk w12 w15).most) ((TCache.mk w12 w15).list) ((TCache.mk w6 w9).most) ((TCache.mk w6 w9).list)
  simp -implicitDefEqProofs [-laws_eqCache_k] at k_9
  try simp -implicitDefEqProofs +decide (maxSteps := 999999) [-selQ_sel,hokQ_of,h_1,h_2,h_3,h_4,k_5,h_6,k_7,h_8,k_9]
  refine Hid.selQ (fun h_10 => ?_) (fun h_10 => ?_)
  ·replace H := HS.cnd_t h_10 H
   try simp -implicitDefEqProofs +decide (maxSteps := 999999) [-selQ_sel,hokQ_of,h_1,h_2,h_3,h_4,k_5,h_6,k_7,h_8,k_9,h_10]
   obtain ⟨v18,h_11,H⟩ := HS.bnd H
   have k_12 := laws_eqMask_k (((TMask.mk w13 w16).box).x0) (((TMask.mk w13 w16).box).y0) (((TMask.mk w13 w16).box).x1) (((TMask.mk w13 w16).box).y1) ((TMask.mk w13 w16).bits) (((TMask.mk w7 w10).box).x0) (((TMask.mk w7 w10).box).y0) (((TMask.mk w7 w10).box).x1) (((TMask.mk w7 w10).box).y1) ((TMask.mk w7 w10).bits)
   simp -implicitDefEqProofs [-laws_eqMask_k] at k_12
   try simp -implicitDefEqProofs +decide (maxSteps := 999999) [-selQ_sel,hokQ_of,h_1,h_2,h_3,h_4,k_5,h_6,k_7,h_8,k_9,h_10,h_11,k_12]
   refine Hid.selQ (fun h_13 => ?_) (fun h_13 => ?_)
   ·replace H := HS.cnd_t h_13 H
    try simp -implicitDefEqProofs +decide (maxSteps := 999999) [-selQ_sel,hokQ_of,h_1,h_2,h_3,h_4,k_5,h_6,k_7,h_8,k_9,h_10,h_11,k_12,h_13]
    refine Hid.brV (fun h_14 => ?_) (fun h_14 => ?_)
    ·replace H := HS.cnd_t h_14 H
     try simp -implicitDefEqProofs +decide (maxSteps := 999999) [-selQ_sel,hokQ_of,h_1,h_2,h_3,h_4,k_5,h_6,k_7,h_8,k_9,h_10,h_11,k_12,h_13,h_14]
     obtain ⟨v19,h_15,H⟩ := HS.bnd H
     have k_16 := laws_eqCache_k ((TCache.mk w3 w4).most) ((TCache.mk w3 w4).list) ((TCache.mk w3 w4).most) ((TCache.mk w3 w4).list)
     simp -implicitDefEqProofs [-laws_eqCache_k] at k_16
     try simp -implicitDefEqProofs +decide (maxSteps := 999999) [-selQ_sel,hokQ_of,h_1,h_2,h_3,h_4,k_5,h_6,k_7,h_8,k_9,h_10,h_11,k_12,h_13,h_14,h_15,k_16]
     refine Hid.brV (fun h_17 => ?_) (fun h_17 => ?_)
     ·replace H := HS.cnd_t h_17 H
      try simp -implicitDefEqProofs +decide (maxSteps := 999999) [-selQ_sel,hokQ_of,h_1,h_2,h_3,h_4,k_5,h_6,k_7,h_8,k_9,h_10,h_11,k_12,h_13,h_14,h_15,k_16,h_17]
      obtain ⟨⟨w21,w22⟩,h_18,H⟩ := HS.bnd H
      dsimp only at H
      have g_19 := laws_markCache_n h_18
      try simp -implicitDefEqProofs +decide (maxSteps := 999999) [-selQ_sel,hokQ_of,h_1,h_2,h_3,h_4,k_5,h_6,k_7,h_8,k_9,h_10,h_11,k_12,h_13,h_14,h_15,k_16,h_17,h_18,g_19]
      refine Hid.selQ (fun h_20 => ?_) (fun h_20 => ?_)
      ·replace H := HS.cnd_t h_20 H
       try simp -implicitDefEqProofs +decide (maxSteps := 999999) [-selQ_sel,hokQ_of,h_1,h_2,h_3,h_4,k_5,h_6,k_7,h_8,k_9,h_10,h_11,k_12,h_13,h_14,h_15,k_16,h_17,h_18,g_19,h_20]
       obtain ⟨⟨w24,w25⟩,h_21,H⟩ := HS.bnd H
       dsimp only at H
       have g_22 := laws_markCache_n h_21
       try simp -implicitDefEqProofs +decide (maxSteps := 999999) [-selQ_sel,hokQ_of,h_1,h_2,h_3,h_4,k_5,h_6,k_7,h_8,k_9,h_10,h_11,k_12,h_13,h_14,h_15,k_16,h_17,h_18,g_19,h_20,h_21,g_22]
       obtain ⟨⟨w27,w28⟩,h_23,H⟩ := HS.bnd H
       dsimp only at H
       have g_24 := laws_markMask_n h_23
       try simp -implicitDefEqProofs +decide (maxSteps := 999999) [-selQ_sel,hokQ_of,h_1,h_2,h_3,h_4,k_5,h_6,k_7,h_8,k_9,h_10,h_11,k_12,h_13,h_14,h_15,k_16,h_17,h_18,g_19,h_20,h_21,g_22,h_23,g_24]
       obtain ⟨v29,h_25,H⟩ := HS.bnd H
       have k_26 := laws_heldCache_k ((TCache.mk w12 w25).most) ((TCache.mk w12 w25).list) 1
       simp -implicitDefEqProofs [-laws_heldCache_k] at k_26
       try simp -implicitDefEqProofs +decide (maxSteps := 999999) [-selQ_sel,hokQ_of,h_1,h_2,h_3,h_4,k_5,h_6,k_7,h_8,k_9,h_10,h_11,k_12,h_13,h_14,h_15,k_16,h_17,h_18,g_19,h_20,h_21,g_22,h_23,g_24,h_25,k_26]
       refine Hid.brV (fun h_27 => ?_) (fun h_27 => ?_)
       ·replace H := HS.cnd_t h_27 H
        try simp -implicitDefEqProofs +decide (maxSteps := 999999) [-selQ_sel,hokQ_of,h_1,h_2,h_3,h_4,k_5,h_6,k_7,h_8,k_9,h_10,h_11,k_12,h_13,h_14,h_15,k_16,h_17,h_18,g_19,h_20,h_21,g_22,h_23,g_24,h_25,k_26,h_27]
        obtain ⟨v30,h_28,H⟩ := HS.bnd H
        have k_29 := laws_heldMask_k (((TMask.mk w13 w28).box).x0) (((TMask.mk w13 w28).box).y0) (((TMask.mk w13 w28).box).x1) (((TMask.mk w13 w28).box).y1) ((TMask.mk w13 w28).bits) v29
        simp -implicitDefEqProofs [-laws_heldMask_k] at k_29
        try simp -implicitDefEqProofs +decide (maxSteps := 999999) [-selQ_sel,hokQ_of,h_1,h_2,h_3,h_4,k_5,h_6,k_7,h_8,k_9,h_10,h_11,k_12,h_13,h_14,h_15,k_16,h_17,h_18,g_19,h_20,h_21,g_22,h_23,g_24,h_25,k_26,h_27,h_28,k_29]
        refine Hid.brV (fun h_30 => ?_) (fun h_30 => ?_)
        ·replace H := HS.cnd_t h_30 H
         try simp -implicitDefEqProofs +decide (maxSteps := 999999) [-selQ_sel,hokQ_of,h_1,h_2,h_3,h_4,k_5,h_6,k_7,h_8,k_9,h_10,h_11,k_12,h_13,h_14,h_15,k_16,h_17,h_18,g_19,h_20,h_21,g_22,h_23,g_24,h_25,k_26,h_27,h_28,k_29,h_30]
         refine Hid.brV (fun h_31 => ?_) (fun h_31 => ?_)
         ·replace H := HS.cnd_t h_31 H
          try simp -implicitDefEqProofs +decide (maxSteps := 999999) [-selQ_sel,hokQ_of,h_1,h_2,h_3,h_4,k_5,h_6,k_7,h_8,k_9,h_10,h_11,k_12,h_13,h_14,h_15,k_16,h_17,h_18,g_19,h_20,h_21,g_22,h_23,g_24,h_25,k_26,h_27,h_28,k_29,h_30,h_31]
          have hr := (HS.some H).symm; subst hr
          refine Hid.mk ⟨_,Wk.refl _,?_⟩
          try simp -implicitDefEqProofs +decide (maxSteps := 999999) [-selQ_sel,hokQ_of,h_1,h_2,h_3,h_4,k_5,h_6,k_7,h_8,k_9,h_10,h_11,k_12,h_13,h_14,h_15,k_16,h_17,h_18,g_19,h_20,h_21,g_22,h_23,g_24,h_25,k_26,h_27,h_28,k_29,h_30,h_31]
         ·replace H := HS.cnd_f h_31 H
          try simp -implicitDefEqProofs +decide (maxSteps := 999999) [-selQ_sel,hokQ_of,h_1,h_2,h_3,h_4,k_5,h_6,k_7,h_8,k_9,h_10,h_11,k_12,h_13,h_14,h_15,k_16,h_17,h_18,g_19,h_20,h_21,g_22,h_23,g_24,h_25,k_26,h_27,h_28,k_29,h_30,h_31]
          have hr := (HS.some H).symm; subst hr
          refine Hid.mk ⟨_,Wk.refl _,?_⟩
          try simp -implicitDefEqProofs +decide (maxSteps := 999999) [-selQ_sel,hokQ_of,h_1,h_2,h_3,h_4,k_5,h_6,k_7,h_8,k_9,h_10,h_11,k_12,h_13,h_14,h_15,k_16,h_17,h_18,g_19,h_20,h_21,g_22,h_23,g_24,h_25,k_26,h_27,h_28,k_29,h_30,h_31]
        ·replace H := HS.cnd_f h_30 H
         try simp -implicitDefEqProofs +decide (maxSteps := 999999) [-selQ_sel,hokQ_of,h_1,h_2,h_3,h_4,k_5,h_6,k_7,h_8,k_9,h_10,h_11,k_12,h_13,h_14,h_15,k_16,h_17,h_18,g_19,h_20,h_21,g_22,h_23,g_24,h_25,k_26,h_27,h_28,k_29,h_30]
         have hr := (HS.some H).symm; subst hr
         refine Hid.mk ⟨_,Wk.refl _,?_⟩
         try simp -implicitDefEqProofs +decide (maxSteps := 999999) [-selQ_sel,hokQ_of,h_1,h_2,h_3,h_4,k_5,h_6,k_7,h_8,k_9,h_10,h_11,k_12,h_13,h_14,h_15,k_16,h_17,h_18,g_19,h_20,h_21,g_22,h_23,g_24,h_25,k_26,h_27,h_28,k_29,h_30]
       ·replace H := HS.cnd_f h_27 H
        try simp -implicitDefEqProofs +decide (maxSteps := 999999) [-selQ_sel,hokQ_of,h_1,h_2,h_3,h_4,k_5,h_6,k_7,h_8,k_9,h_10,h_11,k_12,h_13,h_14,h_15,k_16,h_17,h_18,g_19,h_20,h_21,g_22,h_23,g_24,h_25,k_26,h_27]
        have hr := (HS.some H).symm; subst hr
        refine Hid.mk ⟨_,Wk.refl _,?_⟩
        try simp -implicitDefEqProofs +decide (maxSteps := 999999) [-selQ_sel,hokQ_of,h_1,h_2,h_3,h_4,k_5,h_6,k_7,h_8,k_9,h_10,h_11,k_12,h_13,h_14,h_15,k_16,h_17,h_18,g_19,h_20,h_21,g_22,h_23,g_24,h_25,k_26,h_27]
      ·replace H := HS.cnd_f h_20 H
       try simp -implicitDefEqProofs +decide (maxSteps := 999999) [-selQ_sel,hokQ_of,h_1,h_2,h_3,h_4,k_5,h_6,k_7,h_8,k_9,h_10,h_11,k_12,h_13,h_14,h_15,k_16,h_17,h_18,g_19,h_20]
       have hr := (HS.some H).symm; subst hr
       refine Hid.mk ⟨_,Wk.refl _,?_⟩
       try simp -implicitDefEqProofs +decide (maxSteps := 999999) [-selQ_sel,hokQ_of,h_1,h_2,h_3,h_4,k_5,h_6,k_7,h_8,k_9,h_10,h_11,k_12,h_13,h_14,h_15,k_16,h_17,h_18,g_19,h_20]
     ·replace H := HS.cnd_f h_17 H
      try simp -implicitDefEqProofs +decide (maxSteps := 999999) [-selQ_sel,hokQ_of,h_1,h_2,h_3,h_4,k_5,h_6,k_7,h_8,k_9,h_10,h_11,k_12,h_13,h_14,h_15,k_16,h_17]
      have hr := (HS.some H).symm; subst hr
      refine Hid.mk ⟨_,Wk.refl _,?_⟩
      try simp -implicitDefEqProofs +decide (maxSteps := 999999) [-selQ_sel,hokQ_of,h_1,h_2,h_3,h_4,k_5,h_6,k_7,h_8,k_9,h_10,h_11,k_12,h_13,h_14,h_15,k_16,h_17]
    ·replace H := HS.cnd_f h_14 H
     try simp -implicitDefEqProofs +decide (maxSteps := 999999) [-selQ_sel,hokQ_of,h_1,h_2,h_3,h_4,k_5,h_6,k_7,h_8,k_9,h_10,h_11,k_12,h_13,h_14]
     have hr := (HS.some H).symm; subst hr
     refine Hid.mk ⟨_,Wk.refl _,?_⟩
     try simp -implicitDefEqProofs +decide (maxSteps := 999999) [-selQ_sel,hokQ_of,h_1,h_2,h_3,h_4,k_5,h_6,k_7,h_8,k_9,h_10,h_11,k_12,h_13,h_14]
   ·replace H := HS.cnd_f h_13 H
    try simp -implicitDefEqProofs +decide (maxSteps := 999999) [-selQ_sel,hokQ_of,h_1,h_2,h_3,h_4,k_5,h_6,k_7,h_8,k_9,h_10,h_11,k_12,h_13]
    have hr := (HS.some H).symm; subst hr
    refine Hid.mk ⟨_,Wk.refl _,?_⟩
    try simp -implicitDefEqProofs +decide (maxSteps := 999999) [-selQ_sel,hokQ_of,h_1,h_2,h_3,h_4,k_5,h_6,k_7,h_8,k_9,h_10,h_11,k_12,h_13]
  ·replace H := HS.cnd_f h_10 H
   try simp -implicitDefEqProofs +decide (maxSteps := 999999) [-selQ_sel,hokQ_of,h_1,h_2,h_3,h_4,k_5,h_6,k_7,h_8,k_9,h_10]
   have hr := (HS.some H).symm; subst hr
   refine Hid.mk ⟨_,Wk.refl _,?_⟩
   try simp -implicitDefEqProofs +decide (maxSteps := 999999) [-selQ_sel,hokQ_of,h_1,h_2,h_3,h_4,k_5,h_6,k_7,h_8,k_9,h_10]
 ·replace H := HS.cnd_f h_2 H
  try simp -implicitDefEqProofs +decide (maxSteps := 999999) [-selQ_sel,hokQ_of,h_1,h_2]
  have hr := (HS.some H).symm; subst hr
  refine Hid.mk ⟨_,Wk.refl _,?_⟩
  try simp -implicitDefEqProofs +decide (maxSteps := 999999) [-selQ_sel,hokQ_of,h_1,h_2]
theorem laws_heldKeptS_ok0 (hm : Try.prog.follows .mixedOrders = true) (k_laws_heldIntS : Sound Try.prog 82 laws_heldIntS_x) : Sound Try.prog 68 laws_heldKeptS_x := by
 refine xOf_sound fun q r h => ?_
 obtain ⟨a0,a1⟩ := q
 refine fn_ok E0 hm Try.func68 rfl (by decide +kernel) (by rfl) fun Γ hn hk => ?_
 dsimp only [laws_heldKeptS_e,laws_heldKeptS_v]
 replace hn : Γ.n = 76 := hn
 replace hk : Γ.k = 0 := hk
 have H : HS (laws_heldKeptS a0 a1) r := h
 clear h; unfold laws_heldKeptS at H
 try simp -implicitDefEqProofs at H
 refine Tr.of_vc (cl := tabC [(82,laws_heldIntS_x)]) (E := E0) [] (tab_cons k_laws_heldIntS tab_nil) hm (by rw [hn]; decide +kernel) ?_
 try simp -implicitDefEqProofs (maxSteps := 999999) [-selQ_sel]
 obtain ⟨q,h_1,H⟩ := HS.bnd H
 refine Hid.mk (Tr.weak (s' := (laws_heldKeptS_l0_S a0) (a1,0)) (Wk.ofk [] hk (by rfl) (by simp -implicitDefEqProofs [laws_heldKeptS_l0_S]) (by simp -implicitDefEqProofs [laws_heldKeptS_l0_S])) ?_)
 refine wp_loop_of (S := (laws_heldKeptS_l0_S a0)) (f := (laws_heldKeptS_l0 a0)) (xt := (laws_heldKeptS_l0_X a0)) ?_ ?_ h_1 ?_
 ·intro q; rcases q with y7 | ⟨⟩ <;> simp [laws_heldKeptS_l0_X]
 ·clear H h_1 q
  rintro ⟨x3,x4⟩ o R hf hR
  have H : HS (laws_heldKeptS_l0 a0 (x3,x4)) o := hf
  clear hf; unfold laws_heldKeptS_l0 at H
  try simp -implicitDefEqProofs at H
  refine Tr.of_vc (cl := tabC [(82,laws_heldIntS_x)]) (E := E0) [] (tab_cons k_laws_heldIntS tab_nil) hm (by rw [hn]; decide +kernel) ?_
  try simp -implicitDefEqProofs (maxSteps := 999999) [-selQ_sel,laws_heldKeptS_l0_S]
  refine Hid.brV (fun h_2 => ?_) (fun h_2 => ?_)
  ·replace H := HS.cnd_t h_2 H
   try simp -implicitDefEqProofs (maxSteps := 999999) [-selQ_sel,h_2]
   have hr := (HS.some H).symm; subst hr
   exact Hid.mk ⟨(laws_heldKeptS_l0_X a0 (.inl x3)).2,Wk.ofk [] hk (by rfl) (by simp -implicitDefEqProofs [laws_heldKeptS_l0_X,h_2]) (by simp -implicitDefEqProofs [laws_heldKeptS_l0_X,h_2]),hR⟩
  ·replace H := HS.cnd_f h_2 H
   try simp -implicitDefEqProofs (maxSteps := 999999) [-selQ_sel,h_2]
   obtain ⟨v5,h_3,H⟩ := HS.bnd H
   try simp -implicitDefEqProofs (maxSteps := 999999) [-selQ_sel,h_2,h_3]
   refine Hid.brV (fun h_4 => ?_) (fun h_4 => ?_)
   ·replace H := HS.cnd_t h_4 H
    try simp -implicitDefEqProofs (maxSteps := 999999) [-selQ_sel,h_2,h_3,h_4]
    refine Hid.brV (fun h_5 => ?_) (fun h_5 => ?_)
    ·replace H := HS.cnd_t h_5 H
     try simp -implicitDefEqProofs (maxSteps := 999999) [-selQ_sel,h_2,h_3,h_4,h_5]
     refine Hid.brV (fun h_6 => ?_) (fun h_6 => ?_)
     ·replace H := HS.cnd_t h_6 H
      try simp -implicitDefEqProofs (maxSteps := 999999) [-selQ_sel,h_2,h_3,h_4,h_5,h_6]
      refine Hid.brV (fun h_7 => ?_) (fun h_7 => ?_)
      ·replace H := HS.cnd_t h_7 H
       try simp -implicitDefEqProofs (maxSteps := 999999) [-selQ_sel,h_2,h_3,h_4,h_5,h_6,h_7]
       refine Hid.brV (fun h_8 => ?_) (fun h_8 => ?_)
       ·replace H := HS.cnd_t h_8 H
        try simp -implicitDefEqProofs (maxSteps := 999999) [-selQ_sel,h_2,h_3,h_4,h_5,h_6,h_7,h_8]
        obtain ⟨v6,h_9,H⟩ := HS.bnd H
        try simp -implicitDefEqProofs (maxSteps := 999999) [-selQ_sel,h_2,h_3,h_4,h_5,h_6,h_7,h_8,h_9]
        refine Hid.brV (fun h_10 => ?_) (fun h_10 => ?_)
        ·replace H := HS.cnd_t h_10 H
         try simp -implicitDefEqProofs (maxSteps := 999999) [-selQ_sel,h_2,h_3,h_4,h_5,h_6,h_7,h_8,h_9,h_10]
         have hr := (HS.some H).symm; subst hr
         exact Hid.mk ⟨laws_heldKeptS_l0_S a0 (v6,(IntKind.i64.wrap (x4 + 1))),Wk.ofk [] hk (by rfl) (by simp -implicitDefEqProofs [laws_heldKeptS_l0_S,h_2,h_3,h_4,h_5,h_6,h_7,h_8,h_9,h_10]) (by simp -implicitDefEqProofs [laws_heldKeptS_l0_S,h_2,h_3,h_4,h_5,h_6,h_7,h_8,h_9,h_10]),hR⟩
        ·replace H := HS.cnd_f h_10 H
         try simp -implicitDefEqProofs (maxSteps := 999999) [-selQ_sel,h_2,h_3,h_4,h_5,h_6,h_7,h_8,h_9,h_10]
         have hr := (HS.some H).symm; subst hr
         exact Hid.mk ⟨(laws_heldKeptS_l0_X a0 (.inr ())).2,Wk.ofk [] hk (by rfl) (by simp -implicitDefEqProofs [laws_heldKeptS_l0_X,h_2,h_3,h_4,h_5,h_6,h_7,h_8,h_9,h_10]) (by simp -implicitDefEqProofs [laws_heldKeptS_l0_X,h_2,h_3,h_4,h_5,h_6,h_7,h_8,h_9,h_10]),hR⟩
       ·replace H := HS.cnd_f h_8 H
        try simp -implicitDefEqProofs (maxSteps := 999999) [-selQ_sel,h_2,h_3,h_4,h_5,h_6,h_7,h_8]
        have hr := (HS.some H).symm; subst hr
        exact Hid.mk ⟨(laws_heldKeptS_l0_X a0 (.inr ())).2,Wk.ofk [] hk (by rfl) (by simp -implicitDefEqProofs [laws_heldKeptS_l0_X,h_2,h_3,h_4,h_5,h_6,h_7,h_8]) (by simp -implicitDefEqProofs [laws_heldKeptS_l0_X,h_2,h_3,h_4,h_5,h_6,h_7,h_8]),hR⟩
      ·replace H := HS.cnd_f h_7 H
       try simp -implicitDefEqProofs (maxSteps := 999999) [-selQ_sel,h_2,h_3,h_4,h_5,h_6,h_7]
       have hr := (HS.some H).symm; subst hr
       exact Hid.mk ⟨(laws_heldKeptS_l0_X a0 (.inr ())).2,Wk.ofk [] hk (by rfl) (by simp -implicitDefEqProofs [laws_heldKeptS_l0_X,h_2,h_3,h_4,h_5,h_6,h_7]) (by simp -implicitDefEqProofs [laws_heldKeptS_l0_X,h_2,h_3,h_4,h_5,h_6,h_7]),hR⟩
     ·replace H := HS.cnd_f h_6 H
      try simp -implicitDefEqProofs (maxSteps := 999999) [-selQ_sel,h_2,h_3,h_4,h_5,h_6]
      have hr := (HS.some H).symm; subst hr
      exact Hid.mk ⟨(laws_heldKeptS_l0_X a0 (.inr ())).2,Wk.ofk [] hk (by rfl) (by simp -implicitDefEqProofs [laws_heldKeptS_l0_X,h_2,h_3,h_4,h_5,h_6]) (by simp -implicitDefEqProofs [laws_heldKeptS_l0_X,h_2,h_3,h_4,h_5,h_6]),hR⟩
    ·replace H := HS.cnd_f h_5 H
     try simp -implicitDefEqProofs (maxSteps := 999999) [-selQ_sel,h_2,h_3,h_4,h_5]
     have hr := (HS.some H).symm; subst hr
     exact Hid.mk ⟨(laws_heldKeptS_l0_X a0 (.inr ())).2,Wk.ofk [] hk (by rfl) (by simp -implicitDefEqProofs [laws_heldKeptS_l0_X,h_2,h_3,h_4,h_5]) (by simp -implicitDefEqProofs [laws_heldKeptS_l0_X,h_2,h_3,h_4,h_5]),hR⟩
   ·replace H := HS.cnd_f h_4 H
    try simp -implicitDefEqProofs (maxSteps := 999999) [-selQ_sel,h_2,h_3,h_4]
    have hr := (HS.some H).symm; subst hr
    exact Hid.mk ⟨(laws_heldKeptS_l0_X a0 (.inr ())).2,Wk.ofk [] hk (by rfl) (by simp -implicitDefEqProofs [laws_heldKeptS_l0_X,h_2,h_3,h_4]) (by simp -implicitDefEqProofs [laws_heldKeptS_l0_X,h_2,h_3,h_4]),hR⟩
 ·rcases q with y7 | ⟨⟩
  ·dsimp only at H
   try simp -implicitDefEqProofs (maxSteps := 999999) [-selQ_sel,laws_heldKeptS_l0_X]
   have hr := (HS.some H).symm; subst hr
   refine Hid.mk ⟨_,Wk.refl _,?_⟩
   try simp -implicitDefEqProofs (maxSteps := 999999) [-selQ_sel]
  ·dsimp only at H
   try simp -implicitDefEqProofs (maxSteps := 999999) [-selQ_sel,laws_heldKeptS_l0_X]
   have hr := (HS.some H).symm; subst hr
   refine Hid.mk ⟨_,Wk.refl _,?_⟩
   try simp -implicitDefEqProofs (maxSteps := 999999) [-selQ_sel]
theorem spec_Recall_ok0 (hm : Try.prog.follows .mixedOrders = true) (k_spec_CacheOk : Sound Try.prog 70 spec_CacheOk_x) (k_spec_l21First : Sound Try.prog 73 spec_l21First_x) (k_spec_l21CopyMask : Sound Try.prog 80 spec_l21CopyMask_x) (k_spec_l21Copy : Sound Try.prog 60 spec_l21Copy_x) : Sound Try.prog 30 spec_Recall_x := by
 refine xOf_sound fun q r h => ?_
 obtain ⟨a0,a1⟩ := q
 refine fn_ok E0 hm Try.func30 rfl (by decide +kernel) (by rfl) fun Γ hn hk => ?_
 dsimp only [spec_Recall_e,spec_Recall_v]
 replace hn : Γ.n = 46 := hn
 replace hk : Γ.k = 0 := hk
 have H : HS (spec_Recall a0 a1) r := h
 clear h; unfold spec_Recall at H
 try simp -implicitDefEqProofs at H
 refine Tr.of_vc (cl := tabC [(70,spec_CacheOk_x),(73,spec_l21First_x),(80,spec_l21CopyMask_x),(60,spec_l21Copy_x)]) (E := E0) [] (tab_cons k_spec_CacheOk (tab_cons k_spec_l21First (tab_cons k_spec_l21CopyMask (tab_cons k_spec_l21Copy tab_nil)))) hm (by rw [hn]; decide +kernel) ?_
 try simp -implicitDefEqProofs +decide (maxSteps := 999999) [-selQ_sel,hokQ_of]
 obtain ⟨q,h_1,H⟩ := HS.bnd H
 refine Hid.mk (Tr.weak (s' := (spec_Recall_l0_S a0 a1) 0) (Wk.ofk [0,1,2] hk (by rfl) (by simp -implicitDefEqProofs [spec_Recall_l0_S]) (by simp -implicitDefEqProofs [spec_Recall_l0_S])) ?_)
 refine wp_loop_of (S := (spec_Recall_l0_S a0 a1)) (f := (spec_Recall_l0 a0 a1)) (xt := (spec_Recall_l0_X a0 a1)) ?_ ?_ h_1 ?_
 ·intro q; rcases q with ⟨⟩ | ⟨y18,y19,y20,y21,y22,y23,y24⟩ <;> simp [spec_Recall_l0_X]
 ·clear H h_1 q
  rintro x9 o R hf hR
  have H : HS (spec_Recall_l0 a0 a1 x9) o := hf
  clear hf; unfold spec_Recall_l0 at H
  try simp -implicitDefEqProofs at H
  refine Tr.of_vc (cl := tabC [(70,spec_CacheOk_x),(73,spec_l21First_x),(80,spec_l21CopyMask_x),(60,spec_l21Copy_x)]) (E := E0) [] (tab_cons k_spec_CacheOk (tab_cons k_spec_l21First (tab_cons k_spec_l21CopyMask (tab_cons k_spec_l21Copy tab_nil)))) hm (by rw [hn]; decide +kernel) ?_
  try simp -implicitDefEqProofs +decide (maxSteps := 999999) [-selQ_sel,hokQ_of,spec_Recall_l0_S]
  refine Hid.brV (fun h_2 => ?_) (fun h_2 => ?_)
  ·replace H := HS.cnd_t h_2 H
   try simp -implicitDefEqProofs +decide (maxSteps := 999999) [-selQ_sel,hokQ_of,h_2]
   have hr := (HS.some H).symm; subst hr
   exact Hid.mk ⟨(spec_Recall_l0_X a0 a1 (.inl ())).2,Wk.ofk [0,1,2] hk (by rfl) (by simp -implicitDefEqProofs [spec_Recall_l0_X,h_2]) (by simp -implicitDefEqProofs [spec_Recall_l0_X,h_2]),hR⟩
  ·replace H := HS.cnd_f h_2 H
   try simp -implicitDefEqProofs +decide (maxSteps := 999999) [-selQ_sel,hokQ_of,h_2]
   obtain ⟨v10,h_3,H⟩ := HS.bnd H
   try simp -implicitDefEqProofs +decide (maxSteps := 999999) [-selQ_sel,hokQ_of,h_2,h_3]
   refine Hid.selQ (fun h_4 => ?_) (fun h_4 => ?_)
   ·replace H := HS.cnd_t h_4 H
    try simp -implicitDefEqProofs +decide (maxSteps := 999999) [-selQ_sel,hokQ_of,h_2,h_3,h_4]
    obtain ⟨v11,h_5,H⟩ := HS.bnd H
    try simp -implicitDefEqProofs +decide (maxSteps := 999999) [-selQ_sel,hokQ_of,h_2,h_3,h_4,h_5]
    refine Hid.brV (fun h_6 => ?_) (fun h_6 => ?_)
    ·replace H := HS.cnd_t h_6 H
     try simp -implicitDefEqProofs +decide (maxSteps := 999999) [-selQ_sel,hokQ_of,h_2,h_3,h_4,h_5,h_6]
     obtain ⟨⟨w13,w14⟩,h_7,H⟩ := HS.bnd H
     dsimp only at H
     try simp -implicitDefEqProofs +decide (maxSteps := 999999) [-selQ_sel,hokQ_of,h_2,h_3,h_4,h_5,h_6,h_7]
     obtain ⟨⟨w16,w17⟩,h_8,H⟩ := HS.bnd H
     dsimp only at H
     try simp -implicitDefEqProofs +decide (maxSteps := 999999) [-selQ_sel,hokQ_of,h_2,h_3,h_4,h_5,h_6,h_7,h_8]
     have hr := (HS.some H).symm; subst hr
     exact Hid.mk ⟨(spec_Recall_l0_X a0 a1 (.inr (w13,w16.x0,w16.y0,w16.x1,w16.y1,w14,w17))).2,Wk.ofk [1,2,3,4] hk (by rfl) (by simp -implicitDefEqProofs [spec_Recall_l0_X,h_2,h_3,h_4,h_5,h_6,h_7,h_8]) (by simp -implicitDefEqProofs [spec_Recall_l0_X,h_2,h_3,h_4,h_5,h_6,h_7,h_8]),hR⟩
    ·replace H := HS.cnd_f h_6 H
     try simp -implicitDefEqProofs +decide (maxSteps := 999999) [-selQ_sel,hokQ_of,h_2,h_3,h_4,h_5,h_6]
     have hr := (HS.some H).symm; subst hr
     exact Hid.mk ⟨spec_Recall_l0_S a0 a1 (IntKind.i64.wrap (x9 + 1)),Wk.ofk [0,1,2] hk (by rfl) (by simp -implicitDefEqProofs [spec_Recall_l0_S,h_2,h_3,h_4,h_5,h_6]) (by simp -implicitDefEqProofs [spec_Recall_l0_S,h_2,h_3,h_4,h_5,h_6]),hR⟩
   ·replace H := HS.cnd_f h_4 H
    try simp -implicitDefEqProofs +decide (maxSteps := 999999) [-selQ_sel,hokQ_of,h_2,h_3,h_4]
    have hr := (HS.some H).symm; subst hr
    exact Hid.mk ⟨spec_Recall_l0_S a0 a1 (IntKind.i64.wrap (x9 + 1)),Wk.ofk [0,1,2] hk (by rfl) (by simp -implicitDefEqProofs [spec_Recall_l0_S,h_2,h_3,h_4]) (by simp -implicitDefEqProofs [spec_Recall_l0_S,h_2,h_3,h_4]),hR⟩
 ·rcases q with ⟨⟩ | ⟨y18,y19,y20,y21,y22,y23,y24⟩
  ·dsimp only at H
   try simp -implicitDefEqProofs +decide (maxSteps := 999999) [-selQ_sel,hokQ_of,spec_Recall_l0_X]
   obtain ⟨⟨w26,w27⟩,h_9,H⟩ := HS.bnd H
   dsimp only at H
   try simp -implicitDefEqProofs +decide (maxSteps := 999999) [-selQ_sel,hokQ_of,h_9]
   have hr := (HS.some H).symm; subst hr
   refine Hid.mk ⟨⟨[(4,AV.optr 0 0 2),(5,AV.optr 1 0 5),(6,AV.bool false)],[(0,Ob.box [AV.int .i64 w26,AV.osl 2 0 (List.length w27) (List.length w27)]),(1,Ob.box [AV.int .i64 0,AV.int .i64 0,AV.int .i64 0,AV.int .i64 0,AV.osl 3 0 0 0]),(2,Ob.nar 6 (List.map eKept w27) [0,0,0,0,0,1]),(3,Ob.arr 1 (List.map (AV.int .i64) []) false)],4⟩,Wk.ofk [1,2,3,4] hk (by rfl) (by simp -implicitDefEqProofs [h_9]) (by simp -implicitDefEqProofs [h_9]),?_⟩
   try simp -implicitDefEqProofs +decide (maxSteps := 999999) [-selQ_sel,hokQ_of,h_9]
  ·dsimp only at H
   try simp -implicitDefEqProofs +decide (maxSteps := 999999) [-selQ_sel,hokQ_of,spec_Recall_l0_X]
   have hr := (HS.some H).symm; subst hr
   refine Hid.mk ⟨⟨[(4,AV.optr 0 0 2),(5,AV.optr 1 0 5),(6,AV.bool true)],[(0,Ob.box [AV.int .i64 y18,AV.osl 2 0 (List.length y23) (List.length y23)]),(1,Ob.box [AV.int .i64 y19,AV.int .i64 y20,AV.int .i64 y21,AV.int .i64 y22,AV.osl 3 0 (List.length y24) (List.length y24)]),(2,Ob.nar 6 (List.map eKept y23) [0,0,0,0,0,1]),(3,Ob.arr 1 (List.map (AV.int .i64) y24) false)],4⟩,Wk.ofk [0,1,2,3] hk (by rfl) (by simp -implicitDefEqProofs []) (by simp -implicitDefEqProofs []),?_⟩
   try simp -implicitDefEqProofs +decide (maxSteps := 999999) [-selQ_sel,hokQ_of]
theorem impl_MaskOk_ok0 (hm : Try.prog.follows .mixedOrders = true) (k_impl_isMaskBox : Sound Try.prog 122 impl_isMaskBox_x) (k_impl_inRange : Sound Try.prog 75 impl_inRange_x) : Sound Try.prog 76 impl_MaskOk_x := by
 refine xOf_sound fun q r h => ?_
 revert h; revert r; revert q; intro a0 r h
 refine fn_ok E0 hm Try.func76 rfl (by decide +kernel) (by rfl) fun Γ hn hk => ?_
 dsimp only [impl_MaskOk_e,impl_MaskOk_v]
 replace hn : Γ.n = 49 := hn
 replace hk : Γ.k = 0 := hk
 have H : HS (impl_MaskOk a0) r := h
 clear h; unfold impl_MaskOk at H
 try simp -implicitDefEqProofs at H
 refine Tr.of_vc (cl := tabC [(122,impl_isMaskBox_x),(75,impl_inRange_x)]) (E := E0) [] (tab_cons k_impl_isMaskBox (tab_cons k_impl_inRange tab_nil)) hm (by rw [hn]; decide +kernel) ?_
 try simp -implicitDefEqProofs (maxSteps := 999999) [-selQ_sel]
 refine Hid.brV (fun h_1 => ?_) (fun h_1 => ?_)
 ·replace H := HS.cnd_t h_1 H
  try simp -implicitDefEqProofs (maxSteps := 999999) [-selQ_sel,h_1]
  have hr := (HS.some H).symm; subst hr
  refine Hid.mk ⟨_,Wk.refl _,?_⟩
  try simp -implicitDefEqProofs (maxSteps := 999999) [-selQ_sel,h_1]
 ·replace H := HS.cnd_f h_1 H
  try simp -implicitDefEqProofs (maxSteps := 999999) [-selQ_sel,h_1]
  obtain ⟨v1,h_2,H⟩ := HS.bnd H
  try simp -implicitDefEqProofs (maxSteps := 999999) [-selQ_sel,h_1,h_2]
  refine Hid.selQ (fun h_3 => ?_) (fun h_3 => ?_)
  ·replace H := HS.cnd_t h_3 H
   try simp -implicitDefEqProofs (maxSteps := 999999) [-selQ_sel,h_1,h_2,h_3]
   refine Hid.brV (fun h_4 => ?_) (fun h_4 => ?_)
   ·replace H := HS.cnd_t h_4 H
    try simp -implicitDefEqProofs (maxSteps := 999999) [-selQ_sel,h_1,h_2,h_3,h_4]
    obtain ⟨q,h_5,H⟩ := HS.bnd H
    refine Hid.mk (Tr.weak (s' := (impl_MaskOk_l0_S a0) 0) (Wk.ofk [] hk (by rfl) (by simp -implicitDefEqProofs [impl_MaskOk_l0_S,h_1,h_2,h_3,h_4]) (by simp -implicitDefEqProofs [impl_MaskOk_l0_S,h_1,h_2,h_3,h_4])) ?_)
    refine wp_loop_of (S := (impl_MaskOk_l0_S a0)) (f := (impl_MaskOk_l0 a0)) (xt := (impl_MaskOk_l0_X a0)) ?_ ?_ h_5 ?_
    ·intro q; rcases q with ⟨⟩ | ⟨⟩ <;> simp [impl_MaskOk_l0_X]
    ·clear H h_5 q
     rintro x4 o R hf hR
     have H : HS (impl_MaskOk_l0 a0 x4) o := hf
     clear hf; unfold impl_MaskOk_l0 at H
     try simp -implicitDefEqProofs at H
     refine Tr.of_vc (cl := tabC [(122,impl_isMaskBox_x),(75,impl_inRange_x)]) (E := E0) [] (tab_cons k_impl_isMaskBox (tab_cons k_impl_inRange tab_nil)) hm (by rw [hn]; decide +kernel) ?_
     try simp -implicitDefEqProofs (maxSteps := 999999) [-selQ_sel,impl_MaskOk_l0_S]
     refine Hid.brV (fun h_6 => ?_) (fun h_6 => ?_)
     ·replace H := HS.cnd_t h_6 H
      try simp -implicitDefEqProofs (maxSteps := 999999) [-selQ_sel,h_6]
      have hr := (HS.some H).symm; subst hr
      exact Hid.mk ⟨(impl_MaskOk_l0_X a0 (.inl ())).2,Wk.ofk [] hk (by rfl) (by simp -implicitDefEqProofs [impl_MaskOk_l0_X,h_6]) (by simp -implicitDefEqProofs [impl_MaskOk_l0_X,h_6]),hR⟩
     ·replace H := HS.cnd_f h_6 H
      try simp -implicitDefEqProofs (maxSteps := 999999) [-selQ_sel,h_6]
      obtain ⟨v5,h_7,H⟩ := HS.bnd H
      try simp -implicitDefEqProofs (maxSteps := 999999) [-selQ_sel,h_6,h_7]
      obtain ⟨v6,h_8,H⟩ := HS.bnd H
      try simp -implicitDefEqProofs (maxSteps := 999999) [-selQ_sel,h_6,h_7,h_8]
      refine Hid.brV (fun h_9 => ?_) (fun h_9 => ?_)
      ·replace H := HS.cnd_t h_9 H
       try simp -implicitDefEqProofs (maxSteps := 999999) [-selQ_sel,h_6,h_7,h_8,h_9]
       have hr := (HS.some H).symm; subst hr
       exact Hid.mk ⟨impl_MaskOk_l0_S a0 (IntKind.i64.wrap (x4 + 1)),Wk.ofk [] hk (by rfl) (by simp -implicitDefEqProofs [impl_MaskOk_l0_S,h_6,h_7,h_8,h_9]) (by simp -implicitDefEqProofs [impl_MaskOk_l0_S,h_6,h_7,h_8,h_9]),hR⟩
      ·replace H := HS.cnd_f h_9 H
       try simp -implicitDefEqProofs (maxSteps := 999999) [-selQ_sel,h_6,h_7,h_8,h_9]
       have hr := (HS.some H).symm; subst hr
       exact Hid.mk ⟨(impl_MaskOk_l0_X a0 (.inr ())).2,Wk.ofk [] hk (by rfl) (by simp -implicitDefEqProofs [impl_MaskOk_l0_X,h_6,h_7,h_8,h_9]) (by simp -implicitDefEqProofs [impl_MaskOk_l0_X,h_6,h_7,h_8,h_9]),hR⟩
    ·rcases q with ⟨⟩ | ⟨⟩
     ·dsimp only at H
      try simp -implicitDefEqProofs (maxSteps := 999999) [-selQ_sel,h_1,h_2,h_3,h_4,impl_MaskOk_l0_X]
      have hr := (HS.some H).symm; subst hr
      refine Hid.mk ⟨_,Wk.refl _,?_⟩
      try simp -implicitDefEqProofs (maxSteps := 999999) [-selQ_sel,h_1,h_2,h_3,h_4]
     ·dsimp only at H
      try simp -implicitDefEqProofs (maxSteps := 999999) [-selQ_sel,h_1,h_2,h_3,h_4,impl_MaskOk_l0_X]
      have hr := (HS.some H).symm; subst hr
      refine Hid.mk ⟨_,Wk.refl _,?_⟩
      try simp -implicitDefEqProofs (maxSteps := 999999) [-selQ_sel,h_1,h_2,h_3,h_4]
   ·replace H := HS.cnd_f h_4 H
    try simp -implicitDefEqProofs (maxSteps := 999999) [-selQ_sel,h_1,h_2,h_3,h_4]
    have hr := (HS.some H).symm; subst hr
    refine Hid.mk ⟨_,Wk.refl _,?_⟩
    try simp -implicitDefEqProofs (maxSteps := 999999) [-selQ_sel,h_1,h_2,h_3,h_4]
  ·replace H := HS.cnd_f h_3 H
   try simp -implicitDefEqProofs (maxSteps := 999999) [-selQ_sel,h_1,h_2,h_3]
   have hr := (HS.some H).symm; subst hr
   refine Hid.mk ⟨_,Wk.refl _,?_⟩
   try simp -implicitDefEqProofs (maxSteps := 999999) [-selQ_sel,h_1,h_2,h_3]
theorem spec_l11Box_ok0 (hm : Try.prog.follows .mixedOrders = true) (k_spec_Empty : Sound Try.prog 155 spec_Empty_x) (k_spec_l01In : Sound Try.prog 71 spec_l01In_x) : Sound Try.prog 121 spec_l11Box_x := by
 refine xOf_sound fun q r h => ?_
 revert h; revert r; revert q; intro a0 r h
 refine fn_ok E0 hm Try.func121 rfl (by decide +kernel) (by rfl) fun Γ hn hk => ?_
 dsimp only [spec_l11Box_e,spec_l11Box_v]
 replace hn : Γ.n = 42 := hn
 replace hk : Γ.k = 0 := hk
 have H : HS (spec_l11Box a0) r := h
 clear h; unfold spec_l11Box at H
 try simp -implicitDefEqProofs at H
 refine Tr.of_vc (cl := tabC [(155,spec_Empty_x),(71,spec_l01In_x)]) (E := E0) [] (tab_cons k_spec_Empty (tab_cons k_spec_l01In tab_nil)) hm (by rw [hn]; decide +kernel) ?_
 try simp -implicitDefEqProofs (maxSteps := 999999) [-selQ_sel]
 obtain ⟨v1,h_1,H⟩ := HS.bnd H
 try simp -implicitDefEqProofs (maxSteps := 999999) [-selQ_sel,h_1]
 refine Hid.selQ (fun h_2 => ?_) (fun h_2 => ?_)
 ·replace H := HS.cnd_t h_2 H
  try simp -implicitDefEqProofs (maxSteps := 999999) [-selQ_sel,h_1,h_2]
  have hr := (HS.some H).symm; subst hr
  refine Hid.mk ⟨_,Wk.refl _,?_⟩
  try simp -implicitDefEqProofs (maxSteps := 999999) [-selQ_sel,h_1,h_2]
 ·replace H := HS.cnd_f h_2 H
  try simp -implicitDefEqProofs (maxSteps := 999999) [-selQ_sel,h_1,h_2]
  obtain ⟨v2,h_3,H⟩ := HS.bnd H
  try simp -implicitDefEqProofs (maxSteps := 999999) [-selQ_sel,h_1,h_2,h_3]
  refine Hid.selQ (fun h_4 => ?_) (fun h_4 => ?_)
  ·replace H := HS.cnd_t h_4 H
   try simp -implicitDefEqProofs (maxSteps := 999999) [-selQ_sel,h_1,h_2,h_3,h_4]
   obtain ⟨v3,h_5,H⟩ := HS.bnd H
   try simp -implicitDefEqProofs (maxSteps := 999999) [-selQ_sel,h_1,h_2,h_3,h_4,h_5]
   refine Hid.selQ (fun h_6 => ?_) (fun h_6 => ?_)
   ·replace H := HS.cnd_t h_6 H
    try simp -implicitDefEqProofs (maxSteps := 999999) [-selQ_sel,h_1,h_2,h_3,h_4,h_5,h_6]
    obtain ⟨v4,h_7,H⟩ := HS.bnd H
    try simp -implicitDefEqProofs (maxSteps := 999999) [-selQ_sel,h_1,h_2,h_3,h_4,h_5,h_6,h_7]
    refine Hid.selQ (fun h_8 => ?_) (fun h_8 => ?_)
    ·replace H := HS.cnd_t h_8 H
     try simp -implicitDefEqProofs (maxSteps := 999999) [-selQ_sel,h_1,h_2,h_3,h_4,h_5,h_6,h_7,h_8]
     obtain ⟨v5,h_9,H⟩ := HS.bnd H
     try simp -implicitDefEqProofs (maxSteps := 999999) [-selQ_sel,h_1,h_2,h_3,h_4,h_5,h_6,h_7,h_8,h_9]
     refine Hid.selQ (fun h_10 => ?_) (fun h_10 => ?_)
     ·replace H := HS.cnd_t h_10 H
      try simp -implicitDefEqProofs (maxSteps := 999999) [-selQ_sel,h_1,h_2,h_3,h_4,h_5,h_6,h_7,h_8,h_9,h_10]
      refine Hid.selQ (fun h_11 => ?_) (fun h_11 => ?_)
      ·replace H := HS.cnd_t h_11 H
       try simp -implicitDefEqProofs (maxSteps := 999999) [-selQ_sel,h_1,h_2,h_3,h_4,h_5,h_6,h_7,h_8,h_9,h_10,h_11]
       have hr := (HS.some H).symm; subst hr
       refine Hid.mk ⟨_,Wk.refl _,?_⟩
       try simp -implicitDefEqProofs (maxSteps := 999999) [-selQ_sel,h_1,h_2,h_3,h_4,h_5,h_6,h_7,h_8,h_9,h_10,h_11]
      ·replace H := HS.cnd_f h_11 H
       try simp -implicitDefEqProofs (maxSteps := 999999) [-selQ_sel,h_1,h_2,h_3,h_4,h_5,h_6,h_7,h_8,h_9,h_10,h_11]
       have hr := (HS.some H).symm; subst hr
       refine Hid.mk ⟨_,Wk.refl _,?_⟩
       try simp -implicitDefEqProofs (maxSteps := 999999) [-selQ_sel,h_1,h_2,h_3,h_4,h_5,h_6,h_7,h_8,h_9,h_10,h_11]
     ·replace H := HS.cnd_f h_10 H
      try simp -implicitDefEqProofs (maxSteps := 999999) [-selQ_sel,h_1,h_2,h_3,h_4,h_5,h_6,h_7,h_8,h_9,h_10]
      have hr := (HS.some H).symm; subst hr
      refine Hid.mk ⟨_,Wk.refl _,?_⟩
      try simp -implicitDefEqProofs (maxSteps := 999999) [-selQ_sel,h_1,h_2,h_3,h_4,h_5,h_6,h_7,h_8,h_9,h_10]
    ·replace H := HS.cnd_f h_8 H
     try simp -implicitDefEqProofs (maxSteps := 999999) [-selQ_sel,h_1,h_2,h_3,h_4,h_5,h_6,h_7,h_8]
     have hr := (HS.some H).symm; subst hr
     refine Hid.mk ⟨_,Wk.refl _,?_⟩
     try simp -implicitDefEqProofs (maxSteps := 999999) [-selQ_sel,h_1,h_2,h_3,h_4,h_5,h_6,h_7,h_8]
   ·replace H := HS.cnd_f h_6 H
    try simp -implicitDefEqProofs (maxSteps := 999999) [-selQ_sel,h_1,h_2,h_3,h_4,h_5,h_6]
    have hr := (HS.some H).symm; subst hr
    refine Hid.mk ⟨_,Wk.refl _,?_⟩
    try simp -implicitDefEqProofs (maxSteps := 999999) [-selQ_sel,h_1,h_2,h_3,h_4,h_5,h_6]
  ·replace H := HS.cnd_f h_4 H
   try simp -implicitDefEqProofs (maxSteps := 999999) [-selQ_sel,h_1,h_2,h_3,h_4]
   have hr := (HS.some H).symm; subst hr
   refine Hid.mk ⟨_,Wk.refl _,?_⟩
   try simp -implicitDefEqProofs (maxSteps := 999999) [-selQ_sel,h_1,h_2,h_3,h_4]
theorem slices_IndexFunc_Kept_Cache_keptAt_1R_ok0 (hm : Try.prog.follows .mixedOrders = true) (k_impl_Cache_keptAt_1R : Sound Try.prog 126 impl_Cache_keptAt_1R_x) : Sound Try.prog 118 slices_IndexFunc_Kept_Cache_keptAt_1R_x := by
 refine xOf_sound fun q r h => ?_
 obtain ⟨a0,a1⟩ := q
 refine fn_ok E0 hm Try.func118 rfl (by decide +kernel) (by rfl) fun Γ hn hk => ?_
 dsimp only [slices_IndexFunc_Kept_Cache_keptAt_1R_e,slices_IndexFunc_Kept_Cache_keptAt_1R_v]
 replace hn : Γ.n = 19 := hn
 replace hk : Γ.k = 0 := hk
 have H : HS (slices_IndexFunc_Kept_Cache_keptAt_1R a0 a1) r := h
 clear h; unfold slices_IndexFunc_Kept_Cache_keptAt_1R at H
 try simp -implicitDefEqProofs at H
 refine Tr.of_vc (cl := tabC [(126,impl_Cache_keptAt_1R_x)]) (E := E0) [] (tab_cons k_impl_Cache_keptAt_1R tab_nil) hm (by rw [hn]; decide +kernel) ?_
 try simp -implicitDefEqProofs (maxSteps := 999999) [-selQ_sel]
 obtain ⟨q,h_1,H⟩ := HS.bnd H
 refine Hid.mk (Tr.weak (s' := (slices_IndexFunc_Kept_Cache_keptAt_1R_l0_S a0 a1) 0) (Wk.ofk [] hk (by rfl) (by simp -implicitDefEqProofs [slices_IndexFunc_Kept_Cache_keptAt_1R_l0_S]) (by simp -implicitDefEqProofs [slices_IndexFunc_Kept_Cache_keptAt_1R_l0_S])) ?_)
 refine wp_loop_of (S := (slices_IndexFunc_Kept_Cache_keptAt_1R_l0_S a0 a1)) (f := (slices_IndexFunc_Kept_Cache_keptAt_1R_l0 a0 a1)) (xt := (slices_IndexFunc_Kept_Cache_keptAt_1R_l0_X a0 a1)) ?_ ?_ h_1 ?_
 ·intro q; rcases q with ⟨⟩ | y6 <;> simp [slices_IndexFunc_Kept_Cache_keptAt_1R_l0_X]
 ·clear H h_1 q
  rintro x3 o R hf hR
  have H : HS (slices_IndexFunc_Kept_Cache_keptAt_1R_l0 a0 a1 x3) o := hf
  clear hf; unfold slices_IndexFunc_Kept_Cache_keptAt_1R_l0 at H
  try simp -implicitDefEqProofs at H
  refine Tr.of_vc (cl := tabC [(126,impl_Cache_keptAt_1R_x)]) (E := E0) [] (tab_cons k_impl_Cache_keptAt_1R tab_nil) hm (by rw [hn]; decide +kernel) ?_
  try simp -implicitDefEqProofs (maxSteps := 999999) [-selQ_sel,slices_IndexFunc_Kept_Cache_keptAt_1R_l0_S]
  refine Hid.brV (fun h_2 => ?_) (fun h_2 => ?_)
  ·replace H := HS.cnd_t h_2 H
   try simp -implicitDefEqProofs (maxSteps := 999999) [-selQ_sel,h_2]
   have hr := (HS.some H).symm; subst hr
   exact Hid.mk ⟨(slices_IndexFunc_Kept_Cache_keptAt_1R_l0_X a0 a1 (.inl ())).2,Wk.ofk [] hk (by rfl) (by simp -implicitDefEqProofs [slices_IndexFunc_Kept_Cache_keptAt_1R_l0_X,h_2]) (by simp -implicitDefEqProofs [slices_IndexFunc_Kept_Cache_keptAt_1R_l0_X,h_2]),hR⟩
  ·replace H := HS.cnd_f h_2 H
   try simp -implicitDefEqProofs (maxSteps := 999999) [-selQ_sel,h_2]
   obtain ⟨v4,h_3,H⟩ := HS.bnd H
   try simp -implicitDefEqProofs (maxSteps := 999999) [-selQ_sel,h_2,h_3]
   obtain ⟨v5,h_4,H⟩ := HS.bnd H
   try simp -implicitDefEqProofs (maxSteps := 999999) [-selQ_sel,h_2,h_3,h_4]
   refine Hid.brV (fun h_5 => ?_) (fun h_5 => ?_)
   ·replace H := HS.cnd_t h_5 H
    try simp -implicitDefEqProofs (maxSteps := 999999) [-selQ_sel,h_2,h_3,h_4,h_5]
    have hr := (HS.some H).symm; subst hr
    exact Hid.mk ⟨(slices_IndexFunc_Kept_Cache_keptAt_1R_l0_X a0 a1 (.inr x3)).2,Wk.ofk [] hk (by rfl) (by simp -implicitDefEqProofs [slices_IndexFunc_Kept_Cache_keptAt_1R_l0_X,h_2,h_3,h_4,h_5]) (by simp -implicitDefEqProofs [slices_IndexFunc_Kept_Cache_keptAt_1R_l0_X,h_2,h_3,h_4,h_5]),hR⟩
   ·replace H := HS.cnd_f h_5 H
    try simp -implicitDefEqProofs (maxSteps := 999999) [-selQ_sel,h_2,h_3,h_4,h_5]
    have hr := (HS.some H).symm; subst hr
    exact Hid.mk ⟨slices_IndexFunc_Kept_Cache_keptAt_1R_l0_S a0 a1 (IntKind.i64.wrap (x3 + 1)),Wk.ofk [] hk (by rfl) (by simp -implicitDefEqProofs [slices_IndexFunc_Kept_Cache_keptAt_1R_l0_S,h_2,h_3,h_4,h_5]) (by simp -implicitDefEqProofs [slices_IndexFunc_Kept_Cache_keptAt_1R_l0_S,h_2,h_3,h_4,h_5]),hR⟩
 ·rcases q with ⟨⟩ | y6
  ·dsimp only at H
   try simp -implicitDefEqProofs (maxSteps := 999999) [-selQ_sel,slices_IndexFunc_Kept_Cache_keptAt_1R_l0_X]
   have hr := (HS.some H).symm; subst hr
   refine Hid.mk ⟨_,Wk.refl _,?_⟩
   try simp -implicitDefEqProofs (maxSteps := 999999) [-selQ_sel]
  ·dsimp only at H
   try simp -implicitDefEqProofs (maxSteps := 999999) [-selQ_sel,slices_IndexFunc_Kept_Cache_keptAt_1R_l0_X]
   have hr := (HS.some H).symm; subst hr
   refine Hid.mk ⟨_,Wk.refl _,?_⟩
   try simp -implicitDefEqProofs (maxSteps := 999999) [-selQ_sel]
theorem laws_szKeptS_ok0 (hm : Try.prog.follows .mixedOrders = true) (k_laws_szKept : Sound Try.prog 116 laws_szKept_x) : Sound Try.prog 59 laws_szKeptS_x := by
 refine xOf_sound fun q r h => ?_
 obtain ⟨a0,a1⟩ := q
 refine fn_ok E0 hm Try.func59 rfl (by decide +kernel) (by rfl) fun Γ hn hk => ?_
 dsimp only [laws_szKeptS_e,laws_szKeptS_v]
 replace hn : Γ.n = 27 := hn
 replace hk : Γ.k = 0 := hk
 have H : HS (laws_szKeptS a0 a1) r := h
 clear h; unfold laws_szKeptS at H
 try simp -implicitDefEqProofs at H
 refine Tr.of_vc (cl := tabC [(116,laws_szKept_x)]) (E := E0) [] (tab_cons k_laws_szKept tab_nil) hm (by rw [hn]; decide +kernel) ?_
 try simp -implicitDefEqProofs (maxSteps := 999999) [-selQ_sel]
 refine Hid.brV (fun h_1 => ?_) (fun h_1 => ?_)
 ·replace H := HS.cnd_t h_1 H
  try simp -implicitDefEqProofs (maxSteps := 999999) [-selQ_sel,h_1]
  obtain ⟨q,h_2,H⟩ := HS.bnd H
  refine Hid.mk (Tr.weak (s' := (laws_szKeptS_l0_S a0) ((IntKind.i64.wrap (a1 - (List.length a0 : Int))),0)) (Wk.ofk [] hk (by rfl) (by simp -implicitDefEqProofs [laws_szKeptS_l0_S,h_1]) (by simp -implicitDefEqProofs [laws_szKeptS_l0_S,h_1])) ?_)
  refine wp_loop_of (S := (laws_szKeptS_l0_S a0)) (f := (laws_szKeptS_l0 a0)) (xt := (laws_szKeptS_l0_X a0)) ?_ ?_ h_2 ?_
  ·intro q; rcases q with y7 | ⟨⟩ <;> simp [laws_szKeptS_l0_X]
  ·clear H h_2 q
   rintro ⟨x3,x4⟩ o R hf hR
   have H : HS (laws_szKeptS_l0 a0 (x3,x4)) o := hf
   clear hf; unfold laws_szKeptS_l0 at H
   try simp -implicitDefEqProofs at H
   refine Tr.of_vc (cl := tabC [(116,laws_szKept_x)]) (E := E0) [] (tab_cons k_laws_szKept tab_nil) hm (by rw [hn]; decide +kernel) ?_
   try simp -implicitDefEqProofs (maxSteps := 999999) [-selQ_sel,laws_szKeptS_l0_S]
   refine Hid.brV (fun h_3 => ?_) (fun h_3 => ?_)
   ·replace H := HS.cnd_t h_3 H
    try simp -implicitDefEqProofs (maxSteps := 999999) [-selQ_sel,h_3]
    have hr := (HS.some H).symm; subst hr
    exact Hid.mk ⟨(laws_szKeptS_l0_X a0 (.inl x3)).2,Wk.ofk [] hk (by rfl) (by simp -implicitDefEqProofs [laws_szKeptS_l0_X,h_3]) (by simp -implicitDefEqProofs [laws_szKeptS_l0_X,h_3]),hR⟩
   ·replace H := HS.cnd_f h_3 H
    try simp -implicitDefEqProofs (maxSteps := 999999) [-selQ_sel,h_3]
    obtain ⟨v5,h_4,H⟩ := HS.bnd H
    try simp -implicitDefEqProofs (maxSteps := 999999) [-selQ_sel,h_3,h_4]
    obtain ⟨v6,h_5,H⟩ := HS.bnd H
    try simp -implicitDefEqProofs (maxSteps := 999999) [-selQ_sel,h_3,h_4,h_5]
    refine Hid.brV (fun h_6 => ?_) (fun h_6 => ?_)
    ·replace H := HS.cnd_t h_6 H
     try simp -implicitDefEqProofs (maxSteps := 999999) [-selQ_sel,h_3,h_4,h_5,h_6]
     have hr := (HS.some H).symm; subst hr
     exact Hid.mk ⟨laws_szKeptS_l0_S a0 (v6,(IntKind.i64.wrap (x4 + 1))),Wk.ofk [] hk (by rfl) (by simp -implicitDefEqProofs [laws_szKeptS_l0_S,h_3,h_4,h_5,h_6]) (by simp -implicitDefEqProofs [laws_szKeptS_l0_S,h_3,h_4,h_5,h_6]),hR⟩
    ·replace H := HS.cnd_f h_6 H
     try simp -implicitDefEqProofs (maxSteps := 999999) [-selQ_sel,h_3,h_4,h_5,h_6]
     have hr := (HS.some H).symm; subst hr
     exact Hid.mk ⟨(laws_szKeptS_l0_X a0 (.inr ())).2,Wk.ofk [] hk (by rfl) (by simp -implicitDefEqProofs [laws_szKeptS_l0_X,h_3,h_4,h_5,h_6]) (by simp -implicitDefEqProofs [laws_szKeptS_l0_X,h_3,h_4,h_5,h_6]),hR⟩
  ·rcases q with y7 | ⟨⟩
   ·dsimp only at H
    try simp -implicitDefEqProofs (maxSteps := 999999) [-selQ_sel,h_1,laws_szKeptS_l0_X]
    have hr := (HS.some H).symm; subst hr
    refine Hid.mk ⟨_,Wk.refl _,?_⟩
    try simp -implicitDefEqProofs (maxSteps := 999999) [-selQ_sel,h_1]
   ·dsimp only at H
    try simp -implicitDefEqProofs (maxSteps := 999999) [-selQ_sel,h_1,laws_szKeptS_l0_X]
    have hr := (HS.some H).symm; subst hr
    refine Hid.mk ⟨_,Wk.refl _,?_⟩
    try simp -implicitDefEqProofs (maxSteps := 999999) [-selQ_sel,h_1]
 ·replace H := HS.cnd_f h_1 H
  try simp -implicitDefEqProofs (maxSteps := 999999) [-selQ_sel,h_1]
  have hr := (HS.some H).symm; subst hr
  refine Hid.mk ⟨_,Wk.refl _,?_⟩
  try simp -implicitDefEqProofs (maxSteps := 999999) [-selQ_sel,h_1]
theorem impl_copyCache_ok0 (hm : Try.prog.follows .mixedOrders = true) (k_impl_copyMask : Sound Try.prog 78 impl_copyMask_x) : Sound Try.prog 62 impl_copyCache_x := by
 refine xOf_sound fun q r h => ?_
 revert h; revert r; revert q; intro a0 r h
 refine fn_ok E0 hm Try.func62 rfl (by decide +kernel) (by rfl) fun Γ hn hk => ?_
 dsimp only [impl_copyCache_e,impl_copyCache_v]
 replace hn : Γ.n = 29 := hn
 replace hk : Γ.k = 0 := hk
 have H : HS (impl_copyCache a0) r := h
 clear h; unfold impl_copyCache at H
 try simp -implicitDefEqProofs at H
 refine Tr.of_vc (cl := tabC [(78,impl_copyMask_x)]) (E := E0) [] (tab_cons k_impl_copyMask tab_nil) hm (by rw [hn]; decide +kernel) ?_
 try simp -implicitDefEqProofs +decide (maxSteps := 999999) [-selQ_sel,hokQ_of]
 obtain ⟨q,h_1,H⟩ := HS.bnd H
 refine Hid.mk (Tr.weak (s' := (impl_copyCache_l0_S a0) (0,[])) (Wk.ofk [1,2,3] hk (by rfl) (by simp -implicitDefEqProofs [impl_copyCache_l0_S]) (by simp -implicitDefEqProofs [impl_copyCache_l0_S])) ?_)
 refine wp_loop_of (S := (impl_copyCache_l0_S a0)) (f := (impl_copyCache_l0 a0)) (xt := (impl_copyCache_l0_X a0)) ?_ ?_ h_1 ?_
 ·intro q; simp [impl_copyCache_l0_X]
 ·clear H h_1 q
  rintro ⟨x5,x6⟩ o R hf hR
  have H : HS (impl_copyCache_l0 a0 (x5,x6)) o := hf
  clear hf; unfold impl_copyCache_l0 at H
  try simp -implicitDefEqProofs at H
  refine Tr.of_vc (cl := tabC [(78,impl_copyMask_x)]) (E := E0) [] (tab_cons k_impl_copyMask tab_nil) hm (by rw [hn]; decide +kernel) ?_
  try simp -implicitDefEqProofs +decide (maxSteps := 999999) [-selQ_sel,hokQ_of,impl_copyCache_l0_S]
  refine Hid.brV (fun h_2 => ?_) (fun h_2 => ?_)
  ·replace H := HS.cnd_t h_2 H
   try simp -implicitDefEqProofs +decide (maxSteps := 999999) [-selQ_sel,hokQ_of,h_2]
   have hr := (HS.some H).symm; subst hr
   exact Hid.mk ⟨(impl_copyCache_l0_X a0 x6).2,Wk.ofk [0,1,2] hk (by rfl) (by simp -implicitDefEqProofs [impl_copyCache_l0_X,h_2]) (by simp -implicitDefEqProofs [impl_copyCache_l0_X,h_2]),hR⟩
  ·replace H := HS.cnd_f h_2 H
   try simp -implicitDefEqProofs +decide (maxSteps := 999999) [-selQ_sel,hokQ_of,h_2]
   obtain ⟨v7,h_3,H⟩ := HS.bnd H
   try simp -implicitDefEqProofs +decide (maxSteps := 999999) [-selQ_sel,hokQ_of,h_2,h_3]
   obtain ⟨⟨w9,w10⟩,h_4,H⟩ := HS.bnd H
   dsimp only at H
   try simp -implicitDefEqProofs +decide (maxSteps := 999999) [-selQ_sel,hokQ_of,h_2,h_3,h_4]
   obtain ⟨h_5,H⟩ := HS.chkP H
   try simp -implicitDefEqProofs +decide (maxSteps := 999999) [-selQ_sel,hokQ_of,h_2,h_3,h_4,h_5]
   have hr := (HS.some H).symm; subst hr
   exact Hid.mk ⟨impl_copyCache_l0_S a0 ((IntKind.i64.wrap (x5 + 1)),(x6 ++ [(TKept.mk v7.id (TMask.mk w9 w10))])),Wk.trans (Wk.abs (id := 2) (j := 4) (js := []) (by rfl) (by rfl) (by decide) (by simp -implicitDefEqProofs [impl_copyCache_l0_S,h_2,h_3,h_4,h_5]) (by rfl) (by simp -implicitDefEqProofs [impl_copyCache_l0_S,h_2,h_3,h_4,h_5]) (by simp -implicitDefEqProofs [impl_copyCache_l0_S,h_2,h_3,h_4,h_5])) (Wk.ofk [0,1,2] hk (by rfl) (by simp -implicitDefEqProofs [impl_copyCache_l0_S,h_2,h_3,h_4,h_5]) (by simp -implicitDefEqProofs [impl_copyCache_l0_S,h_2,h_3,h_4,h_5])),hR⟩
 ·revert H h_1; revert q; intro y11 h_1 H
  try dsimp only at H
  try simp -implicitDefEqProofs +decide (maxSteps := 999999) [-selQ_sel,hokQ_of,impl_copyCache_l0_X]
  have hr := (HS.some H).symm; subst hr
  refine Hid.mk ⟨⟨[(2,AV.optr 0 0 2)],[(0,Ob.box [AV.int .i64 a0.most,AV.osl 1 0 (List.length y11) (List.length y11)]),(1,Ob.nar 6 (List.map eKept y11) [0,0,0,0,0,1])],2⟩,Wk.ofk [0,2] hk (by rfl) (by simp -implicitDefEqProofs []) (by simp -implicitDefEqProofs []),?_⟩
  try simp -implicitDefEqProofs +decide (maxSteps := 999999) [-selQ_sel,hokQ_of]
theorem laws_toIntS_ok0 (hm : Try.prog.follows .mixedOrders = true) : Sound Try.prog 17 laws_toIntS_x := by
 refine xOf_sound fun q r h => ?_
 revert h; revert r; revert q; intro a0 r h
 refine fn_ok E0 hm Try.func17 rfl (by decide +kernel) (by rfl) fun Γ hn hk => ?_
 dsimp only [laws_toIntS_e,laws_toIntS_v]
 replace hn : Γ.n = 22 := hn
 replace hk : Γ.k = 0 := hk
 have H : HS (laws_toIntS a0) r := h
 clear h; unfold laws_toIntS at H
 try simp -implicitDefEqProofs at H
 refine Tr.of_vc (cl := tabC []) (E := E0) [] tab_nil hm (by rw [hn]; decide +kernel) ?_
 try simp -implicitDefEqProofs (maxSteps := 999999) [-selQ_sel]
 obtain ⟨h_1,H⟩ := HS.chkP H
 try simp -implicitDefEqProofs (maxSteps := 999999) [-selQ_sel,h_1]
 obtain ⟨l1,h_2,H⟩ := HS.nam H
 have m_3 := congrArg (List.map (AV.int .i64)) h_2
 have q_4 := congrArg List.length h_2
 simp -implicitDefEqProofs at m_3 q_4
 try simp only [q_4] at m_3
 try simp only [q_4] at h_1
 try simp -implicitDefEqProofs (maxSteps := 999999) [-selQ_sel,h_1,m_3,q_4]
 obtain ⟨q,h_5,H⟩ := HS.bnd H
 refine Hid.mk (Tr.weak (s' := (laws_toIntS_l0_S a0) (0,l1)) (Wk.ofk [0] hk (by rfl) (by simp -implicitDefEqProofs [laws_toIntS_l0_S,h_1,m_3,q_4]) (by simp -implicitDefEqProofs [laws_toIntS_l0_S,h_1,m_3,q_4])) ?_)
 refine wp_loop_of (S := (laws_toIntS_l0_S a0)) (f := (laws_toIntS_l0 a0)) (xt := (laws_toIntS_l0_X a0)) ?_ ?_ h_5 ?_
 ·intro q; simp [laws_toIntS_l0_X]
 ·clear H h_5 q
  rintro ⟨x5,x6⟩ o R hf hR
  have H : HS (laws_toIntS_l0 a0 (x5,x6)) o := hf
  clear hf; unfold laws_toIntS_l0 at H
  try simp -implicitDefEqProofs at H
  refine Tr.of_vc (cl := tabC []) (E := E0) [] tab_nil hm (by rw [hn]; decide +kernel) ?_
  try simp -implicitDefEqProofs (maxSteps := 999999) [-selQ_sel,laws_toIntS_l0_S]
  refine Hid.brV (fun h_6 => ?_) (fun h_6 => ?_)
  ·replace H := HS.cnd_t h_6 H
   try simp -implicitDefEqProofs (maxSteps := 999999) [-selQ_sel,h_6]
   have hr := (HS.some H).symm; subst hr
   exact Hid.mk ⟨(laws_toIntS_l0_X a0 x6).2,Wk.ofk [0] hk (by rfl) (by simp -implicitDefEqProofs [laws_toIntS_l0_X,h_6]) (by simp -implicitDefEqProofs [laws_toIntS_l0_X,h_6]),hR⟩
  ·replace H := HS.cnd_f h_6 H
   try simp -implicitDefEqProofs (maxSteps := 999999) [-selQ_sel,h_6]
   obtain ⟨v7,h_7,H⟩ := HS.bnd H
   try simp -implicitDefEqProofs (maxSteps := 999999) [-selQ_sel,h_6,h_7]
   obtain ⟨v8,h_8,H⟩ := HS.bnd H
   have g_9 := idx_get h_8
   try simp -implicitDefEqProofs (maxSteps := 999999) [-selQ_sel,h_6,h_7,h_8,g_9]
   obtain ⟨l9,h_10,H⟩ := HS.nam H
   have m_11 := congrArg (List.map (AV.int .i64)) h_10
   have q_12 := congrArg List.length h_10
   simp -implicitDefEqProofs at m_11 q_12
   try simp only [q_12] at m_11
   try simp only [q_12] at g_9
   try simp -implicitDefEqProofs (maxSteps := 999999) [-selQ_sel,h_6,h_7,h_8,g_9,m_11,q_12]
   have hr := (HS.some H).symm; subst hr
   exact Hid.mk ⟨laws_toIntS_l0_S a0 ((IntKind.i64.wrap (x5 + 1)),l9),Wk.ofk [0] hk (by rfl) (by simp -implicitDefEqProofs [laws_toIntS_l0_S,h_6,h_7,h_8,g_9,m_11,q_12]) (by simp -implicitDefEqProofs [laws_toIntS_l0_S,h_6,h_7,h_8,g_9,m_11,q_12]),hR⟩
 ·revert H h_5; revert q; intro y10 h_5 H
  try dsimp only at H
  try simp -implicitDefEqProofs (maxSteps := 999999) [-selQ_sel,h_1,m_3,q_4,laws_toIntS_l0_X]
  have hr := (HS.some H).symm; subst hr
  refine Hid.mk ⟨⟨[(2,AV.osl 0 0 (List.length y10) (List.length y10))],[(0,Ob.arr 1 (List.map (AV.int .i64) y10) false)],1⟩,Wk.ofk [0] hk (by rfl) (by simp -implicitDefEqProofs [h_1,m_3,q_4]) (by simp -implicitDefEqProofs [h_1,m_3,q_4]),?_⟩
  try simp -implicitDefEqProofs (maxSteps := 999999) [-selQ_sel,h_1,m_3,q_4]
theorem laws_eqBox_ok0 (hm : Try.prog.follows .mixedOrders = true) : Sound Try.prog 79 laws_eqBox_x := by
 refine xOf_sound fun q r h => ?_
 obtain ⟨a0,a1⟩ := q
 refine fn_ok E0 hm Try.func79 rfl (by decide +kernel) (by rfl) fun Γ hn hk => ?_
 dsimp only [laws_eqBox_e,laws_eqBox_v]
 replace hn : Γ.n = 25 := hn
 replace hk : Γ.k = 0 := hk
 have H : HS (laws_eqBox a0 a1) r := h
 clear h; unfold laws_eqBox at H
 try simp -implicitDefEqProofs at H
 refine Tr.of_vc (cl := tabC []) (E := E0) [] tab_nil hm (by rw [hn]; decide +kernel) ?_
 try simp -implicitDefEqProofs (maxSteps := 999999) [-selQ_sel]
 refine Hid.brV (fun h_1 => ?_) (fun h_1 => ?_)
 ·replace H := HS.cnd_t h_1 H
  try simp -implicitDefEqProofs (maxSteps := 999999) [-selQ_sel,h_1]
  refine Hid.brV (fun h_2 => ?_) (fun h_2 => ?_)
  ·replace H := HS.cnd_t h_2 H
   try simp -implicitDefEqProofs (maxSteps := 999999) [-selQ_sel,h_1,h_2]
   refine Hid.brV (fun h_3 => ?_) (fun h_3 => ?_)
   ·replace H := HS.cnd_t h_3 H
    try simp -implicitDefEqProofs (maxSteps := 999999) [-selQ_sel,h_1,h_2,h_3]
    refine Hid.brV (fun h_4 => ?_) (fun h_4 => ?_)
    ·replace H := HS.cnd_t h_4 H
     try simp -implicitDefEqProofs (maxSteps := 999999) [-selQ_sel,h_1,h_2,h_3,h_4]
     have hr := (HS.some H).symm; subst hr
     refine Hid.mk ⟨_,Wk.refl _,?_⟩
     try simp -implicitDefEqProofs (maxSteps := 999999) [-selQ_sel,h_1,h_2,h_3,h_4]
    ·replace H := HS.cnd_f h_4 H
     try simp -implicitDefEqProofs (maxSteps := 999999) [-selQ_sel,h_1,h_2,h_3,h_4]
     have hr := (HS.some H).symm; subst hr
     refine Hid.mk ⟨_,Wk.refl _,?_⟩
     try simp -implicitDefEqProofs (maxSteps := 999999) [-selQ_sel,h_1,h_2,h_3,h_4]
   ·replace H := HS.cnd_f h_3 H
    try simp -implicitDefEqProofs (maxSteps := 999999) [-selQ_sel,h_1,h_2,h_3]
    have hr := (HS.some H).symm; subst hr
    refine Hid.mk ⟨_,Wk.refl _,?_⟩
    try simp -implicitDefEqProofs (maxSteps := 999999) [-selQ_sel,h_1,h_2,h_3]
  ·replace H := HS.cnd_f h_2 H
   try simp -implicitDefEqProofs (maxSteps := 999999) [-selQ_sel,h_1,h_2]
   have hr := (HS.some H).symm; subst hr
   refine Hid.mk ⟨_,Wk.refl _,?_⟩
   try simp -implicitDefEqProofs (maxSteps := 999999) [-selQ_sel,h_1,h_2]
 ·replace H := HS.cnd_f h_1 H
  try simp -implicitDefEqProofs (maxSteps := 999999) [-selQ_sel,h_1]
  have hr := (HS.some H).symm; subst hr
  refine Hid.mk ⟨_,Wk.refl _,?_⟩
  try simp -implicitDefEqProofs (maxSteps := 999999) [-selQ_sel,h_1]
theorem laws_eqKept_ok0 (hm : Try.prog.follows .mixedOrders = true) (k_laws_eqMask : Sound Try.prog 28 laws_eqMask_x) : Sound Try.prog 120 laws_eqKept_x := by
 refine xOf_sound fun q r h => ?_
 obtain ⟨a0,a1⟩ := q
 refine fn_ok E0 hm Try.func120 rfl (by decide +kernel) (by rfl) fun Γ hn hk => ?_
 dsimp only [laws_eqKept_e,laws_eqKept_v]
 replace hn : Γ.n = 16 := hn
 replace hk : Γ.k = 0 := hk
 have H : HS (laws_eqKept a0 a1) r := h
 clear h; unfold laws_eqKept at H
 try simp -implicitDefEqProofs at H
 refine Tr.of_vc (cl := tabC [(28,laws_eqMask_x)]) (E := E0) [] (tab_cons k_laws_eqMask tab_nil) hm (by rw [hn]; decide +kernel) ?_
 try simp -implicitDefEqProofs (maxSteps := 999999) [-selQ_sel]
 refine Hid.brV (fun h_1 => ?_) (fun h_1 => ?_)
 ·replace H := HS.cnd_t h_1 H
  try simp -implicitDefEqProofs (maxSteps := 999999) [-selQ_sel,h_1]
  obtain ⟨v1,h_2,H⟩ := HS.bnd H
  try simp -implicitDefEqProofs (maxSteps := 999999) [-selQ_sel,h_1,h_2]
  refine Hid.brV (fun h_3 => ?_) (fun h_3 => ?_)
  ·replace H := HS.cnd_t h_3 H
   try simp -implicitDefEqProofs (maxSteps := 999999) [-selQ_sel,h_1,h_2,h_3]
   have hr := (HS.some H).symm; subst hr
   refine Hid.mk ⟨_,Wk.refl _,?_⟩
   try simp -implicitDefEqProofs (maxSteps := 999999) [-selQ_sel,h_1,h_2,h_3]
  ·replace H := HS.cnd_f h_3 H
   try simp -implicitDefEqProofs (maxSteps := 999999) [-selQ_sel,h_1,h_2,h_3]
   have hr := (HS.some H).symm; subst hr
   refine Hid.mk ⟨_,Wk.refl _,?_⟩
   try simp -implicitDefEqProofs (maxSteps := 999999) [-selQ_sel,h_1,h_2,h_3]
 ·replace H := HS.cnd_f h_1 H
  try simp -implicitDefEqProofs (maxSteps := 999999) [-selQ_sel,h_1]
  have hr := (HS.some H).symm; subst hr
  refine Hid.mk ⟨_,Wk.refl _,?_⟩
  try simp -implicitDefEqProofs (maxSteps := 999999) [-selQ_sel,h_1]
theorem laws_heldCache_ok0 (hm : Try.prog.follows .mixedOrders = true) (k_laws_heldKeptS : Sound Try.prog 68 laws_heldKeptS_x) : Sound Try.prog 23 laws_heldCache_x := by
 refine xOf_sound fun q r h => ?_
 obtain ⟨a0,a1⟩ := q
 refine fn_ok E0 hm Try.func23 rfl (by decide +kernel) (by rfl) fun Γ hn hk => ?_
 dsimp only [laws_heldCache_e,laws_heldCache_v]
 replace hn : Γ.n = 12 := hn
 replace hk : Γ.k = 0 := hk
 have H : HS (laws_heldCache a0 a1) r := h
 clear h; unfold laws_heldCache at H
 try simp -implicitDefEqProofs at H
 refine Tr.of_vc (cl := tabC [(68,laws_heldKeptS_x)]) (E := E0) [] (tab_cons k_laws_heldKeptS tab_nil) hm (by rw [hn]; decide +kernel) ?_
 try simp -implicitDefEqProofs (maxSteps := 999999) [-selQ_sel]
 obtain ⟨v1,h_1,H⟩ := HS.bnd H
 try simp -implicitDefEqProofs (maxSteps := 999999) [-selQ_sel,h_1]
 refine Hid.brV (fun h_2 => ?_) (fun h_2 => ?_)
 ·replace H := HS.cnd_t h_2 H
  try simp -implicitDefEqProofs (maxSteps := 999999) [-selQ_sel,h_1,h_2]
  have hr := (HS.some H).symm; subst hr
  refine Hid.mk ⟨_,Wk.refl _,?_⟩
  try simp -implicitDefEqProofs (maxSteps := 999999) [-selQ_sel,h_1,h_2]
 ·replace H := HS.cnd_f h_2 H
  try simp -implicitDefEqProofs (maxSteps := 999999) [-selQ_sel,h_1,h_2]
  have hr := (HS.some H).symm; subst hr
  refine Hid.mk ⟨_,Wk.refl _,?_⟩
  try simp -implicitDefEqProofs (maxSteps := 999999) [-selQ_sel,h_1,h_2]
theorem laws_szKept_ok0 (hm : Try.prog.follows .mixedOrders = true) (k_laws_szMask : Sound Try.prog 24 laws_szMask_x) : Sound Try.prog 116 laws_szKept_x := by
 refine xOf_sound fun q r h => ?_
 obtain ⟨a0,a1⟩ := q
 refine fn_ok E0 hm Try.func116 rfl (by decide +kernel) (by rfl) fun Γ hn hk => ?_
 dsimp only [laws_szKept_e,laws_szKept_v]
 replace hn : Γ.n = 12 := hn
 replace hk : Γ.k = 0 := hk
 have H : HS (laws_szKept a0 a1) r := h
 clear h; unfold laws_szKept at H
 try simp -implicitDefEqProofs at H
 refine Tr.of_vc (cl := tabC [(24,laws_szMask_x)]) (E := E0) [] (tab_cons k_laws_szMask tab_nil) hm (by rw [hn]; decide +kernel) ?_
 try simp -implicitDefEqProofs (maxSteps := 999999) [-selQ_sel]
 obtain ⟨v1,h_1,H⟩ := HS.bnd H
 try simp -implicitDefEqProofs (maxSteps := 999999) [-selQ_sel,h_1]
 refine Hid.brV (fun h_2 => ?_) (fun h_2 => ?_)
 ·replace H := HS.cnd_t h_2 H
  try simp -implicitDefEqProofs (maxSteps := 999999) [-selQ_sel,h_1,h_2]
  have hr := (HS.some H).symm; subst hr
  refine Hid.mk ⟨_,Wk.refl _,?_⟩
  try simp -implicitDefEqProofs (maxSteps := 999999) [-selQ_sel,h_1,h_2]
 ·replace H := HS.cnd_f h_2 H
  try simp -implicitDefEqProofs (maxSteps := 999999) [-selQ_sel,h_1,h_2]
  have hr := (HS.some H).symm; subst hr
  refine Hid.mk ⟨_,Wk.refl _,?_⟩
  try simp -implicitDefEqProofs (maxSteps := 999999) [-selQ_sel,h_1,h_2]
theorem laws_toKept_ok0 (hm : Try.prog.follows .mixedOrders = true) (k_laws_toMask : Sound Try.prog 26 laws_toMask_x) : Sound Try.prog 117 laws_toKept_x := by
 refine xOf_sound fun q r h => ?_
 revert h; revert r; revert q; intro a0 r h
 refine fn_ok E0 hm Try.func117 rfl (by decide +kernel) (by rfl) fun Γ hn hk => ?_
 dsimp only [laws_toKept_e,laws_toKept_v]
 replace hn : Γ.n = 12 := hn
 replace hk : Γ.k = 0 := hk
 have H : HS (laws_toKept a0) r := h
 clear h; unfold laws_toKept at H
 try simp -implicitDefEqProofs at H
 refine Tr.of_vc (cl := tabC [(26,laws_toMask_x)]) (E := E0) [] (tab_cons k_laws_toMask tab_nil) hm (by rw [hn]; decide +kernel) ?_
 try simp -implicitDefEqProofs (maxSteps := 999999) [-selQ_sel]
 obtain ⟨⟨w2,w3⟩,h_1,H⟩ := HS.bnd H
 dsimp only at H
 try simp -implicitDefEqProofs (maxSteps := 999999) [-selQ_sel,h_1]
 have hr := (HS.some H).symm; subst hr
 refine Hid.mk ⟨⟨[(2,AV.optr 0 0 6)],[(0,Ob.box [AV.int .i64 a0.id,AV.int .i64 w2.x0,AV.int .i64 w2.y0,AV.int .i64 w2.x1,AV.int .i64 w2.y1,AV.osl 1 0 (List.length w3) (List.length w3)]),(1,Ob.arr 1 (List.map (AV.int .i64) w3) false)],2⟩,Wk.ofk [1,3] hk (by rfl) (by simp -implicitDefEqProofs [h_1]) (by simp -implicitDefEqProofs [h_1]),?_⟩
 try simp -implicitDefEqProofs (maxSteps := 999999) [-selQ_sel,h_1]
theorem impl_Empty_ok0 (hm : Try.prog.follows .mixedOrders = true) : Sound Try.prog 156 impl_Empty_x := by
 refine xOf_sound fun q r h => ?_
 revert h; revert r; revert q; intro a0 r h
 refine fn_ok E0 hm Try.func156 rfl (by decide +kernel) (by rfl) fun Γ hn hk => ?_
 dsimp only [impl_Empty_e,impl_Empty_v]
 replace hn : Γ.n = 15 := hn
 replace hk : Γ.k = 0 := hk
 have H : HS (impl_Empty a0) r := h
 clear h; unfold impl_Empty at H
 try simp -implicitDefEqProofs at H
 refine Tr.of_vc (cl := tabC []) (E := E0) [] tab_nil hm (by rw [hn]; decide +kernel) ?_
 try simp -implicitDefEqProofs (maxSteps := 999999) [-selQ_sel]
 refine Hid.selQ (fun h_1 => ?_) (fun h_1 => ?_)
 ·replace H := HS.cnd_t h_1 H
  try simp -implicitDefEqProofs (maxSteps := 999999) [-selQ_sel,h_1]
  have hr := (HS.some H).symm; subst hr
  refine Hid.mk ⟨_,Wk.refl _,?_⟩
  try simp -implicitDefEqProofs (maxSteps := 999999) [-selQ_sel,h_1]
 ·replace H := HS.cnd_f h_1 H
  try simp -implicitDefEqProofs (maxSteps := 999999) [-selQ_sel,h_1]
  have hr := (HS.some H).symm; subst hr
  refine Hid.mk ⟨_,Wk.refl _,?_⟩
  try simp -implicitDefEqProofs (maxSteps := 999999) [-selQ_sel,h_1]
theorem laws_szIntS_ok0 (hm : Try.prog.follows .mixedOrders = true) : Sound Try.prog 69 laws_szIntS_x := by
 refine xOf_sound fun q r h => ?_
 obtain ⟨a0,a1⟩ := q
 refine fn_ok E0 hm Try.func69 rfl (by decide +kernel) (by rfl) fun Γ hn hk => ?_
 dsimp only [laws_szIntS_e,laws_szIntS_v]
 replace hn : Γ.n = 12 := hn
 replace hk : Γ.k = 0 := hk
 have H : HS (laws_szIntS a0 a1) r := h
 clear h; unfold laws_szIntS at H
 try simp -implicitDefEqProofs at H
 refine Tr.of_vc (cl := tabC []) (E := E0) [] tab_nil hm (by rw [hn]; decide +kernel) ?_
 try simp -implicitDefEqProofs (maxSteps := 999999) [-selQ_sel]
 refine Hid.brV (fun h_1 => ?_) (fun h_1 => ?_)
 ·replace H := HS.cnd_t h_1 H
  try simp -implicitDefEqProofs (maxSteps := 999999) [-selQ_sel,h_1]
  have hr := (HS.some H).symm; subst hr
  refine Hid.mk ⟨_,Wk.refl _,?_⟩
  try simp -implicitDefEqProofs (maxSteps := 999999) [-selQ_sel,h_1]
 ·replace H := HS.cnd_f h_1 H
  try simp -implicitDefEqProofs (maxSteps := 999999) [-selQ_sel,h_1]
  have hr := (HS.some H).symm; subst hr
  refine Hid.mk ⟨_,Wk.refl _,?_⟩
  try simp -implicitDefEqProofs (maxSteps := 999999) [-selQ_sel,h_1]
theorem laws_markCache_ok0 (hm : Try.prog.follows .mixedOrders = true) (k_laws_markKeptS : Sound Try.prog 67 laws_markKeptS_x) : Sound Try.prog 21 laws_markCache_x := by
 refine xOf_sound fun q r h => ?_
 obtain ⟨a0,a1,a2⟩ := q
 refine fn_ok E0 hm Try.func21 rfl (by decide +kernel) (by rfl) fun Γ hn hk => ?_
 dsimp only [laws_markCache_e,laws_markCache_v]
 replace hn : Γ.n = 10 := hn
 replace hk : Γ.k = 1 := hk
 have H : HS (laws_markCache a0 a1 a2) r := h
 clear h; unfold laws_markCache at H
 try simp -implicitDefEqProofs at H
 refine Tr.of_vc (cl := tabC [(67,laws_markKeptS_x)]) (E := E0) [] (tab_cons k_laws_markKeptS tab_nil) hm (by rw [hn]; decide +kernel) ?_
 try simp -implicitDefEqProofs (maxSteps := 999999) [-selQ_sel]
 obtain ⟨⟨w2,w3⟩,h_1,H⟩ := HS.bnd H
 dsimp only at H
 have g_2 := laws_markKeptS_n h_1
 try simp -implicitDefEqProofs (maxSteps := 999999) [-selQ_sel,h_1,g_2]
 have hr := (HS.some H).symm; subst hr
 refine Hid.mk ⟨_,Wk.refl _,?_⟩
 try simp -implicitDefEqProofs (maxSteps := 999999) [-selQ_sel,h_1,g_2]
theorem impl_Cache_keptAt_1_ok0 (hm : Try.prog.follows .mixedOrders = true) : Sound Try.prog 126 impl_Cache_keptAt_1_x := by
 refine xOf_sound fun q r h => ?_
 obtain ⟨a0,a1⟩ := q
 refine fn_ok E0 hm Try.func126 rfl (by decide +kernel) (by rfl) fun Γ hn hk => ?_
 dsimp only [impl_Cache_keptAt_1_e,impl_Cache_keptAt_1_v]
 replace hn : Γ.n = 8 := hn
 replace hk : Γ.k = 0 := hk
 have H : HS (impl_Cache_keptAt_1 a0 a1) r := h
 clear h; unfold impl_Cache_keptAt_1 at H
 try simp -implicitDefEqProofs at H
 refine Tr.of_vc (cl := tabC []) (E := E0) [] tab_nil hm (by rw [hn]; decide +kernel) ?_
 try simp -implicitDefEqProofs (maxSteps := 999999) [-selQ_sel]
 have hr := (HS.some H).symm; subst hr
 refine Hid.mk ⟨_,Wk.refl _,?_⟩
 try simp -implicitDefEqProofs (maxSteps := 999999) [-selQ_sel]
end Go.Proofs.Ytapchldnmkfkoaa.Am
