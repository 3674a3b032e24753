import Derived.Test.YtapchldnmkfkoaaAmRmNa
set_option linter.unusedVariables false
set_option linter.unusedSimpArgs false
set_option linter.unusedSectionVars false
namespace Go.Proofs.Ytapchldnmkfkoaa.Am
open Go Go.Proofs
set_option maxRecDepth 100000
set_option linter.unusedSimpArgs false
set_option linter.unusedVariables false
set_option maxHeartbeats 4000000
theorem laws_FnExactRemember_ok0 (hm : Try.prog.follows .mixedOrders = true) (k_laws_szCache : Sound Try.prog 14 laws_szCache_x) (k_laws_szMask : Sound Try.prog 24 laws_szMask_x) (k_laws_toCache : Sound Try.prog 16 laws_toCache_x) (k_laws_toMask : Sound Try.prog 26 laws_toMask_x) (k_spec_Remember : Sound Try.prog 25 spec_Remember_x) (k_impl_Remember : Sound Try.prog 27 impl_Remember_x) (k_laws_eqCache : Sound Try.prog 19 laws_eqCache_x) (k_laws_eqMask : Sound Try.prog 28 laws_eqMask_x) (k_laws_markCache : Sound Try.prog 21 laws_markCache_x) (k_laws_markMask : Sound Try.prog 29 laws_markMask_x) (k_laws_heldCache : Sound Try.prog 23 laws_heldCache_x) : Sound Try.prog 5 laws_FnExactRemember_x := by
 refine xOf_sound fun q r h => ?_
 obtain ⟨a0,a1,a2⟩ := q
 refine fn_ok E0 hm Try.func5 rfl (by decide +kernel) (by rfl) fun Γ hn hk => ?_
 dsimp only [laws_FnExactRemember_e,laws_FnExactRemember_v]
 replace hn : Γ.n = 97 := hn
 replace hk : Γ.k = 0 := hk
 have H : HS (laws_FnExactRemember a0 a1 a2) r := h
 clear h; unfold laws_FnExactRemember at H
 try simp -implicitDefEqProofs at H
 refine Tr.of_vc (cl := tabC [(14,laws_szCache_x),(24,laws_szMask_x),(16,laws_toCache_x),(26,laws_toMask_x),(25,spec_Remember_x),(27,impl_Remember_x),(19,laws_eqCache_x),(28,laws_eqMask_x),(21,laws_markCache_x),(29,laws_markMask_x),(23,laws_heldCache_x)]) (E := E0) [] (tab_cons k_laws_szCache (tab_cons k_laws_szMask (tab_cons k_laws_toCache (tab_cons k_laws_toMask (tab_cons k_spec_Remember (tab_cons k_impl_Remember (tab_cons k_laws_eqCache (tab_cons k_laws_eqMask (tab_cons k_laws_markCache (tab_cons k_laws_markMask (tab_cons k_laws_heldCache tab_nil))))))))))) hm (by rw [hn]; decide +kernel) ?_
 try simp -implicitDefEqProofs +decide (maxSteps := 999999) [-selQ_sel,hokQ_of]
 obtain ⟨v1,h_1,H⟩ := HS.bnd H
 try simp -implicitDefEqProofs +decide (maxSteps := 999999) [-selQ_sel,hokQ_of,h_1]
 refine Hid.brV (fun h_2 => ?_) (fun h_2 => ?_)
 ·replace H := HS.cnd_t h_2 H
  try simp -implicitDefEqProofs +decide (maxSteps := 999999) [-selQ_sel,hokQ_of,h_1,h_2]
  obtain ⟨v2,h_3,H⟩ := HS.bnd H
  try simp -implicitDefEqProofs +decide (maxSteps := 999999) [-selQ_sel,hokQ_of,h_1,h_2,h_3]
  refine Hid.brV (fun h_4 => ?_) (fun h_4 => ?_)
  ·replace H := HS.cnd_t h_4 H
   try simp -implicitDefEqProofs +decide (maxSteps := 999999) [-selQ_sel,hokQ_of,h_1,h_2,h_3,h_4]
   obtain ⟨⟨w4,w5⟩,h_5,H⟩ := HS.bnd H
   dsimp only at H
   try simp -implicitDefEqProofs +decide (maxSteps := 999999) [-selQ_sel,hokQ_of,h_1,h_2,h_3,h_4,h_5]
   obtain ⟨⟨w7,w8⟩,h_6,H⟩ := HS.bnd H
   dsimp only at H
   try simp -implicitDefEqProofs +decide (maxSteps := 999999) [-selQ_sel,hokQ_of,h_1,h_2,h_3,h_4,h_5,h_6]
   obtain ⟨⟨w10,w11⟩,h_7,H⟩ := HS.bnd H
   dsimp only at H
   have k_8 := spec_Remember_k ((TCache.mk w4 w5).most) ((TCache.mk w4 w5).list) a1 (((TMask.mk w7 w8).box).x0) (((TMask.mk w7 w8).box).y0) (((TMask.mk w7 w8).box).x1) (((TMask.mk w7 w8).box).y1) ((TMask.mk w7 w8).bits)
   simp -implicitDefEqProofs [-spec_Remember_k] at k_8
   try simp -implicitDefEqProofs +decide (maxSteps := 999999) [-selQ_sel,hokQ_of,h_1,h_2,h_3,h_4,h_5,h_6,h_7,k_8]
   obtain ⟨⟨w13,w14⟩,h_9,H⟩ := HS.bnd H
   dsimp only at H
   have k_10 := impl_Remember_k ((TCache.mk w4 w5).most) ((TCache.mk w4 w5).list) a1 (((TMask.mk w7 w8).box).x0) (((TMask.mk w7 w8).box).y0) (((TMask.mk w7 w8).box).x1) (((TMask.mk w7 w8).box).y1) ((TMask.mk w7 w8).bits)
   simp -implicitDefEqProofs [-impl_Remember_k] at k_10
   try simp -implicitDefEqProofs +decide (maxSteps := 999999) [-selQ_sel,hokQ_of,h_1,h_2,h_3,h_4,h_5,h_6,h_7,k_8,h_9,k_10]
   obtain ⟨v15,h_11,H⟩ := HS.bnd H
   have k_12 := laws_eqCache_k ((TCache.mk w13 w14).most) ((TCache.mk w13 w14).list) ((TCache.mk w10 w11).most) ((TCache.mk w10 w11).list)
   simp -implicitDefEqProofs [-laws_eqCache_k] at k_12
   try simp -implicitDefEqProofs +decide (maxSteps := 999999) [-selQ_sel,hokQ_of,h_1,h_2,h_3,h_4,h_5,h_6,h_7,k_8,h_9,k_10,h_11,k_12]
   refine Hid.brV (fun h_13 => ?_) (fun h_13 => ?_)
   ·replace H := HS.cnd_t h_13 H
    try simp -implicitDefEqProofs +decide (maxSteps := 999999) [-selQ_sel,hokQ_of,h_1,h_2,h_3,h_4,h_5,h_6,h_7,k_8,h_9,k_10,h_11,k_12,h_13]
    obtain ⟨v16,h_14,H⟩ := HS.bnd H
    have k_15 := laws_eqCache_k ((TCache.mk w4 w5).most) ((TCache.mk w4 w5).list) ((TCache.mk w4 w5).most) ((TCache.mk w4 w5).list)
    simp -implicitDefEqProofs [-laws_eqCache_k] at k_15
    try simp -implicitDefEqProofs +decide (maxSteps := 999999) [-selQ_sel,hokQ_of,h_1,h_2,h_3,h_4,h_5,h_6,h_7,k_8,h_9,k_10,h_11,k_12,h_13,h_14,k_15]
    refine Hid.brV (fun h_16 => ?_) (fun h_16 => ?_)
    ·replace H := HS.cnd_t h_16 H
     try simp -implicitDefEqProofs +decide (maxSteps := 999999) [-selQ_sel,hokQ_of,h_1,h_2,h_3,h_4,h_5,h_6,h_7,k_8,h_9,k_10,h_11,k_12,h_13,h_14,k_15,h_16]
     obtain ⟨v17,h_17,H⟩ := HS.bnd H
     have k_18 := laws_eqMask_k (((TMask.mk w7 w8).box).x0) (((TMask.mk w7 w8).box).y0) (((TMask.mk w7 w8).box).x1) (((TMask.mk w7 w8).box).y1) ((TMask.mk w7 w8).bits) (((TMask.mk w7 w8).box).x0) (((TMask.mk w7 w8).box).y0) (((TMask.mk w7 w8).box).x1) (((TMask.mk w7 w8).box).y1) ((TMask.mk w7 w8).bits)
     simp -implicitDefEqProofs [-laws_eqMask_k] at k_18
     try simp -implicitDefEqProofs +decide (maxSteps := 999999) [-selQ_sel,hokQ_of,h_1,h_2,h_3,h_4,h_5,h_6,h_7,k_8,h_9,k_10,h_11,k_12,h_13,h_14,k_15,h_16,h_17,k_18]
     refine Hid.brV (fun h_19 => ?_) (fun h_19 => ?_)
     ·replace H := HS.cnd_t h_19 H
      try simp -implicitDefEqProofs +decide (maxSteps := 999999) [-selQ_sel,hokQ_of,h_1,h_2,h_3,h_4,h_5,h_6,h_7,k_8,h_9,k_10,h_11,k_12,h_13,h_14,k_15,h_16,h_17,k_18,h_19]
      obtain ⟨⟨w19,w20⟩,h_20,H⟩ := HS.bnd H
      dsimp only at H
      have g_21 := laws_markCache_n h_20
      try simp -implicitDefEqProofs +decide (maxSteps := 999999) [-selQ_sel,hokQ_of,h_1,h_2,h_3,h_4,h_5,h_6,h_7,k_8,h_9,k_10,h_11,k_12,h_13,h_14,k_15,h_16,h_17,k_18,h_19,h_20,g_21]
      obtain ⟨⟨w22,w23⟩,h_22,H⟩ := HS.bnd H
      dsimp only at H
      have g_23 := laws_markMask_n h_22
      try simp -implicitDefEqProofs +decide (maxSteps := 999999) [-selQ_sel,hokQ_of,h_1,h_2,h_3,h_4,h_5,h_6,h_7,k_8,h_9,k_10,h_11,k_12,h_13,h_14,k_15,h_16,h_17,k_18,h_19,h_20,g_21,h_22,g_23]
      refine Hid.selQ (fun h_24 => ?_) (fun h_24 => ?_)
      ·replace H := HS.cnd_t h_24 H
       try simp -implicitDefEqProofs +decide (maxSteps := 999999) [-selQ_sel,hokQ_of,h_1,h_2,h_3,h_4,h_5,h_6,h_7,k_8,h_9,k_10,h_11,k_12,h_13,h_14,k_15,h_16,h_17,k_18,h_19,h_20,g_21,h_22,g_23,h_24]
       obtain ⟨⟨w25,w26⟩,h_25,H⟩ := HS.bnd H
       dsimp only at H
       have g_26 := laws_markCache_n h_25
       try simp -implicitDefEqProofs +decide (maxSteps := 999999) [-selQ_sel,hokQ_of,h_1,h_2,h_3,h_4,h_5,h_6,h_7,k_8,h_9,k_10,h_11,k_12,h_13,h_14,k_15,h_16,h_17,k_18,h_19,h_20,g_21,h_22,g_23,h_24,h_25,g_26]
       obtain ⟨v27,h_27,H⟩ := HS.bnd H
       have k_28 := laws_heldCache_k ((TCache.mk w13 w26).most) ((TCache.mk w13 w26).list) 1
       simp -implicitDefEqProofs [-laws_heldCache_k] at k_28
       try simp -implicitDefEqProofs +decide (maxSteps := 999999) [-selQ_sel,hokQ_of,h_1,h_2,h_3,h_4,h_5,h_6,h_7,k_8,h_9,k_10,h_11,k_12,h_13,h_14,k_15,h_16,h_17,k_18,h_19,h_20,g_21,h_22,g_23,h_24,h_25,g_26,h_27,k_28]
       refine Hid.brV (fun h_29 => ?_) (fun h_29 => ?_)
       ·replace H := HS.cnd_t h_29 H
        try simp -implicitDefEqProofs +decide (maxSteps := 999999) [-selQ_sel,hokQ_of,h_1,h_2,h_3,h_4,h_5,h_6,h_7,k_8,h_9,k_10,h_11,k_12,h_13,h_14,k_15,h_16,h_17,k_18,h_19,h_20,g_21,h_22,g_23,h_24,h_25,g_26,h_27,k_28,h_29]
        refine Hid.brV (fun h_30 => ?_) (fun h_30 => ?_)
        ·replace H := HS.cnd_t h_30 H
         try simp -implicitDefEqProofs +decide (maxSteps := 999999) [-selQ_sel,hokQ_of,h_1,h_2,h_3,h_4,h_5,h_6,h_7,k_8,h_9,k_10,h_11,k_12,h_13,h_14,k_15,h_16,h_17,k_18,h_19,h_20,g_21,h_22,g_23,h_24,h_25,g_26,h_27,k_28,h_29,h_30]
         have hr := (HS.some H).symm; subst hr
         refine Hid.mk ⟨_,Wk.refl _,?_⟩
         try simp -implicitDefEqProofs +decide (maxSteps := 999999) [-selQ_sel,hokQ_of,h_1,h_2,h_3,h_4,h_5,h_6,h_7,k_8,h_9,k_10,h_11,k_12,h_13,h_14,k_15,h_16,h_17,k_18,h_19,h_20,g_21,h_22,g_23,h_24,h_25,g_26,h_27,k_28,h_29,h_30]
        ·replace H := HS.cnd_f h_30 H
         try simp -implicitDefEqProofs +decide (maxSteps := 999999) [-selQ_sel,hokQ_of,h_1,h_2,h_3,h_4,h_5,h_6,h_7,k_8,h_9,k_10,h_11,k_12,h_13,h_14,k_15,h_16,h_17,k_18,h_19,h_20,g_21,h_22,g_23,h_24,h_25,g_26,h_27,k_28,h_29,h_30]
         have hr := (HS.some H).symm; subst hr
         refine Hid.mk ⟨_,Wk.refl _,?_⟩
         try simp -implicitDefEqProofs +decide (maxSteps := 999999) [-selQ_sel,hokQ_of,h_1,h_2,h_3,h_4,h_5,h_6,h_7,k_8,h_9,k_10,h_11,k_12,h_13,h_14,k_15,h_16,h_17,k_18,h_19,h_20,g_21,h_22,g_23,h_24,h_25,g_26,h_27,k_28,h_29,h_30]
       ·replace H := HS.cnd_f h_29 H
        try simp -implicitDefEqProofs +decide (maxSteps := 999999) [-selQ_sel,hokQ_of,h_1,h_2,h_3,h_4,h_5,h_6,h_7,k_8,h_9,k_10,h_11,k_12,h_13,h_14,k_15,h_16,h_17,k_18,h_19,h_20,g_21,h_22,g_23,h_24,h_25,g_26,h_27,k_28,h_29]
        have hr := (HS.some H).symm; subst hr
        refine Hid.mk ⟨_,Wk.refl _,?_⟩
        try simp -implicitDefEqProofs +decide (maxSteps := 999999) [-selQ_sel,hokQ_of,h_1,h_2,h_3,h_4,h_5,h_6,h_7,k_8,h_9,k_10,h_11,k_12,h_13,h_14,k_15,h_16,h_17,k_18,h_19,h_20,g_21,h_22,g_23,h_24,h_25,g_26,h_27,k_28,h_29]
      ·replace H := HS.cnd_f h_24 H
       try simp -implicitDefEqProofs +decide (maxSteps := 999999) [-selQ_sel,hokQ_of,h_1,h_2,h_3,h_4,h_5,h_6,h_7,k_8,h_9,k_10,h_11,k_12,h_13,h_14,k_15,h_16,h_17,k_18,h_19,h_20,g_21,h_22,g_23,h_24]
       have hr := (HS.some H).symm; subst hr
       refine Hid.mk ⟨_,Wk.refl _,?_⟩
       try simp -implicitDefEqProofs +decide (maxSteps := 999999) [-selQ_sel,hokQ_of,h_1,h_2,h_3,h_4,h_5,h_6,h_7,k_8,h_9,k_10,h_11,k_12,h_13,h_14,k_15,h_16,h_17,k_18,h_19,h_20,g_21,h_22,g_23,h_24]
     ·replace H := HS.cnd_f h_19 H
      try simp -implicitDefEqProofs +decide (maxSteps := 999999) [-selQ_sel,hokQ_of,h_1,h_2,h_3,h_4,h_5,h_6,h_7,k_8,h_9,k_10,h_11,k_12,h_13,h_14,k_15,h_16,h_17,k_18,h_19]
      have hr := (HS.some H).symm; subst hr
      refine Hid.mk ⟨_,Wk.refl _,?_⟩
      try simp -implicitDefEqProofs +decide (maxSteps := 999999) [-selQ_sel,hokQ_of,h_1,h_2,h_3,h_4,h_5,h_6,h_7,k_8,h_9,k_10,h_11,k_12,h_13,h_14,k_15,h_16,h_17,k_18,h_19]
    ·replace H := HS.cnd_f h_16 H
     try simp -implicitDefEqProofs +decide (maxSteps := 999999) [-selQ_sel,hokQ_of,h_1,h_2,h_3,h_4,h_5,h_6,h_7,k_8,h_9,k_10,h_11,k_12,h_13,h_14,k_15,h_16]
     have hr := (HS.some H).symm; subst hr
     refine Hid.mk ⟨_,Wk.refl _,?_⟩
     try simp -implicitDefEqProofs +decide (maxSteps := 999999) [-selQ_sel,hokQ_of,h_1,h_2,h_3,h_4,h_5,h_6,h_7,k_8,h_9,k_10,h_11,k_12,h_13,h_14,k_15,h_16]
   ·replace H := HS.cnd_f h_13 H
    try simp -implicitDefEqProofs +decide (maxSteps := 999999) [-selQ_sel,hokQ_of,h_1,h_2,h_3,h_4,h_5,h_6,h_7,k_8,h_9,k_10,h_11,k_12,h_13]
    have hr := (HS.some H).symm; subst hr
    refine Hid.mk ⟨_,Wk.refl _,?_⟩
    try simp -implicitDefEqProofs +decide (maxSteps := 999999) [-selQ_sel,hokQ_of,h_1,h_2,h_3,h_4,h_5,h_6,h_7,k_8,h_9,k_10,h_11,k_12,h_13]
  ·replace H := HS.cnd_f h_4 H
   try simp -implicitDefEqProofs +decide (maxSteps := 999999) [-selQ_sel,hokQ_of,h_1,h_2,h_3,h_4]
   have hr := (HS.some H).symm; subst hr
   refine Hid.mk ⟨_,Wk.refl _,?_⟩
   try simp -implicitDefEqProofs +decide (maxSteps := 999999) [-selQ_sel,hokQ_of,h_1,h_2,h_3,h_4]
 ·replace H := HS.cnd_f h_2 H
  try simp -implicitDefEqProofs +decide (maxSteps := 999999) [-selQ_sel,hokQ_of,h_1,h_2]
  have hr := (HS.some H).symm; subst hr
  refine Hid.mk ⟨_,Wk.refl _,?_⟩
  try simp -implicitDefEqProofs +decide (maxSteps := 999999) [-selQ_sel,hokQ_of,h_1,h_2]
theorem laws_heldKeptS_ok0 (hm : Try.prog.follows .mixedOrders = true) (k_laws_heldIntS : Sound Try.prog 82 laws_heldIntS_x) : Sound Try.prog 68 laws_heldKeptS_x := by
 refine xOf_sound fun q r h => ?_
 obtain ⟨a0,a1⟩ := q
 refine fn_ok E0 hm Try.func68 rfl (by decide +kernel) (by rfl) fun Γ hn hk => ?_
 dsimp only [laws_heldKeptS_e,laws_heldKeptS_v]
 replace hn : Γ.n = 76 := hn
 replace hk : Γ.k = 0 := hk
 have H : HS (laws_heldKeptS a0 a1) r := h
 clear h; unfold laws_heldKeptS at H
 try simp -implicitDefEqProofs at H
 refine Tr.of_vc (cl := tabC [(82,laws_heldIntS_x)]) (E := E0) [] (tab_cons k_laws_heldIntS tab_nil) hm (by rw [hn]; decide +kernel) ?_
 try simp -implicitDefEqProofs (maxSteps := 999999) [-selQ_sel]
 obtain ⟨q,h_1,H⟩ := HS.bnd H
 refine Hid.mk (Tr.weak (s' := (laws_heldKeptS_l0_S a0) (a1,0)) (Wk.ofk [] hk (by rfl) (by simp -implicitDefEqProofs [laws_heldKeptS_l0_S]) (by simp -implicitDefEqProofs [laws_heldKeptS_l0_S])) ?_)
 refine wp_loop_of (S := (laws_heldKeptS_l0_S a0)) (f := (laws_heldKeptS_l0 a0)) (xt := (laws_heldKeptS_l0_X a0)) ?_ ?_ h_1 ?_
 ·intro q; rcases q with y7 | ⟨⟩ <;> simp [laws_heldKeptS_l0_X]
 ·clear H h_1 q
  rintro ⟨x3,x4⟩ o R hf hR
  have H : HS (laws_heldKeptS_l0 a0 (x3,x4)) o := hf
  clear hf; unfold laws_heldKeptS_l0 at H
  try simp -implicitDefEqProofs at H
  refine Tr.of_vc (cl := tabC [(82,laws_heldIntS_x)]) (E := E0) [] (tab_cons k_laws_heldIntS tab_nil) hm (by rw [hn]; decide +kernel) ?_
  try simp -implicitDefEqProofs (maxSteps := 999999) [-selQ_sel,laws_heldKeptS_l0_S]
  refine Hid.brV (fun h_2 => ?_) (fun h_2 => ?_)
  ·replace H := HS.cnd_t h_2 H
   try simp -implicitDefEqProofs (maxSteps := 999999) [-selQ_sel,h_2]
   have hr := (HS.some H).symm; subst hr
   exact Hid.mk ⟨(laws_heldKeptS_l0_X a0 (.inl x3)).2,Wk.ofk [] hk (by rfl) (by simp -implicitDefEqProofs [laws_heldKeptS_l0_X,h_2]) (by simp -implicitDefEqProofs [laws_heldKeptS_l0_X,h_2]),hR⟩
  ·replace H := HS.cnd_f h_2 H
   try simp -implicitDefEqProofs (maxSteps := 999999) [-selQ_sel,h_2]
   obtain ⟨v5,h_3,H⟩ := HS.bnd H
   try simp -implicitDefEqProofs (maxSteps := 999999) [-selQ_sel,h_2,h_3]
   refine Hid.brV (fun h_4 => ?_) (fun h_4 => ?_)
   ·replace H := HS.cnd_t h_4 H
    try simp -implicitDefEqProofs (maxSteps := 999999) [-selQ_sel,h_2,h_3,h_4]
    refine Hid.brV (fun h_5 => ?_) (fun h_5 => ?_)
    ·replace H := HS.cnd_t h_5 H
     try simp -implicitDefEqProofs (maxSteps := 999999) [-selQ_sel,h_2,h_3,h_4,h_5]
     refine Hid.brV (fun h_6 => ?_) (fun h_6 => ?_)
     ·replace H := HS.cnd_t h_6 H
      try simp -implicitDefEqProofs (maxSteps := 999999) [-selQ_sel,h_2,h_3,h_4,h_5,h_6]
      refine Hid.brV (fun h_7 => ?_) (fun h_7 => ?_)
      ·replace H := HS.cnd_t h_7 H
       try simp -implicitDefEqProofs (maxSteps := 999999) [-selQ_sel,h_2,h_3,h_4,h_5,h_6,h_7]
       refine Hid.brV (fun h_8 => ?_) (fun h_8 => ?_)
       ·replace H := HS.cnd_t h_8 H
        try simp -implicitDefEqProofs (maxSteps := 999999) [-selQ_sel,h_2,h_3,h_4,h_5,h_6,h_7,h_8]
        obtain ⟨v6,h_9,H⟩ := HS.bnd H
        try simp -implicitDefEqProofs (maxSteps := 999999) [-selQ_sel,h_2,h_3,h_4,h_5,h_6,h_7,h_8,h_9]
        refine Hid.brV (fun h_10 => ?_) (fun h_10 => ?_)
        ·replace H := HS.cnd_t h_10 H
         try simp -implicitDefEqProofs (maxSteps := 999999) [-selQ_sel,h_2,h_3,h_4,h_5,h_6,h_7,h_8,h_9,h_10]
         have hr := (HS.some H).symm; subst hr
         exact Hid.mk ⟨laws_heldKeptS_l0_S a0 (v6,(IntKind.i64.wrap (x4 + 1))),Wk.ofk [] hk (by rfl) (by simp -implicitDefEqProofs [laws_heldKeptS_l0_S,h_2,h_3,h_4,h_5,h_6,h_7,h_8,h_9,h_10]) (by simp -implicitDefEqProofs [laws_heldKeptS_l0_S,h_2,h_3,h_4,h_5,h_6,h_7,h_8,h_9,h_10]),hR⟩
        ·replace H := HS.cnd_f h_10 H
         try simp -implicitDefEqProofs (maxSteps := 999999) [-selQ_sel,h_2,h_3,h_4,h_5,h_6,h_7,h_8,h_9,h_10]
         have hr := (HS.some H).symm; subst hr
         exact Hid.mk ⟨(laws_heldKeptS_l0_X a0 (.inr ())).2,Wk.ofk [] hk (by rfl) (by simp -implicitDefEqProofs [laws_heldKeptS_l0_X,h_2,h_3,h_4,h_5,h_6,h_7,h_8,h_9,h_10]) (by simp -implicitDefEqProofs [laws_heldKeptS_l0_X,h_2,h_3,h_4,h_5,h_6,h_7,h_8,h_9,h_10]),hR⟩
       ·replace H := HS.cnd_f h_8 H
        try simp -implicitDefEqProofs (maxSteps := 999999) [-selQ_sel,h_2,h_3,h_4,h_5,h_6,h_7,h_8]
        have hr := (HS.some H).symm; subst hr
        exact Hid.mk ⟨(laws_heldKeptS_l0_X a0 (.inr ())).2,Wk.ofk [] hk (by rfl) (by simp -implicitDefEqProofs [laws_heldKeptS_l0_X,h_2,h_3,h_4,h_5,h_6,h_7,h_8]) (by simp -implicitDefEqProofs [laws_heldKeptS_l0_X,h_2,h_3,h_4,h_5,h_6,h_7,h_8]),hR⟩
      ·replace H := HS.cnd_f h_7 H
       try simp -implicitDefEqProofs (maxSteps := 999999) [-selQ_sel,h_2,h_3,h_4,h_5,h_6,h_7]
       have hr := (HS.some H).symm; subst hr
       exact Hid.mk ⟨(laws_heldKeptS_l0_X a0 (.inr ())).2,Wk.ofk [] hk (by rfl) (by simp -implicitDefEqProofs [laws_heldKeptS_l0_X,h_2,h_3,h_4,h_5,h_6,h_7]) (by simp -implicitDefEqProofs [laws_heldKeptS_l0_X,h_2,h_3,h_4,h_5,h_6,h_7]),hR⟩
     ·replace H := HS.cnd_f h_6 H
      try simp -implicitDefEqProofs (maxSteps := 999999) [-selQ_sel,h_2,h_3,h_4,h_5,h_6]
      have hr := (HS.some H).symm; subst hr
      exact Hid.mk ⟨(laws_heldKeptS_l0_X a0 (.inr ())).2,Wk.ofk [] hk (by rfl) (by simp -implicitDefEqProofs [laws_heldKeptS_l0_X,h_2,h_3,h_4,h_5,h_6]) (by simp -implicitDefEqProofs [laws_heldKeptS_l0_X,h_2,h_3,h_4,h_5,h_6]),hR⟩
    ·replace H := HS.cnd_f h_5 H
     try simp -implicitDefEqProofs (maxSteps := 999999) [-selQ_sel,h_2,h_3,h_4,h_5]
     have hr := (HS.some H).symm; subst hr
     exact Hid.mk ⟨(laws_heldKeptS_l0_X a0 (.inr ())).2,Wk.ofk [] hk (by rfl) (by simp -implicitDefEqProofs [laws_heldKeptS_l0_X,h_2,h_3,h_4,h_5]) (by simp -implicitDefEqProofs [laws_heldKeptS_l0_X,h_2,h_3,h_4,h_5]),hR⟩
   ·replace H := HS.cnd_f h_4 H
    try simp -implicitDefEqProofs (maxSteps := 999999) [-selQ_sel,h_2,h_3,h_4]
    have hr := (HS.some H).symm; subst hr
    exact Hid.mk ⟨(laws_heldKeptS_l0_X a0 (.inr ())).2,Wk.ofk [] hk (by rfl) (by simp -implicitDefEqProofs [laws_heldKeptS_l0_X,h_2,h_3,h_4]) (by simp -implicitDefEqProofs [laws_heldKeptS_l0_X,h_2,h_3,h_4]),hR⟩
 ·rcases q with y7 | ⟨⟩
  ·dsimp only at H
   try simp -implicitDefEqProofs (maxSteps := 999999) [-selQ_sel,laws_heldKeptS_l0_X]
   have hr := (HS.some H).symm; subst hr
   refine Hid.mk ⟨_,Wk.refl _,?_⟩
   try simp -implicitDefEqProofs (maxSteps := 999999) [-selQ_sel]
  ·dsimp only at H
   try simp -implicitDefEqProofs (maxSteps := 999999) [-selQ_sel,laws_heldKeptS_l0_X]
   have hr := (HS.some H).symm; subst hr
   refine Hid.mk ⟨_,Wk.refl _,?_⟩
   try simp -implicitDefEqProofs (maxSteps := 999999) [-selQ_sel]
theorem impl_CacheOk_ok0 (hm : Try.prog.follows .mixedOrders = true) (k_impl_inRange : Sound Try.prog 75 impl_inRange_x) (k_impl_Cache_keptAt : Sound Try.prog 81 impl_Cache_keptAt_x) (k_impl_MaskOk : Sound Try.prog 76 impl_MaskOk_x) : Sound Try.prog 37 impl_CacheOk_x := by
 refine xOf_sound fun q r h => ?_
 revert h; revert r; revert q; intro a0 r h
 refine fn_ok E0 hm Try.func37 rfl (by decide +kernel) (by rfl) fun Γ hn hk => ?_
 dsimp only [impl_CacheOk_e,impl_CacheOk_v]
 replace hn : Γ.n = 42 := hn
 replace hk : Γ.k = 0 := hk
 have H : HS (impl_CacheOk a0) r := h
 clear h; unfold impl_CacheOk at H
 try simp -implicitDefEqProofs at H
 refine Tr.of_vc (cl := tabC [(75,impl_inRange_x),(81,impl_Cache_keptAt_x),(76,impl_MaskOk_x)]) (E := E0) [] (tab_cons k_impl_inRange (tab_cons k_impl_Cache_keptAt (tab_cons k_impl_MaskOk tab_nil))) hm (by rw [hn]; decide +kernel) ?_
 try simp -implicitDefEqProofs (maxSteps := 999999) [-selQ_sel]
 obtain ⟨q,h_1,H⟩ := HS.bnd H
 refine Hid.mk (Tr.weak (s' := (impl_CacheOk_l0_S a0) 0) (Wk.ofk [0] hk (by rfl) (by simp -implicitDefEqProofs [impl_CacheOk_l0_S]) (by simp -implicitDefEqProofs [impl_CacheOk_l0_S])) ?_)
 refine wp_loop_of (S := (impl_CacheOk_l0_S a0)) (f := (impl_CacheOk_l0 a0)) (xt := (impl_CacheOk_l0_X a0)) ?_ ?_ h_1 ?_
 ·intro q; rcases q with ⟨⟩ | ⟨⟩ <;> simp [impl_CacheOk_l0_X]
 ·clear H h_1 q
  rintro x5 o R hf hR
  have H : HS (impl_CacheOk_l0 a0 x5) o := hf
  clear hf; unfold impl_CacheOk_l0 at H
  try simp -implicitDefEqProofs at H
  refine Tr.of_vc (cl := tabC [(75,impl_inRange_x),(81,impl_Cache_keptAt_x),(76,impl_MaskOk_x)]) (E := E0) [] (tab_cons k_impl_inRange (tab_cons k_impl_Cache_keptAt (tab_cons k_impl_MaskOk tab_nil))) hm (by rw [hn]; decide +kernel) ?_
  try simp -implicitDefEqProofs (maxSteps := 999999) [-selQ_sel,impl_CacheOk_l0_S]
  refine Hid.brV (fun h_2 => ?_) (fun h_2 => ?_)
  ·replace H := HS.cnd_t h_2 H
   try simp -implicitDefEqProofs (maxSteps := 999999) [-selQ_sel,h_2]
   have hr := (HS.some H).symm; subst hr
   exact Hid.mk ⟨(impl_CacheOk_l0_X a0 (.inl ())).2,Wk.ofk [0] hk (by rfl) (by simp -implicitDefEqProofs [impl_CacheOk_l0_X,h_2]) (by simp -implicitDefEqProofs [impl_CacheOk_l0_X,h_2]),hR⟩
  ·replace H := HS.cnd_f h_2 H
   try simp -implicitDefEqProofs (maxSteps := 999999) [-selQ_sel,h_2]
   obtain ⟨v6,h_3,H⟩ := HS.bnd H
   try simp -implicitDefEqProofs (maxSteps := 999999) [-selQ_sel,h_2,h_3]
   obtain ⟨v7,h_4,H⟩ := HS.bnd H
   try simp -implicitDefEqProofs (maxSteps := 999999) [-selQ_sel,h_2,h_3,h_4]
   refine Hid.selQ (fun h_5 => ?_) (fun h_5 => ?_)
   ·replace H := HS.cnd_t h_5 H
    try simp -implicitDefEqProofs (maxSteps := 999999) [-selQ_sel,h_2,h_3,h_4,h_5]
    obtain ⟨v8,h_6,H⟩ := HS.bnd H
    try simp -implicitDefEqProofs (maxSteps := 999999) [-selQ_sel,h_2,h_3,h_4,h_5,h_6]
    refine Hid.selQ (fun h_7 => ?_) (fun h_7 => ?_)
    ·replace H := HS.cnd_t h_7 H
     try simp -implicitDefEqProofs (maxSteps := 999999) [-selQ_sel,h_2,h_3,h_4,h_5,h_6,h_7]
     obtain ⟨v9,h_8,H⟩ := HS.bnd H
     try simp -implicitDefEqProofs (maxSteps := 999999) [-selQ_sel,h_2,h_3,h_4,h_5,h_6,h_7,h_8]
     refine Hid.brV (fun h_9 => ?_) (fun h_9 => ?_)
     ·replace H := HS.cnd_t h_9 H
      try simp -implicitDefEqProofs (maxSteps := 999999) [-selQ_sel,h_2,h_3,h_4,h_5,h_6,h_7,h_8,h_9]
      have hr := (HS.some H).symm; subst hr
      exact Hid.mk ⟨impl_CacheOk_l0_S a0 (IntKind.i64.wrap (x5 + 1)),Wk.ofk [0] hk (by rfl) (by simp -implicitDefEqProofs [impl_CacheOk_l0_S,h_2,h_3,h_4,h_5,h_6,h_7,h_8,h_9]) (by simp -implicitDefEqProofs [impl_CacheOk_l0_S,h_2,h_3,h_4,h_5,h_6,h_7,h_8,h_9]),hR⟩
     ·replace H := HS.cnd_f h_9 H
      try simp -implicitDefEqProofs (maxSteps := 999999) [-selQ_sel,h_2,h_3,h_4,h_5,h_6,h_7,h_8,h_9]
      have hr := (HS.some H).symm; subst hr
      exact Hid.mk ⟨(impl_CacheOk_l0_X a0 (.inr ())).2,Wk.ofk [] hk (by rfl) (by simp -implicitDefEqProofs [impl_CacheOk_l0_X,h_2,h_3,h_4,h_5,h_6,h_7,h_8,h_9]) (by simp -implicitDefEqProofs [impl_CacheOk_l0_X,h_2,h_3,h_4,h_5,h_6,h_7,h_8,h_9]),hR⟩
    ·replace H := HS.cnd_f h_7 H
     try simp -implicitDefEqProofs (maxSteps := 999999) [-selQ_sel,h_2,h_3,h_4,h_5,h_6,h_7]
     have hr := (HS.some H).symm; subst hr
     exact Hid.mk ⟨(impl_CacheOk_l0_X a0 (.inr ())).2,Wk.ofk [] hk (by rfl) (by simp -implicitDefEqProofs [impl_CacheOk_l0_X,h_2,h_3,h_4,h_5,h_6,h_7]) (by simp -implicitDefEqProofs [impl_CacheOk_l0_X,h_2,h_3,h_4,h_5,h_6,h_7]),hR⟩
   ·replace H := HS.cnd_f h_5 H
    try simp -implicitDefEqProofs (maxSteps := 999999) [-selQ_sel,h_2,h_3,h_4,h_5]
    have hr := (HS.some H).symm; subst hr
    exact Hid.mk ⟨(impl_CacheOk_l0_X a0 (.inr ())).2,Wk.ofk [] hk (by rfl) (by simp -implicitDefEqProofs [impl_CacheOk_l0_X,h_2,h_3,h_4,h_5]) (by simp -implicitDefEqProofs [impl_CacheOk_l0_X,h_2,h_3,h_4,h_5]),hR⟩
 ·rcases q with ⟨⟩ | ⟨⟩
  ·dsimp only at H
   try simp -implicitDefEqProofs (maxSteps := 999999) [-selQ_sel,impl_CacheOk_l0_X]
   obtain ⟨v10,h_10,H⟩ := HS.bnd H
   try simp -implicitDefEqProofs (maxSteps := 999999) [-selQ_sel,h_10]
   refine Hid.selQ (fun h_11 => ?_) (fun h_11 => ?_)
   ·replace H := HS.cnd_t h_11 H
    try simp -implicitDefEqProofs (maxSteps := 999999) [-selQ_sel,h_10,h_11]
    have hr := (HS.some H).symm; subst hr
    refine Hid.mk ⟨_,Wk.refl _,?_⟩
    try simp -implicitDefEqProofs (maxSteps := 999999) [-selQ_sel,h_10,h_11]
   ·replace H := HS.cnd_f h_11 H
    try simp -implicitDefEqProofs (maxSteps := 999999) [-selQ_sel,h_10,h_11]
    have hr := (HS.some H).symm; subst hr
    refine Hid.mk ⟨_,Wk.refl _,?_⟩
    try simp -implicitDefEqProofs (maxSteps := 999999) [-selQ_sel,h_10,h_11]
  ·dsimp only at H
   try simp -implicitDefEqProofs (maxSteps := 999999) [-selQ_sel,impl_CacheOk_l0_X]
   have hr := (HS.some H).symm; subst hr
   refine Hid.mk ⟨_,Wk.refl _,?_⟩
   try simp -implicitDefEqProofs (maxSteps := 999999) [-selQ_sel]
theorem spec_l21First_ok0 (hm : Try.prog.follows .mixedOrders = true) (k_spec_l21Copy : Sound Try.prog 60 spec_l21Copy_x) : Sound Try.prog 73 spec_l21First_x := by
 refine xOf_sound fun q r h => ?_
 obtain ⟨a0,a1,a2⟩ := q
 refine fn_ok E0 hm Try.func73 rfl (by decide +kernel) (by rfl) fun Γ hn hk => ?_
 dsimp only [spec_l21First_e,spec_l21First_v]
 replace hn : Γ.n = 51 := hn
 replace hk : Γ.k = 0 := hk
 have H : HS (spec_l21First a0 a1 a2) r := h
 clear h; unfold spec_l21First at H
 try simp -implicitDefEqProofs at H
 refine Tr.of_vc (cl := tabC [(60,spec_l21Copy_x)]) (E := E0) [] (tab_cons k_spec_l21Copy tab_nil) hm (by rw [hn]; decide +kernel) ?_
 try simp -implicitDefEqProofs +decide (maxSteps := 999999) [-selQ_sel,hokQ_of]
 obtain ⟨q,h_1,H⟩ := HS.bnd H
 refine Hid.mk (Tr.weak (s' := (spec_l21First_l0_S a0 a1) (0,[(TKept.mk a1 a2)])) (Wk.ofk [0,2,4,3] hk (by rfl) (by simp -implicitDefEqProofs [spec_l21First_l0_S]) (by simp -implicitDefEqProofs [spec_l21First_l0_S])) ?_)
 refine wp_loop_of (S := (spec_l21First_l0_S a0 a1)) (f := (spec_l21First_l0 a0 a1)) (xt := (spec_l21First_l0_X a0 a1)) ?_ ?_ h_1 ?_
 ·intro q; simp [spec_l21First_l0_X]
 ·clear H h_1 q
  rintro ⟨x2,x3⟩ o R hf hR
  have H : HS (spec_l21First_l0 a0 a1 (x2,x3)) o := hf
  clear hf; unfold spec_l21First_l0 at H
  try simp -implicitDefEqProofs at H
  refine Tr.of_vc (cl := tabC [(60,spec_l21Copy_x)]) (E := E0) [] (tab_cons k_spec_l21Copy tab_nil) hm (by rw [hn]; decide +kernel) ?_
  try simp -implicitDefEqProofs +decide (maxSteps := 999999) [-selQ_sel,hokQ_of,spec_l21First_l0_S]
  refine Hid.brV (fun h_2 => ?_) (fun h_2 => ?_)
  ·replace H := HS.cnd_t h_2 H
   try simp -implicitDefEqProofs +decide (maxSteps := 999999) [-selQ_sel,hokQ_of,h_2]
   have hr := (HS.some H).symm; subst hr
   exact Hid.mk ⟨(spec_l21First_l0_X a0 a1 x3).2,Wk.ofk [1,2,3] hk (by rfl) (by simp -implicitDefEqProofs [spec_l21First_l0_X,h_2]) (by simp -implicitDefEqProofs [spec_l21First_l0_X,h_2]),hR⟩
  ·replace H := HS.cnd_f h_2 H
   try simp -implicitDefEqProofs +decide (maxSteps := 999999) [-selQ_sel,hokQ_of,h_2]
   obtain ⟨v4,h_3,H⟩ := HS.bnd H
   try simp -implicitDefEqProofs +decide (maxSteps := 999999) [-selQ_sel,hokQ_of,h_2,h_3]
   refine Hid.selQ (fun h_4 => ?_) (fun h_4 => ?_)
   ·replace H := HS.cnd_t h_4 H
    try simp -implicitDefEqProofs +decide (maxSteps := 999999) [-selQ_sel,hokQ_of,h_2,h_3,h_4]
    have hr := (HS.some H).symm; subst hr
    exact Hid.mk ⟨spec_l21First_l0_S a0 a1 ((IntKind.i64.wrap (x2 + 1)),x3),Wk.ofk [0,1,2,3] hk (by rfl) (by simp -implicitDefEqProofs [spec_l21First_l0_S,h_2,h_3,h_4]) (by simp -implicitDefEqProofs [spec_l21First_l0_S,h_2,h_3,h_4]),hR⟩
   ·replace H := HS.cnd_f h_4 H
    try simp -implicitDefEqProofs +decide (maxSteps := 999999) [-selQ_sel,hokQ_of,h_2,h_3,h_4]
    refine Hid.brV (fun h_5 => ?_) (fun h_5 => ?_)
    ·replace H := HS.cnd_t h_5 H
     try simp -implicitDefEqProofs +decide (maxSteps := 999999) [-selQ_sel,hokQ_of,h_2,h_3,h_4,h_5]
     have hr := (HS.some H).symm; subst hr
     exact Hid.mk ⟨spec_l21First_l0_S a0 a1 ((IntKind.i64.wrap (x2 + 1)),x3),Wk.ofk [0,1,2,3] hk (by rfl) (by simp -implicitDefEqProofs [spec_l21First_l0_S,h_2,h_3,h_4,h_5]) (by simp -implicitDefEqProofs [spec_l21First_l0_S,h_2,h_3,h_4,h_5]),hR⟩
    ·replace H := HS.cnd_f h_5 H
     try simp -implicitDefEqProofs +decide (maxSteps := 999999) [-selQ_sel,hokQ_of,h_2,h_3,h_4,h_5]
     obtain ⟨h_6,H⟩ := HS.chkP H
     try simp -implicitDefEqProofs +decide (maxSteps := 999999) [-selQ_sel,hokQ_of,h_2,h_3,h_4,h_5,h_6]
     obtain ⟨l5,h_7,H⟩ := HS.nam H
     have m_8 := congrArg (List.map eKept) h_7
     have q_9 := congrArg List.length h_7
     simp -implicitDefEqProofs at m_8 q_9
     try simp only [q_9] at m_8
     try simp only [q_9] at h_6
     try simp -implicitDefEqProofs +decide (maxSteps := 999999) [-selQ_sel,hokQ_of,h_2,h_3,h_4,h_5,h_6,m_8,q_9]
     have hr := (HS.some H).symm; subst hr
     exact Hid.mk ⟨spec_l21First_l0_S a0 a1 ((IntKind.i64.wrap (x2 + 1)),l5),Wk.ofk [0,1,2,3] hk (by rfl) (by simp -implicitDefEqProofs [spec_l21First_l0_S,h_2,h_3,h_4,h_5,h_6,m_8,q_9]) (by simp -implicitDefEqProofs [spec_l21First_l0_S,h_2,h_3,h_4,h_5,h_6,m_8,q_9]),hR⟩
 ·revert H h_1; revert q; intro y6 h_1 H
  try dsimp only at H
  try simp -implicitDefEqProofs +decide (maxSteps := 999999) [-selQ_sel,hokQ_of,spec_l21First_l0_X]
  obtain ⟨⟨w8,w9⟩,h_10,H⟩ := HS.bnd H
  dsimp only at H
  have k_11 := spec_l21Copy_k ((TCache.mk a0.most y6).most) ((TCache.mk a0.most y6).list)
  simp -implicitDefEqProofs [-spec_l21Copy_k] at k_11
  try simp -implicitDefEqProofs +decide (maxSteps := 999999) [-selQ_sel,hokQ_of,h_10,k_11]
  have hr := (HS.some H).symm; subst hr
  refine Hid.mk ⟨⟨[(6,AV.optr 0 0 2)],[(0,Ob.box [AV.int .i64 w8,AV.osl 1 0 (List.length w9) (List.length w9)]),(1,Ob.nar 6 (List.map eKept w9) [0,0,0,0,0,1])],2⟩,Wk.ofk [0,3] hk (by rfl) (by simp -implicitDefEqProofs [h_10,k_11]) (by simp -implicitDefEqProofs [h_10,k_11]),?_⟩
  try simp -implicitDefEqProofs +decide (maxSteps := 999999) [-selQ_sel,hokQ_of,h_10,k_11]
theorem spec_l11Box_ok0 (hm : Try.prog.follows .mixedOrders = true) (k_spec_Empty : Sound Try.prog 155 spec_Empty_x) (k_spec_l01In : Sound Try.prog 71 spec_l01In_x) : Sound Try.prog 121 spec_l11Box_x := by
 refine xOf_sound fun q r h => ?_
 revert h; revert r; revert q; intro a0 r h
 refine fn_ok E0 hm Try.func121 rfl (by decide +kernel) (by rfl) fun Γ hn hk => ?_
 dsimp only [spec_l11Box_e,spec_l11Box_v]
 replace hn : Γ.n = 42 := hn
 replace hk : Γ.k = 0 := hk
 have H : HS (spec_l11Box a0) r := h
 clear h; unfold spec_l11Box at H
 try simp -implicitDefEqProofs at H
 refine Tr.of_vc (cl := tabC [(155,spec_Empty_x),(71,spec_l01In_x)]) (E := E0) [] (tab_cons k_spec_Empty (tab_cons k_spec_l01In tab_nil)) hm (by rw [hn]; decide +kernel) ?_
 try simp -implicitDefEqProofs (maxSteps := 999999) [-selQ_sel]
 obtain ⟨v1,h_1,H⟩ := HS.bnd H
 try simp -implicitDefEqProofs (maxSteps := 999999) [-selQ_sel,h_1]
 refine Hid.selQ (fun h_2 => ?_) (fun h_2 => ?_)
 ·replace H := HS.cnd_t h_2 H
  try simp -implicitDefEqProofs (maxSteps := 999999) [-selQ_sel,h_1,h_2]
  have hr := (HS.some H).symm; subst hr
  refine Hid.mk ⟨_,Wk.refl _,?_⟩
  try simp -implicitDefEqProofs (maxSteps := 999999) [-selQ_sel,h_1,h_2]
 ·replace H := HS.cnd_f h_2 H
  try simp -implicitDefEqProofs (maxSteps := 999999) [-selQ_sel,h_1,h_2]
  obtain ⟨v2,h_3,H⟩ := HS.bnd H
  try simp -implicitDefEqProofs (maxSteps := 999999) [-selQ_sel,h_1,h_2,h_3]
  refine Hid.selQ (fun h_4 => ?_) (fun h_4 => ?_)
  ·replace H := HS.cnd_t h_4 H
   try simp -implicitDefEqProofs (maxSteps := 999999) [-selQ_sel,h_1,h_2,h_3,h_4]
   obtain ⟨v3,h_5,H⟩ := HS.bnd H
   try simp -implicitDefEqProofs (maxSteps := 999999) [-selQ_sel,h_1,h_2,h_3,h_4,h_5]
   refine Hid.selQ (fun h_6 => ?_) (fun h_6 => ?_)
   ·replace H := HS.cnd_t h_6 H
    try simp -implicitDefEqProofs (maxSteps := 999999) [-selQ_sel,h_1,h_2,h_3,h_4,h_5,h_6]
    obtain ⟨v4,h_7,H⟩ := HS.bnd H
    try simp -implicitDefEqProofs (maxSteps := 999999) [-selQ_sel,h_1,h_2,h_3,h_4,h_5,h_6,h_7]
    refine Hid.selQ (fun h_8 => ?_) (fun h_8 => ?_)
    ·replace H := HS.cnd_t h_8 H
     try simp -implicitDefEqProofs (maxSteps := 999999) [-selQ_sel,h_1,h_2,h_3,h_4,h_5,h_6,h_7,h_8]
     obtain ⟨v5,h_9,H⟩ := HS.bnd H
     try simp -implicitDefEqProofs (maxSteps := 999999) [-selQ_sel,h_1,h_2,h_3,h_4,h_5,h_6,h_7,h_8,h_9]
     refine Hid.selQ (fun h_10 => ?_) (fun h_10 => ?_)
     ·replace H := HS.cnd_t h_10 H
      try simp -implicitDefEqProofs (maxSteps := 999999) [-selQ_sel,h_1,h_2,h_3,h_4,h_5,h_6,h_7,h_8,h_9,h_10]
      refine Hid.selQ (fun h_11 => ?_) (fun h_11 => ?_)
      ·replace H := HS.cnd_t h_11 H
       try simp -implicitDefEqProofs (maxSteps := 999999) [-selQ_sel,h_1,h_2,h_3,h_4,h_5,h_6,h_7,h_8,h_9,h_10,h_11]
       have hr := (HS.some H).symm; subst hr
       refine Hid.mk ⟨_,Wk.refl _,?_⟩
       try simp -implicitDefEqProofs (maxSteps := 999999) [-selQ_sel,h_1,h_2,h_3,h_4,h_5,h_6,h_7,h_8,h_9,h_10,h_11]
      ·replace H := HS.cnd_f h_11 H
       try simp -implicitDefEqProofs (maxSteps := 999999) [-selQ_sel,h_1,h_2,h_3,h_4,h_5,h_6,h_7,h_8,h_9,h_10,h_11]
       have hr := (HS.some H).symm; subst hr
       refine Hid.mk ⟨_,Wk.refl _,?_⟩
       try simp -implicitDefEqProofs (maxSteps := 999999) [-selQ_sel,h_1,h_2,h_3,h_4,h_5,h_6,h_7,h_8,h_9,h_10,h_11]
     ·replace H := HS.cnd_f h_10 H
      try simp -implicitDefEqProofs (maxSteps := 999999) [-selQ_sel,h_1,h_2,h_3,h_4,h_5,h_6,h_7,h_8,h_9,h_10]
      have hr := (HS.some H).symm; subst hr
      refine Hid.mk ⟨_,Wk.refl _,?_⟩
      try simp -implicitDefEqProofs (maxSteps := 999999) [-selQ_sel,h_1,h_2,h_3,h_4,h_5,h_6,h_7,h_8,h_9,h_10]
    ·replace H := HS.cnd_f h_8 H
     try simp -implicitDefEqProofs (maxSteps := 999999) [-selQ_sel,h_1,h_2,h_3,h_4,h_5,h_6,h_7,h_8]
     have hr := (HS.some H).symm; subst hr
     refine Hid.mk ⟨_,Wk.refl _,?_⟩
     try simp -implicitDefEqProofs (maxSteps := 999999) [-selQ_sel,h_1,h_2,h_3,h_4,h_5,h_6,h_7,h_8]
   ·replace H := HS.cnd_f h_6 H
    try simp -implicitDefEqProofs (maxSteps := 999999) [-selQ_sel,h_1,h_2,h_3,h_4,h_5,h_6]
    have hr := (HS.some H).symm; subst hr
    refine Hid.mk ⟨_,Wk.refl _,?_⟩
    try simp -implicitDefEqProofs (maxSteps := 999999) [-selQ_sel,h_1,h_2,h_3,h_4,h_5,h_6]
  ·replace H := HS.cnd_f h_4 H
   try simp -implicitDefEqProofs (maxSteps := 999999) [-selQ_sel,h_1,h_2,h_3,h_4]
   have hr := (HS.some H).symm; subst hr
   refine Hid.mk ⟨_,Wk.refl _,?_⟩
   try simp -implicitDefEqProofs (maxSteps := 999999) [-selQ_sel,h_1,h_2,h_3,h_4]
theorem slices_IndexFunc_Kept_Cache_keptAt_1_ok0 (hm : Try.prog.follows .mixedOrders = true) (k_impl_Cache_keptAt_1 : Sound Try.prog 126 impl_Cache_keptAt_1_x) : Sound Try.prog 118 slices_IndexFunc_Kept_Cache_keptAt_1_x := by
 refine xOf_sound fun q r h => ?_
 obtain ⟨a0,a1⟩ := q
 refine fn_ok E0 hm Try.func118 rfl (by decide +kernel) (by rfl) fun Γ hn hk => ?_
 dsimp only [slices_IndexFunc_Kept_Cache_keptAt_1_e,slices_IndexFunc_Kept_Cache_keptAt_1_v]
 replace hn : Γ.n = 19 := hn
 replace hk : Γ.k = 0 := hk
 have H : HS (slices_IndexFunc_Kept_Cache_keptAt_1 a0 a1) r := h
 clear h; unfold slices_IndexFunc_Kept_Cache_keptAt_1 at H
 try simp -implicitDefEqProofs at H
 refine Tr.of_vc (cl := tabC [(126,impl_Cache_keptAt_1_x)]) (E := E0) [] (tab_cons k_impl_Cache_keptAt_1 tab_nil) hm (by rw [hn]; decide +kernel) ?_
 try simp -implicitDefEqProofs (maxSteps := 999999) [-selQ_sel]
 obtain ⟨q,h_1,H⟩ := HS.bnd H
 refine Hid.mk (Tr.weak (s' := (slices_IndexFunc_Kept_Cache_keptAt_1_l0_S a0 a1) 0) (Wk.ofk [] hk (by rfl) (by simp -implicitDefEqProofs [slices_IndexFunc_Kept_Cache_keptAt_1_l0_S]) (by simp -implicitDefEqProofs [slices_IndexFunc_Kept_Cache_keptAt_1_l0_S])) ?_)
 refine wp_loop_of (S := (slices_IndexFunc_Kept_Cache_keptAt_1_l0_S a0 a1)) (f := (slices_IndexFunc_Kept_Cache_keptAt_1_l0 a0 a1)) (xt := (slices_IndexFunc_Kept_Cache_keptAt_1_l0_X a0 a1)) ?_ ?_ h_1 ?_
 ·intro q; rcases q with ⟨⟩ | y6 <;> simp [slices_IndexFunc_Kept_Cache_keptAt_1_l0_X]
 ·clear H h_1 q
  rintro x3 o R hf hR
  have H : HS (slices_IndexFunc_Kept_Cache_keptAt_1_l0 a0 a1 x3) o := hf
  clear hf; unfold slices_IndexFunc_Kept_Cache_keptAt_1_l0 at H
  try simp -implicitDefEqProofs at H
  refine Tr.of_vc (cl := tabC [(126,impl_Cache_keptAt_1_x)]) (E := E0) [] (tab_cons k_impl_Cache_keptAt_1 tab_nil) hm (by rw [hn]; decide +kernel) ?_
  try simp -implicitDefEqProofs (maxSteps := 999999) [-selQ_sel,slices_IndexFunc_Kept_Cache_keptAt_1_l0_S]
  refine Hid.brV (fun h_2 => ?_) (fun h_2 => ?_)
  ·replace H := HS.cnd_t h_2 H
   try simp -implicitDefEqProofs (maxSteps := 999999) [-selQ_sel,h_2]
   have hr := (HS.some H).symm; subst hr
   exact Hid.mk ⟨(slices_IndexFunc_Kept_Cache_keptAt_1_l0_X a0 a1 (.inl ())).2,Wk.ofk [] hk (by rfl) (by simp -implicitDefEqProofs [slices_IndexFunc_Kept_Cache_keptAt_1_l0_X,h_2]) (by simp -implicitDefEqProofs [slices_IndexFunc_Kept_Cache_keptAt_1_l0_X,h_2]),hR⟩
  ·replace H := HS.cnd_f h_2 H
   try simp -implicitDefEqProofs (maxSteps := 999999) [-selQ_sel,h_2]
   obtain ⟨v4,h_3,H⟩ := HS.bnd H
   try simp -implicitDefEqProofs (maxSteps := 999999) [-selQ_sel,h_2,h_3]
   obtain ⟨v5,h_4,H⟩ := HS.bnd H
   try simp -implicitDefEqProofs (maxSteps := 999999) [-selQ_sel,h_2,h_3,h_4]
   refine Hid.brV (fun h_5 => ?_) (fun h_5 => ?_)
   ·replace H := HS.cnd_t h_5 H
    try simp -implicitDefEqProofs (maxSteps := 999999) [-selQ_sel,h_2,h_3,h_4,h_5]
    have hr := (HS.some H).symm; subst hr
    exact Hid.mk ⟨(slices_IndexFunc_Kept_Cache_keptAt_1_l0_X a0 a1 (.inr x3)).2,Wk.ofk [] hk (by rfl) (by simp -implicitDefEqProofs [slices_IndexFunc_Kept_Cache_keptAt_1_l0_X,h_2,h_3,h_4,h_5]) (by simp -implicitDefEqProofs [slices_IndexFunc_Kept_Cache_keptAt_1_l0_X,h_2,h_3,h_4,h_5]),hR⟩
   ·replace H := HS.cnd_f h_5 H
    try simp -implicitDefEqProofs (maxSteps := 999999) [-selQ_sel,h_2,h_3,h_4,h_5]
    have hr := (HS.some H).symm; subst hr
    exact Hid.mk ⟨slices_IndexFunc_Kept_Cache_keptAt_1_l0_S a0 a1 (IntKind.i64.wrap (x3 + 1)),Wk.ofk [] hk (by rfl) (by simp -implicitDefEqProofs [slices_IndexFunc_Kept_Cache_keptAt_1_l0_S,h_2,h_3,h_4,h_5]) (by simp -implicitDefEqProofs [slices_IndexFunc_Kept_Cache_keptAt_1_l0_S,h_2,h_3,h_4,h_5]),hR⟩
 ·rcases q with ⟨⟩ | y6
  ·dsimp only at H
   try simp -implicitDefEqProofs (maxSteps := 999999) [-selQ_sel,slices_IndexFunc_Kept_Cache_keptAt_1_l0_X]
   have hr := (HS.some H).symm; subst hr
   refine Hid.mk ⟨_,Wk.refl _,?_⟩
   try simp -implicitDefEqProofs (maxSteps := 999999) [-selQ_sel]
  ·dsimp only at H
   try simp -implicitDefEqProofs (maxSteps := 999999) [-selQ_sel,slices_IndexFunc_Kept_Cache_keptAt_1_l0_X]
   have hr := (HS.some H).symm; subst hr
   refine Hid.mk ⟨_,Wk.refl _,?_⟩
   try simp -implicitDefEqProofs (maxSteps := 999999) [-selQ_sel]
theorem laws_szKeptS_ok0 (hm : Try.prog.follows .mixedOrders = true) (k_laws_szKept : Sound Try.prog 116 laws_szKept_x) : Sound Try.prog 59 laws_szKeptS_x := by
 refine xOf_sound fun q r h => ?_
 obtain ⟨a0,a1⟩ := q
 refine fn_ok E0 hm Try.func59 rfl (by decide +kernel) (by rfl) fun Γ hn hk => ?_
 dsimp only [laws_szKeptS_e,laws_szKeptS_v]
 replace hn : Γ.n = 27 := hn
 replace hk : Γ.k = 0 := hk
 have H : HS (laws_szKeptS a0 a1) r := h
 clear h; unfold laws_szKeptS at H
 try simp -implicitDefEqProofs at H
 refine Tr.of_vc (cl := tabC [(116,laws_szKept_x)]) (E := E0) [] (tab_cons k_laws_szKept tab_nil) hm (by rw [hn]; decide +kernel) ?_
 try simp -implicitDefEqProofs (maxSteps := 999999) [-selQ_sel]
 refine Hid.brV (fun h_1 => ?_) (fun h_1 => ?_)
 ·replace H := HS.cnd_t h_1 H
  try simp -implicitDefEqProofs (maxSteps := 999999) [-selQ_sel,h_1]
  obtain ⟨q,h_2,H⟩ := HS.bnd H
  refine Hid.mk (Tr.weak (s' := (laws_szKeptS_l0_S a0) ((IntKind.i64.wrap (a1 - (List.length a0 : Int))),0)) (Wk.ofk [] hk (by rfl) (by simp -implicitDefEqProofs [laws_szKeptS_l0_S,h_1]) (by simp -implicitDefEqProofs [laws_szKeptS_l0_S,h_1])) ?_)
  refine wp_loop_of (S := (laws_szKeptS_l0_S a0)) (f := (laws_szKeptS_l0 a0)) (xt := (laws_szKeptS_l0_X a0)) ?_ ?_ h_2 ?_
  ·intro q; rcases q with y7 | ⟨⟩ <;> simp [laws_szKeptS_l0_X]
  ·clear H h_2 q
   rintro ⟨x3,x4⟩ o R hf hR
   have H : HS (laws_szKeptS_l0 a0 (x3,x4)) o := hf
   clear hf; unfold laws_szKeptS_l0 at H
   try simp -implicitDefEqProofs at H
   refine Tr.of_vc (cl := tabC [(116,laws_szKept_x)]) (E := E0) [] (tab_cons k_laws_szKept tab_nil) hm (by rw [hn]; decide +kernel) ?_
   try simp -implicitDefEqProofs (maxSteps := 999999) [-selQ_sel,laws_szKeptS_l0_S]
   refine Hid.brV (fun h_3 => ?_) (fun h_3 => ?_)
   ·replace H := HS.cnd_t h_3 H
    try simp -implicitDefEqProofs (maxSteps := 999999) [-selQ_sel,h_3]
    have hr := (HS.some H).symm; subst hr
    exact Hid.mk ⟨(laws_szKeptS_l0_X a0 (.inl x3)).2,Wk.ofk [] hk (by rfl) (by simp -implicitDefEqProofs [laws_szKeptS_l0_X,h_3]) (by simp -implicitDefEqProofs [laws_szKeptS_l0_X,h_3]),hR⟩
   ·replace H := HS.cnd_f h_3 H
    try simp -implicitDefEqProofs (maxSteps := 999999) [-selQ_sel,h_3]
    obtain ⟨v5,h_4,H⟩ := HS.bnd H
    try simp -implicitDefEqProofs (maxSteps := 999999) [-selQ_sel,h_3,h_4]
    obtain ⟨v6,h_5,H⟩ := HS.bnd H
    try simp -implicitDefEqProofs (maxSteps := 999999) [-selQ_sel,h_3,h_4,h_5]
    refine Hid.brV (fun h_6 => ?_) (fun h_6 => ?_)
    ·replace H := HS.cnd_t h_6 H
     try simp -implicitDefEqProofs (maxSteps := 999999) [-selQ_sel,h_3,h_4,h_5,h_6]
     have hr := (HS.some H).symm; subst hr
     exact Hid.mk ⟨laws_szKeptS_l0_S a0 (v6,(IntKind.i64.wrap (x4 + 1))),Wk.ofk [] hk (by rfl) (by simp -implicitDefEqProofs [laws_szKeptS_l0_S,h_3,h_4,h_5,h_6]) (by simp -implicitDefEqProofs [laws_szKeptS_l0_S,h_3,h_4,h_5,h_6]),hR⟩
    ·replace H := HS.cnd_f h_6 H
     try simp -implicitDefEqProofs (maxSteps := 999999) [-selQ_sel,h_3,h_4,h_5,h_6]
     have hr := (HS.some H).symm; subst hr
     exact Hid.mk ⟨(laws_szKeptS_l0_X a0 (.inr ())).2,Wk.ofk [] hk (by rfl) (by simp -implicitDefEqProofs [laws_szKeptS_l0_X,h_3,h_4,h_5,h_6]) (by simp -implicitDefEqProofs [laws_szKeptS_l0_X,h_3,h_4,h_5,h_6]),hR⟩
  ·rcases q with y7 | ⟨⟩
   ·dsimp only at H
    try simp -implicitDefEqProofs (maxSteps := 999999) [-selQ_sel,h_1,laws_szKeptS_l0_X]
    have hr := (HS.some H).symm; subst hr
    refine Hid.mk ⟨_,Wk.refl _,?_⟩
    try simp -implicitDefEqProofs (maxSteps := 999999) [-selQ_sel,h_1]
   ·dsimp only at H
    try simp -implicitDefEqProofs (maxSteps := 999999) [-selQ_sel,h_1,laws_szKeptS_l0_X]
    have hr := (HS.some H).symm; subst hr
    refine Hid.mk ⟨_,Wk.refl _,?_⟩
    try simp -implicitDefEqProofs (maxSteps := 999999) [-selQ_sel,h_1]
 ·replace H := HS.cnd_f h_1 H
  try simp -implicitDefEqProofs (maxSteps := 999999) [-selQ_sel,h_1]
  have hr := (HS.some H).symm; subst hr
  refine Hid.mk ⟨_,Wk.refl _,?_⟩
  try simp -implicitDefEqProofs (maxSteps := 999999) [-selQ_sel,h_1]
theorem impl_copyCache_ok0 (hm : Try.prog.follows .mixedOrders = true) (k_impl_copyMask : Sound Try.prog 78 impl_copyMask_x) : Sound Try.prog 62 impl_copyCache_x := by
 refine xOf_sound fun q r h => ?_
 revert h; revert r; revert q; intro a0 r h
 refine fn_ok E0 hm Try.func62 rfl (by decide +kernel) (by rfl) fun Γ hn hk => ?_
 dsimp only [impl_copyCache_e,impl_copyCache_v]
 replace hn : Γ.n = 29 := hn
 replace hk : Γ.k = 0 := hk
 have H : HS (impl_copyCache a0) r := h
 clear h; unfold impl_copyCache at H
 try simp -implicitDefEqProofs at H
 refine Tr.of_vc (cl := tabC [(78,impl_copyMask_x)]) (E := E0) [] (tab_cons k_impl_copyMask tab_nil) hm (by rw [hn]; decide +kernel) ?_
 try simp -implicitDefEqProofs +decide (maxSteps := 999999) [-selQ_sel,hokQ_of]
 obtain ⟨q,h_1,H⟩ := HS.bnd H
 refine Hid.mk (Tr.weak (s' := (impl_copyCache_l0_S a0) (0,[])) (Wk.ofk [1,2,3] hk (by rfl) (by simp -implicitDefEqProofs [impl_copyCache_l0_S]) (by simp -implicitDefEqProofs [impl_copyCache_l0_S])) ?_)
 refine wp_loop_of (S := (impl_copyCache_l0_S a0)) (f := (impl_copyCache_l0 a0)) (xt := (impl_copyCache_l0_X a0)) ?_ ?_ h_1 ?_
 ·intro q; simp [impl_copyCache_l0_X]
 ·clear H h_1 q
  rintro ⟨x5,x6⟩ o R hf hR
  have H : HS (impl_copyCache_l0 a0 (x5,x6)) o := hf
  clear hf; unfold impl_copyCache_l0 at H
  try simp -implicitDefEqProofs at H
  refine Tr.of_vc (cl := tabC [(78,impl_copyMask_x)]) (E := E0) [] (tab_cons k_impl_copyMask tab_nil) hm (by rw [hn]; decide +kernel) ?_
  try simp -implicitDefEqProofs +decide (maxSteps := 999999) [-selQ_sel,hokQ_of,impl_copyCache_l0_S]
  refine Hid.brV (fun h_2 => ?_) (fun h_2 => ?_)
  ·replace H := HS.cnd_t h_2 H
   try simp -implicitDefEqProofs +decide (maxSteps := 999999) [-selQ_sel,hokQ_of,h_2]
   have hr := (HS.some H).symm; subst hr
   exact Hid.mk ⟨(impl_copyCache_l0_X a0 x6).2,Wk.ofk [0,1,2] hk (by rfl) (by simp -implicitDefEqProofs [impl_copyCache_l0_X,h_2]) (by simp -implicitDefEqProofs [impl_copyCache_l0_X,h_2]),hR⟩
  ·replace H := HS.cnd_f h_2 H
   try simp -implicitDefEqProofs +decide (maxSteps := 999999) [-selQ_sel,hokQ_of,h_2]
   obtain ⟨v7,h_3,H⟩ := HS.bnd H
   try simp -implicitDefEqProofs +decide (maxSteps := 999999) [-selQ_sel,hokQ_of,h_2,h_3]
   obtain ⟨⟨w9,w10⟩,h_4,H⟩ := HS.bnd H
   dsimp only at H
   try simp -implicitDefEqProofs +decide (maxSteps := 999999) [-selQ_sel,hokQ_of,h_2,h_3,h_4]
   obtain ⟨h_5,H⟩ := HS.chkP H
   try simp -implicitDefEqProofs +decide (maxSteps := 999999) [-selQ_sel,hokQ_of,h_2,h_3,h_4,h_5]
   have hr := (HS.some H).symm; subst hr
   exact Hid.mk ⟨impl_copyCache_l0_S a0 ((IntKind.i64.wrap (x5 + 1)),(x6 ++ [(TKept.mk v7.id (TMask.mk w9 w10))])),Wk.trans (Wk.abs (id := 2) (j := 4) (js := []) (by rfl) (by rfl) (by decide) (by simp -implicitDefEqProofs [impl_copyCache_l0_S,h_2,h_3,h_4,h_5]) (by rfl) (by simp -implicitDefEqProofs [impl_copyCache_l0_S,h_2,h_3,h_4,h_5]) (by simp -implicitDefEqProofs [impl_copyCache_l0_S,h_2,h_3,h_4,h_5])) (Wk.ofk [0,1,2] hk (by rfl) (by simp -implicitDefEqProofs [impl_copyCache_l0_S,h_2,h_3,h_4,h_5]) (by simp -implicitDefEqProofs [impl_copyCache_l0_S,h_2,h_3,h_4,h_5])),hR⟩
 ·revert H h_1; revert q; intro y11 h_1 H
  try dsimp only at H
  try simp -implicitDefEqProofs +decide (maxSteps := 999999) [-selQ_sel,hokQ_of,impl_copyCache_l0_X]
  have hr := (HS.some H).symm; subst hr
  refine Hid.mk ⟨⟨[(2,AV.optr 0 0 2)],[(0,Ob.box [AV.int .i64 a0.most,AV.osl 1 0 (List.length y11) (List.length y11)]),(1,Ob.nar 6 (List.map eKept y11) [0,0,0,0,0,1])],2⟩,Wk.ofk [0,2] hk (by rfl) (by simp -implicitDefEqProofs []) (by simp -implicitDefEqProofs []),?_⟩
  try simp -implicitDefEqProofs +decide (maxSteps := 999999) [-selQ_sel,hokQ_of]
theorem laws_heldIntS_ok0 (hm : Try.prog.follows .mixedOrders = true) : Sound Try.prog 82 laws_heldIntS_x := by
 refine xOf_sound fun q r h => ?_
 obtain ⟨a0,a1⟩ := q
 refine fn_ok E0 hm Try.func82 rfl (by decide +kernel) (by rfl) fun Γ hn hk => ?_
 dsimp only [laws_heldIntS_e,laws_heldIntS_v]
 replace hn : Γ.n = 21 := hn
 replace hk : Γ.k = 0 := hk
 have H : HS (laws_heldIntS a0 a1) r := h
 clear h; unfold laws_heldIntS at H
 try simp -implicitDefEqProofs at H
 refine Tr.of_vc (cl := tabC []) (E := E0) [] tab_nil hm (by rw [hn]; decide +kernel) ?_
 try simp -implicitDefEqProofs (maxSteps := 999999) [-selQ_sel]
 obtain ⟨q,h_1,H⟩ := HS.bnd H
 refine Hid.mk (Tr.weak (s' := (laws_heldIntS_l0_S a0) (a1,0)) (Wk.ofk [] hk (by rfl) (by simp -implicitDefEqProofs [laws_heldIntS_l0_S]) (by simp -implicitDefEqProofs [laws_heldIntS_l0_S])) ?_)
 refine wp_loop_of (S := (laws_heldIntS_l0_S a0)) (f := (laws_heldIntS_l0 a0)) (xt := (laws_heldIntS_l0_X a0)) ?_ ?_ h_1 ?_
 ·intro q; rcases q with y5 | ⟨⟩ <;> simp [laws_heldIntS_l0_X]
 ·clear H h_1 q
  rintro ⟨x2,x3⟩ o R hf hR
  have H : HS (laws_heldIntS_l0 a0 (x2,x3)) o := hf
  clear hf; unfold laws_heldIntS_l0 at H
  try simp -implicitDefEqProofs at H
  refine Tr.of_vc (cl := tabC []) (E := E0) [] tab_nil hm (by rw [hn]; decide +kernel) ?_
  try simp -implicitDefEqProofs (maxSteps := 999999) [-selQ_sel,laws_heldIntS_l0_S]
  refine Hid.brV (fun h_2 => ?_) (fun h_2 => ?_)
  ·replace H := HS.cnd_t h_2 H
   try simp -implicitDefEqProofs (maxSteps := 999999) [-selQ_sel,h_2]
   have hr := (HS.some H).symm; subst hr
   exact Hid.mk ⟨(laws_heldIntS_l0_X a0 (.inl x2)).2,Wk.ofk [] hk (by rfl) (by simp -implicitDefEqProofs [laws_heldIntS_l0_X,h_2]) (by simp -implicitDefEqProofs [laws_heldIntS_l0_X,h_2]),hR⟩
  ·replace H := HS.cnd_f h_2 H
   try simp -implicitDefEqProofs (maxSteps := 999999) [-selQ_sel,h_2]
   obtain ⟨v4,h_3,H⟩ := HS.bnd H
   try simp -implicitDefEqProofs (maxSteps := 999999) [-selQ_sel,h_2,h_3]
   refine Hid.brV (fun h_4 => ?_) (fun h_4 => ?_)
   ·replace H := HS.cnd_t h_4 H
    try simp -implicitDefEqProofs (maxSteps := 999999) [-selQ_sel,h_2,h_3,h_4]
    have hr := (HS.some H).symm; subst hr
    exact Hid.mk ⟨laws_heldIntS_l0_S a0 ((IntKind.i64.wrap (x2 + 1)),(IntKind.i64.wrap (x3 + 1))),Wk.ofk [] hk (by rfl) (by simp -implicitDefEqProofs [laws_heldIntS_l0_S,h_2,h_3,h_4]) (by simp -implicitDefEqProofs [laws_heldIntS_l0_S,h_2,h_3,h_4]),hR⟩
   ·replace H := HS.cnd_f h_4 H
    try simp -implicitDefEqProofs (maxSteps := 999999) [-selQ_sel,h_2,h_3,h_4]
    have hr := (HS.some H).symm; subst hr
    exact Hid.mk ⟨(laws_heldIntS_l0_X a0 (.inr ())).2,Wk.ofk [] hk (by rfl) (by simp -implicitDefEqProofs [laws_heldIntS_l0_X,h_2,h_3,h_4]) (by simp -implicitDefEqProofs [laws_heldIntS_l0_X,h_2,h_3,h_4]),hR⟩
 ·rcases q with y5 | ⟨⟩
  ·dsimp only at H
   try simp -implicitDefEqProofs (maxSteps := 999999) [-selQ_sel,laws_heldIntS_l0_X]
   have hr := (HS.some H).symm; subst hr
   refine Hid.mk ⟨_,Wk.refl _,?_⟩
   try simp -implicitDefEqProofs (maxSteps := 999999) [-selQ_sel]
  ·dsimp only at H
   try simp -implicitDefEqProofs (maxSteps := 999999) [-selQ_sel,laws_heldIntS_l0_X]
   have hr := (HS.some H).symm; subst hr
   refine Hid.mk ⟨_,Wk.refl _,?_⟩
   try simp -implicitDefEqProofs (maxSteps := 999999) [-selQ_sel]
theorem laws_eqBox_ok0 (hm : Try.prog.follows .mixedOrders = true) : Sound Try.prog 79 laws_eqBox_x := by
 refine xOf_sound fun q r h => ?_
 obtain ⟨a0,a1⟩ := q
 refine fn_ok E0 hm Try.func79 rfl (by decide +kernel) (by rfl) fun Γ hn hk => ?_
 dsimp only [laws_eqBox_e,laws_eqBox_v]
 replace hn : Γ.n = 25 := hn
 replace hk : Γ.k = 0 := hk
 have H : HS (laws_eqBox a0 a1) r := h
 clear h; unfold laws_eqBox at H
 try simp -implicitDefEqProofs at H
 refine Tr.of_vc (cl := tabC []) (E := E0) [] tab_nil hm (by rw [hn]; decide +kernel) ?_
 try simp -implicitDefEqProofs (maxSteps := 999999) [-selQ_sel]
 refine Hid.brV (fun h_1 => ?_) (fun h_1 => ?_)
 ·replace H := HS.cnd_t h_1 H
  try simp -implicitDefEqProofs (maxSteps := 999999) [-selQ_sel,h_1]
  refine Hid.brV (fun h_2 => ?_) (fun h_2 => ?_)
  ·replace H := HS.cnd_t h_2 H
   try simp -implicitDefEqProofs (maxSteps := 999999) [-selQ_sel,h_1,h_2]
   refine Hid.brV (fun h_3 => ?_) (fun h_3 => ?_)
   ·replace H := HS.cnd_t h_3 H
    try simp -implicitDefEqProofs (maxSteps := 999999) [-selQ_sel,h_1,h_2,h_3]
    refine Hid.brV (fun h_4 => ?_) (fun h_4 => ?_)
    ·replace H := HS.cnd_t h_4 H
     try simp -implicitDefEqProofs (maxSteps := 999999) [-selQ_sel,h_1,h_2,h_3,h_4]
     have hr := (HS.some H).symm; subst hr
     refine Hid.mk ⟨_,Wk.refl _,?_⟩
     try simp -implicitDefEqProofs (maxSteps := 999999) [-selQ_sel,h_1,h_2,h_3,h_4]
    ·replace H := HS.cnd_f h_4 H
     try simp -implicitDefEqProofs (maxSteps := 999999) [-selQ_sel,h_1,h_2,h_3,h_4]
     have hr := (HS.some H).symm; subst hr
     refine Hid.mk ⟨_,Wk.refl _,?_⟩
     try simp -implicitDefEqProofs (maxSteps := 999999) [-selQ_sel,h_1,h_2,h_3,h_4]
   ·replace H := HS.cnd_f h_3 H
    try simp -implicitDefEqProofs (maxSteps := 999999) [-selQ_sel,h_1,h_2,h_3]
    have hr := (HS.some H).symm; subst hr
    refine Hid.mk ⟨_,Wk.refl _,?_⟩
    try simp -implicitDefEqProofs (maxSteps := 999999) [-selQ_sel,h_1,h_2,h_3]
  ·replace H := HS.cnd_f h_2 H
   try simp -implicitDefEqProofs (maxSteps := 999999) [-selQ_sel,h_1,h_2]
   have hr := (HS.some H).symm; subst hr
   refine Hid.mk ⟨_,Wk.refl _,?_⟩
   try simp -implicitDefEqProofs (maxSteps := 999999) [-selQ_sel,h_1,h_2]
 ·replace H := HS.cnd_f h_1 H
  try simp -implicitDefEqProofs (maxSteps := 999999) [-selQ_sel,h_1]
  have hr := (HS.some H).symm; subst hr
  refine Hid.mk ⟨_,Wk.refl _,?_⟩
  try simp -implicitDefEqProofs (maxSteps := 999999) [-selQ_sel,h_1]
theorem laws_eqKept_ok0 (hm : Try.prog.follows .mixedOrders = true) (k_laws_eqMask : Sound Try.prog 28 laws_eqMask_x) : Sound Try.prog 120 laws_eqKept_x := by
 refine xOf_sound fun q r h => ?_
 obtain ⟨a0,a1⟩ := q
 refine fn_ok E0 hm Try.func120 rfl (by decide +kernel) (by rfl) fun Γ hn hk => ?_
 dsimp only [laws_eqKept_e,laws_eqKept_v]
 replace hn : Γ.n = 16 := hn
 replace hk : Γ.k = 0 := hk
 have H : HS (laws_eqKept a0 a1) r := h
 clear h; unfold laws_eqKept at H
 try simp -implicitDefEqProofs at H
 refine Tr.of_vc (cl := tabC [(28,laws_eqMask_x)]) (E := E0) [] (tab_cons k_laws_eqMask tab_nil) hm (by rw [hn]; decide +kernel) ?_
 try simp -implicitDefEqProofs (maxSteps := 999999) [-selQ_sel]
 refine Hid.brV (fun h_1 => ?_) (fun h_1 => ?_)
 ·replace H := HS.cnd_t h_1 H
  try simp -implicitDefEqProofs (maxSteps := 999999) [-selQ_sel,h_1]
  obtain ⟨v1,h_2,H⟩ := HS.bnd H
  try simp -implicitDefEqProofs (maxSteps := 999999) [-selQ_sel,h_1,h_2]
  refine Hid.brV (fun h_3 => ?_) (fun h_3 => ?_)
  ·replace H := HS.cnd_t h_3 H
   try simp -implicitDefEqProofs (maxSteps := 999999) [-selQ_sel,h_1,h_2,h_3]
   have hr := (HS.some H).symm; subst hr
   refine Hid.mk ⟨_,Wk.refl _,?_⟩
   try simp -implicitDefEqProofs (maxSteps := 999999) [-selQ_sel,h_1,h_2,h_3]
  ·replace H := HS.cnd_f h_3 H
   try simp -implicitDefEqProofs (maxSteps := 999999) [-selQ_sel,h_1,h_2,h_3]
   have hr := (HS.some H).symm; subst hr
   refine Hid.mk ⟨_,Wk.refl _,?_⟩
   try simp -implicitDefEqProofs (maxSteps := 999999) [-selQ_sel,h_1,h_2,h_3]
 ·replace H := HS.cnd_f h_1 H
  try simp -implicitDefEqProofs (maxSteps := 999999) [-selQ_sel,h_1]
  have hr := (HS.some H).symm; subst hr
  refine Hid.mk ⟨_,Wk.refl _,?_⟩
  try simp -implicitDefEqProofs (maxSteps := 999999) [-selQ_sel,h_1]
theorem laws_heldCache_ok0 (hm : Try.prog.follows .mixedOrders = true) (k_laws_heldKeptS : Sound Try.prog 68 laws_heldKeptS_x) : Sound Try.prog 23 laws_heldCache_x := by
 refine xOf_sound fun q r h => ?_
 obtain ⟨a0,a1⟩ := q
 refine fn_ok E0 hm Try.func23 rfl (by decide +kernel) (by rfl) fun Γ hn hk => ?_
 dsimp only [laws_heldCache_e,laws_heldCache_v]
 replace hn : Γ.n = 12 := hn
 replace hk : Γ.k = 0 := hk
 have H : HS (laws_heldCache a0 a1) r := h
 clear h; unfold laws_heldCache at H
 try simp -implicitDefEqProofs at H
 refine Tr.of_vc (cl := tabC [(68,laws_heldKeptS_x)]) (E := E0) [] (tab_cons k_laws_heldKeptS tab_nil) hm (by rw [hn]; decide +kernel) ?_
 try simp -implicitDefEqProofs (maxSteps := 999999) [-selQ_sel]
 obtain ⟨v1,h_1,H⟩ := HS.bnd H
 try simp -implicitDefEqProofs (maxSteps := 999999) [-selQ_sel,h_1]
 refine Hid.brV (fun h_2 => ?_) (fun h_2 => ?_)
 ·replace H := HS.cnd_t h_2 H
  try simp -implicitDefEqProofs (maxSteps := 999999) [-selQ_sel,h_1,h_2]
  have hr := (HS.some H).symm; subst hr
  refine Hid.mk ⟨_,Wk.refl _,?_⟩
  try simp -implicitDefEqProofs (maxSteps := 999999) [-selQ_sel,h_1,h_2]
 ·replace H := HS.cnd_f h_2 H
  try simp -implicitDefEqProofs (maxSteps := 999999) [-selQ_sel,h_1,h_2]
  have hr := (HS.some H).symm; subst hr
  refine Hid.mk ⟨_,Wk.refl _,?_⟩
  try simp -implicitDefEqProofs (maxSteps := 999999) [-selQ_sel,h_1,h_2]
theorem laws_szMask_ok0 (hm : Try.prog.follows .mixedOrders = true) (k_laws_szIntS : Sound Try.prog 69 laws_szIntS_x) : Sound Try.prog 24 laws_szMask_x := by
 refine xOf_sound fun q r h => ?_
 obtain ⟨a0,a1⟩ := q
 refine fn_ok E0 hm Try.func24 rfl (by decide +kernel) (by rfl) fun Γ hn hk => ?_
 dsimp only [laws_szMask_e,laws_szMask_v]
 replace hn : Γ.n = 12 := hn
 replace hk : Γ.k = 0 := hk
 have H : HS (laws_szMask a0 a1) r := h
 clear h; unfold laws_szMask at H
 try simp -implicitDefEqProofs at H
 refine Tr.of_vc (cl := tabC [(69,laws_szIntS_x)]) (E := E0) [] (tab_cons k_laws_szIntS tab_nil) hm (by rw [hn]; decide +kernel) ?_
 try simp -implicitDefEqProofs (maxSteps := 999999) [-selQ_sel]
 obtain ⟨v1,h_1,H⟩ := HS.bnd H
 try simp -implicitDefEqProofs (maxSteps := 999999) [-selQ_sel,h_1]
 refine Hid.brV (fun h_2 => ?_) (fun h_2 => ?_)
 ·replace H := HS.cnd_t h_2 H
  try simp -implicitDefEqProofs (maxSteps := 999999) [-selQ_sel,h_1,h_2]
  have hr := (HS.some H).symm; subst hr
  refine Hid.mk ⟨_,Wk.refl _,?_⟩
  try simp -implicitDefEqProofs (maxSteps := 999999) [-selQ_sel,h_1,h_2]
 ·replace H := HS.cnd_f h_2 H
  try simp -implicitDefEqProofs (maxSteps := 999999) [-selQ_sel,h_1,h_2]
  have hr := (HS.some H).symm; subst hr
  refine Hid.mk ⟨_,Wk.refl _,?_⟩
  try simp -implicitDefEqProofs (maxSteps := 999999) [-selQ_sel,h_1,h_2]
theorem laws_toCache_ok0 (hm : Try.prog.follows .mixedOrders = true) (k_laws_toKeptS : Sound Try.prog 61 laws_toKeptS_x) : Sound Try.prog 16 laws_toCache_x := by
 refine xOf_sound fun q r h => ?_
 revert h; revert r; revert q; intro a0 r h
 refine fn_ok E0 hm Try.func16 rfl (by decide +kernel) (by rfl) fun Γ hn hk => ?_
 dsimp only [laws_toCache_e,laws_toCache_v]
 replace hn : Γ.n = 12 := hn
 replace hk : Γ.k = 0 := hk
 have H : HS (laws_toCache a0) r := h
 clear h; unfold laws_toCache at H
 try simp -implicitDefEqProofs at H
 refine Tr.of_vc (cl := tabC [(61,laws_toKeptS_x)]) (E := E0) [] (tab_cons k_laws_toKeptS tab_nil) hm (by rw [hn]; decide +kernel) ?_
 try simp -implicitDefEqProofs (maxSteps := 999999) [-selQ_sel]
 obtain ⟨v1,h_1,H⟩ := HS.bnd H
 try simp -implicitDefEqProofs (maxSteps := 999999) [-selQ_sel,h_1]
 have hr := (HS.some H).symm; subst hr
 refine Hid.mk ⟨⟨[(2,AV.optr 0 0 2)],[(0,Ob.box [AV.int .i64 a0.most,AV.osl 1 0 (List.length v1) (List.length v1)]),(1,Ob.nar 6 (List.map eKept v1) [0,0,0,0,0,1])],2⟩,Wk.ofk [1,3] hk (by rfl) (by simp -implicitDefEqProofs [h_1]) (by simp -implicitDefEqProofs [h_1]),?_⟩
 try simp -implicitDefEqProofs (maxSteps := 999999) [-selQ_sel,h_1]
theorem impl_inRange_ok0 (hm : Try.prog.follows .mixedOrders = true) : Sound Try.prog 75 impl_inRange_x := by
 refine xOf_sound fun q r h => ?_
 obtain ⟨a0,a1,a2⟩ := q
 refine fn_ok E0 hm Try.func75 rfl (by decide +kernel) (by rfl) fun Γ hn hk => ?_
 dsimp only [impl_inRange_e,impl_inRange_v]
 replace hn : Γ.n = 15 := hn
 replace hk : Γ.k = 0 := hk
 have H : HS (impl_inRange a0 a1 a2) r := h
 clear h; unfold impl_inRange at H
 try simp -implicitDefEqProofs at H
 refine Tr.of_vc (cl := tabC []) (E := E0) [] tab_nil hm (by rw [hn]; decide +kernel) ?_
 try simp -implicitDefEqProofs (maxSteps := 999999) [-selQ_sel]
 refine Hid.selQ (fun h_1 => ?_) (fun h_1 => ?_)
 ·replace H := HS.cnd_t h_1 H
  try simp -implicitDefEqProofs (maxSteps := 999999) [-selQ_sel,h_1]
  have hr := (HS.some H).symm; subst hr
  refine Hid.mk ⟨_,Wk.refl _,?_⟩
  try simp -implicitDefEqProofs (maxSteps := 999999) [-selQ_sel,h_1]
 ·replace H := HS.cnd_f h_1 H
  try simp -implicitDefEqProofs (maxSteps := 999999) [-selQ_sel,h_1]
  have hr := (HS.some H).symm; subst hr
  refine Hid.mk ⟨_,Wk.refl _,?_⟩
  try simp -implicitDefEqProofs (maxSteps := 999999) [-selQ_sel,h_1]
theorem impl_Cache_keptAtR_ok0 (hm : Try.prog.follows .mixedOrders = true) (k_slices_IndexFunc_Kept_Cache_keptAt_1R : Sound Try.prog 118 slices_IndexFunc_Kept_Cache_keptAt_1R_x) : Sound Try.prog 81 impl_Cache_keptAtR_x := by
 refine xOf_sound fun q r h => ?_
 obtain ⟨a0,a1⟩ := q
 refine fn_ok E0 hm Try.func81 rfl (by decide +kernel) (by rfl) fun Γ hn hk => ?_
 dsimp only [impl_Cache_keptAtR_e,impl_Cache_keptAtR_v]
 replace hn : Γ.n = 11 := hn
 replace hk : Γ.k = 0 := hk
 have H : HS (impl_Cache_keptAtR a0 a1) r := h
 clear h; unfold impl_Cache_keptAtR at H
 try simp -implicitDefEqProofs at H
 refine Tr.of_vc (cl := tabC [(118,slices_IndexFunc_Kept_Cache_keptAt_1R_x)]) (E := E0) [] (tab_cons k_slices_IndexFunc_Kept_Cache_keptAt_1R tab_nil) hm (by rw [hn]; decide +kernel) ?_
 try simp -implicitDefEqProofs (maxSteps := 999999) [-selQ_sel]
 obtain ⟨v1,h_1,H⟩ := HS.bnd H
 try simp -implicitDefEqProofs (maxSteps := 999999) [-selQ_sel,h_1]
 have hr := (HS.some H).symm; subst hr
 refine Hid.mk ⟨_,Wk.refl _,?_⟩
 try simp -implicitDefEqProofs (maxSteps := 999999) [-selQ_sel,h_1]
theorem laws_markCache_ok0 (hm : Try.prog.follows .mixedOrders = true) (k_laws_markKeptS : Sound Try.prog 67 laws_markKeptS_x) : Sound Try.prog 21 laws_markCache_x := by
 refine xOf_sound fun q r h => ?_
 obtain ⟨a0,a1,a2⟩ := q
 refine fn_ok E0 hm Try.func21 rfl (by decide +kernel) (by rfl) fun Γ hn hk => ?_
 dsimp only [laws_markCache_e,laws_markCache_v]
 replace hn : Γ.n = 10 := hn
 replace hk : Γ.k = 1 := hk
 have H : HS (laws_markCache a0 a1 a2) r := h
 clear h; unfold laws_markCache at H
 try simp -implicitDefEqProofs at H
 refine Tr.of_vc (cl := tabC [(67,laws_markKeptS_x)]) (E := E0) [] (tab_cons k_laws_markKeptS tab_nil) hm (by rw [hn]; decide +kernel) ?_
 try simp -implicitDefEqProofs (maxSteps := 999999) [-selQ_sel]
 obtain ⟨⟨w2,w3⟩,h_1,H⟩ := HS.bnd H
 dsimp only at H
 have g_2 := laws_markKeptS_n h_1
 try simp -implicitDefEqProofs (maxSteps := 999999) [-selQ_sel,h_1,g_2]
 have hr := (HS.some H).symm; subst hr
 refine Hid.mk ⟨_,Wk.refl _,?_⟩
 try simp -implicitDefEqProofs (maxSteps := 999999) [-selQ_sel,h_1,g_2]
theorem impl_Cache_keptAt_1_ok0 (hm : Try.prog.follows .mixedOrders = true) : Sound Try.prog 126 impl_Cache_keptAt_1_x := by
 refine xOf_sound fun q r h => ?_
 obtain ⟨a0,a1⟩ := q
 refine fn_ok E0 hm Try.func126 rfl (by decide +kernel) (by rfl) fun Γ hn hk => ?_
 dsimp only [impl_Cache_keptAt_1_e,impl_Cache_keptAt_1_v]
 replace hn : Γ.n = 8 := hn
 replace hk : Γ.k = 0 := hk
 have H : HS (impl_Cache_keptAt_1 a0 a1) r := h
 clear h; unfold impl_Cache_keptAt_1 at H
 try simp -implicitDefEqProofs at H
 refine Tr.of_vc (cl := tabC []) (E := E0) [] tab_nil hm (by rw [hn]; decide +kernel) ?_
 try simp -implicitDefEqProofs (maxSteps := 999999) [-selQ_sel]
 have hr := (HS.some H).symm; subst hr
 refine Hid.mk ⟨_,Wk.refl _,?_⟩
 try simp -implicitDefEqProofs (maxSteps := 999999) [-selQ_sel]
end Go.Proofs.Ytapchldnmkfkoaa.Am
