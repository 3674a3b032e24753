import Derived.Test.YtapchldnmkfkoaaAmFoNa
set_option linter.unusedVariables false
set_option linter.unusedSimpArgs false
set_option linter.unusedSectionVars false
namespace Go.Proofs.Ytapchldnmkfkoaa.Am
open Go Go.Proofs
set_option maxRecDepth 100000
set_option linter.unusedSimpArgs false
set_option linter.unusedVariables false
set_option maxHeartbeats 4000000
theorem laws_FnExactForget_ok0 (hm : Try.prog.follows .mixedOrders = true) (k_laws_szCache : Sound Try.prog 14 laws_szCache_x) (k_laws_toCache : Sound Try.prog 16 laws_toCache_x) (k_laws_toIntS : Sound Try.prog 17 laws_toIntS_x) (k_spec_Forget : Sound Try.prog 15 spec_Forget_x) (k_impl_Forget : Sound Try.prog 18 impl_Forget_x) (k_laws_eqCache : Sound Try.prog 19 laws_eqCache_x) (k_laws_eqIntS : Sound Try.prog 20 laws_eqIntS_x) (k_laws_markCache : Sound Try.prog 21 laws_markCache_x) (k_laws_markIntS : Sound Try.prog 22 laws_markIntS_x) (k_laws_heldCache : Sound Try.prog 23 laws_heldCache_x) : Sound Try.prog 4 laws_FnExactForget_x := by
 refine xOf_sound fun q r h => ?_
 obtain ⟨a0, a1⟩ := q
 refine fn_ok E0 hm Try.func4 rfl (by decide +kernel) (by rfl) fun Γ hn hk => ?_
 dsimp only [laws_FnExactForget_e, laws_FnExactForget_v]
 replace hn : Γ.n = 90 := hn
 replace hk : Γ.k = 0 := hk
 have H : HS (laws_FnExactForget a0 a1) r := h
 clear h; unfold laws_FnExactForget at H
 try simp -implicitDefEqProofs at H
 refine Tr.of_vc (cl := tabC [(14, laws_szCache_x), (16, laws_toCache_x), (17, laws_toIntS_x), (15, spec_Forget_x), (18, impl_Forget_x), (19, laws_eqCache_x), (20, laws_eqIntS_x), (21, laws_markCache_x), (22, laws_markIntS_x), (23, laws_heldCache_x)]) (E := E0) [] (tab_cons k_laws_szCache (tab_cons k_laws_toCache (tab_cons k_laws_toIntS (tab_cons k_spec_Forget (tab_cons k_impl_Forget (tab_cons k_laws_eqCache (tab_cons k_laws_eqIntS (tab_cons k_laws_markCache (tab_cons k_laws_markIntS (tab_cons k_laws_heldCache tab_nil)))))))))) hm (by rw [hn]; decide +kernel) ?_
 try simp -implicitDefEqProofs +decide (maxSteps := 999999) [-selQ_sel, hokQ_of]
 refine Hid.brV (fun h_1 => ?_) (fun h_1 => ?_)
 ·replace H := HS.cnd_t h_1 H
  try simp -implicitDefEqProofs +decide (maxSteps := 999999) [-selQ_sel, hokQ_of, h_1]
  obtain ⟨v1, h_2, H⟩ := HS.bnd H
  try simp -implicitDefEqProofs +decide (maxSteps := 999999) [-selQ_sel, hokQ_of, h_1, h_2]
  refine Hid.brV (fun h_3 => ?_) (fun h_3 => ?_)
  ·replace H := HS.cnd_t h_3 H
   try simp -implicitDefEqProofs +decide (maxSteps := 999999) [-selQ_sel, hokQ_of, h_1, h_2, h_3]
   obtain ⟨⟨w3, w4⟩, h_4, H⟩ := HS.bnd H
   dsimp only at H
   try simp -implicitDefEqProofs +decide (maxSteps := 999999) [-selQ_sel, hokQ_of, h_1, h_2, h_3, h_4]
   obtain ⟨v5, h_5, H⟩ := HS.bnd H
   try simp -implicitDefEqProofs +decide (maxSteps := 999999) [-selQ_sel, hokQ_of, h_1, h_2, h_3, h_4, h_5]
   obtain ⟨⟨w7, w8⟩, h_6, H⟩ := HS.bnd H
   dsimp only at H
   have k_7 := spec_Forget_k ((TCache.mk w3 w4).most) ((TCache.mk w3 w4).list) v5
   simp -implicitDefEqProofs [-spec_Forget_k] at k_7
   try simp -implicitDefEqProofs +decide (maxSteps := 999999) [-selQ_sel, hokQ_of, h_1, h_2, h_3, h_4, h_5, h_6, k_7]
   obtain ⟨⟨w10, w11⟩, h_8, H⟩ := HS.bnd H
   dsimp only at H
   have k_9 := impl_Forget_k ((TCache.mk w3 w4).most) ((TCache.mk w3 w4).list) v5
   simp -implicitDefEqProofs [-impl_Forget_k] at k_9
   try simp -implicitDefEqProofs +decide (maxSteps := 999999) [-selQ_sel, hokQ_of, h_1, h_2, h_3, h_4, h_5, h_6, k_7, h_8, k_9]
   obtain ⟨v12, h_10, H⟩ := HS.bnd H
   have k_11 := laws_eqCache_k ((TCache.mk w10 w11).most) ((TCache.mk w10 w11).list) ((TCache.mk w7 w8).most) ((TCache.mk w7 w8).list)
   simp -implicitDefEqProofs [-laws_eqCache_k] at k_11
   try simp -implicitDefEqProofs +decide (maxSteps := 999999) [-selQ_sel, hokQ_of, h_1, h_2, h_3, h_4, h_5, h_6, k_7, h_8, k_9, h_10, k_11]
   refine Hid.brV (fun h_12 => ?_) (fun h_12 => ?_)
   ·replace H := HS.cnd_t h_12 H
    try simp -implicitDefEqProofs +decide (maxSteps := 999999) [-selQ_sel, hokQ_of, h_1, h_2, h_3, h_4, h_5, h_6, k_7, h_8, k_9, h_10, k_11, h_12]
    obtain ⟨v13, h_13, H⟩ := HS.bnd H
    have k_14 := laws_eqCache_k ((TCache.mk w3 w4).most) ((TCache.mk w3 w4).list) ((TCache.mk w3 w4).most) ((TCache.mk w3 w4).list)
    simp -implicitDefEqProofs [-laws_eqCache_k] at k_14
    try simp -implicitDefEqProofs +decide (maxSteps := 999999) [-selQ_sel, hokQ_of, h_1, h_2, h_3, h_4, h_5, h_6, k_7, h_8, k_9, h_10, k_11, h_12, h_13, k_14]
    refine Hid.brV (fun h_15 => ?_) (fun h_15 => ?_)
    ·replace H := HS.cnd_t h_15 H
     try simp -implicitDefEqProofs +decide (maxSteps := 999999) [-selQ_sel, hokQ_of, h_1, h_2, h_3, h_4, h_5, h_6, k_7, h_8, k_9, h_10, k_11, h_12, h_13, k_14, h_15]
     obtain ⟨v14, h_16, H⟩ := HS.bnd H
     try simp -implicitDefEqProofs +decide (maxSteps := 999999) [-selQ_sel, hokQ_of, h_1, h_2, h_3, h_4, h_5, h_6, k_7, h_8, k_9, h_10, k_11, h_12, h_13, k_14, h_15, h_16]
     refine Hid.brV (fun h_17 => ?_) (fun h_17 => ?_)
     ·replace H := HS.cnd_t h_17 H
      try simp -implicitDefEqProofs +decide (maxSteps := 999999) [-selQ_sel, hokQ_of, h_1, h_2, h_3, h_4, h_5, h_6, k_7, h_8, k_9, h_10, k_11, h_12, h_13, k_14, h_15, h_16, h_17]
      obtain ⟨⟨w16, w17⟩, h_18, H⟩ := HS.bnd H
      dsimp only at H
      have g_19 := laws_markCache_n h_18
      try simp -implicitDefEqProofs +decide (maxSteps := 999999) [-selQ_sel, hokQ_of, h_1, h_2, h_3, h_4, h_5, h_6, k_7, h_8, k_9, h_10, k_11, h_12, h_13, k_14, h_15, h_16, h_17, h_18, g_19]
      obtain ⟨⟨w19, w20⟩, h_20, H⟩ := HS.bnd H
      dsimp only at H
      have g_21 := laws_markIntS_n h_20
      try simp -implicitDefEqProofs +decide (maxSteps := 999999) [-selQ_sel, hokQ_of, h_1, h_2, h_3, h_4, h_5, h_6, k_7, h_8, k_9, h_10, k_11, h_12, h_13, k_14, h_15, h_16, h_17, h_18, g_19, h_20, g_21]
      refine Hid.selQ (fun h_22 => ?_) (fun h_22 => ?_)
      ·replace H := HS.cnd_t h_22 H
       try simp -implicitDefEqProofs +decide (maxSteps := 999999) [-selQ_sel, hokQ_of, h_1, h_2, h_3, h_4, h_5, h_6, k_7, h_8, k_9, h_10, k_11, h_12, h_13, k_14, h_15, h_16, h_17, h_18, g_19, h_20, g_21, h_22]
       obtain ⟨⟨w22, w23⟩, h_23, H⟩ := HS.bnd H
       dsimp only at H
       have g_24 := laws_markCache_n h_23
       try simp -implicitDefEqProofs +decide (maxSteps := 999999) [-selQ_sel, hokQ_of, h_1, h_2, h_3, h_4, h_5, h_6, k_7, h_8, k_9, h_10, k_11, h_12, h_13, k_14, h_15, h_16, h_17, h_18, g_19, h_20, g_21, h_22, h_23, g_24]
       obtain ⟨v24, h_25, H⟩ := HS.bnd H
       have k_26 := laws_heldCache_k ((TCache.mk w10 w23).most) ((TCache.mk w10 w23).list) 1
       simp -implicitDefEqProofs [-laws_heldCache_k] at k_26
       try simp -implicitDefEqProofs +decide (maxSteps := 999999) [-selQ_sel, hokQ_of, h_1, h_2, h_3, h_4, h_5, h_6, k_7, h_8, k_9, h_10, k_11, h_12, h_13, k_14, h_15, h_16, h_17, h_18, g_19, h_20, g_21, h_22, h_23, g_24, h_25, k_26]
       refine Hid.brV (fun h_27 => ?_) (fun h_27 => ?_)
       ·replace H := HS.cnd_t h_27 H
        try simp -implicitDefEqProofs +decide (maxSteps := 999999) [-selQ_sel, hokQ_of, h_1, h_2, h_3, h_4, h_5, h_6, k_7, h_8, k_9, h_10, k_11, h_12, h_13, k_14, h_15, h_16, h_17, h_18, g_19, h_20, g_21, h_22, h_23, g_24, h_25, k_26, h_27]
        refine Hid.brV (fun h_28 => ?_) (fun h_28 => ?_)
        ·replace H := HS.cnd_t h_28 H
         try simp -implicitDefEqProofs +decide (maxSteps := 999999) [-selQ_sel, hokQ_of, h_1, h_2, h_3, h_4, h_5, h_6, k_7, h_8, k_9, h_10, k_11, h_12, h_13, k_14, h_15, h_16, h_17, h_18, g_19, h_20, g_21, h_22, h_23, g_24, h_25, k_26, h_27, h_28]
         have hr := (HS.some H).symm; subst hr
         refine Hid.mk ⟨_, Wk.refl _, ?_⟩
         try simp -implicitDefEqProofs +decide (maxSteps := 999999) [-selQ_sel, hokQ_of, h_1, h_2, h_3, h_4, h_5, h_6, k_7, h_8, k_9, h_10, k_11, h_12, h_13, k_14, h_15, h_16, h_17, h_18, g_19, h_20, g_21, h_22, h_23, g_24, h_25, k_26, h_27, h_28]
        ·replace H := HS.cnd_f h_28 H
         try simp -implicitDefEqProofs +decide (maxSteps := 999999) [-selQ_sel, hokQ_of, h_1, h_2, h_3, h_4, h_5, h_6, k_7, h_8, k_9, h_10, k_11, h_12, h_13, k_14, h_15, h_16, h_17, h_18, g_19, h_20, g_21, h_22, h_23, g_24, h_25, k_26, h_27, h_28]
         have hr := (HS.some H).symm; subst hr
         refine Hid.mk ⟨_, Wk.refl _, ?_⟩
         try simp -implicitDefEqProofs +decide (maxSteps := 999999) [-selQ_sel, hokQ_of, h_1, h_2, h_3, h_4, h_5, h_6, k_7, h_8, k_9, h_10, k_11, h_12, h_13, k_14, h_15, h_16, h_17, h_18, g_19, h_20, g_21, h_22, h_23, g_24, h_25, k_26, h_27, h_28]
       ·replace H := HS.cnd_f h_27 H
        try simp -implicitDefEqProofs +decide (maxSteps := 999999) [-selQ_sel, hokQ_of, h_1, h_2, h_3, h_4, h_5, h_6, k_7, h_8, k_9, h_10, k_11, h_12, h_13, k_14, h_15, h_16, h_17, h_18, g_19, h_20, g_21, h_22, h_23, g_24, h_25, k_26, h_27]
        have hr := (HS.some H).symm; subst hr
        refine Hid.mk ⟨_, Wk.refl _, ?_⟩
        try simp -implicitDefEqProofs +decide (maxSteps := 999999) [-selQ_sel, hokQ_of, h_1, h_2, h_3, h_4, h_5, h_6, k_7, h_8, k_9, h_10, k_11, h_12, h_13, k_14, h_15, h_16, h_17, h_18, g_19, h_20, g_21, h_22, h_23, g_24, h_25, k_26, h_27]
      ·replace H := HS.cnd_f h_22 H
       try simp -implicitDefEqProofs +decide (maxSteps := 999999) [-selQ_sel, hokQ_of, h_1, h_2, h_3, h_4, h_5, h_6, k_7, h_8, k_9, h_10, k_11, h_12, h_13, k_14, h_15, h_16, h_17, h_18, g_19, h_20, g_21, h_22]
       have hr := (HS.some H).symm; subst hr
       refine Hid.mk ⟨_, Wk.refl _, ?_⟩
       try simp -implicitDefEqProofs +decide (maxSteps := 999999) [-selQ_sel, hokQ_of, h_1, h_2, h_3, h_4, h_5, h_6, k_7, h_8, k_9, h_10, k_11, h_12, h_13, k_14, h_15, h_16, h_17, h_18, g_19, h_20, g_21, h_22]
     ·replace H := HS.cnd_f h_17 H
      try simp -implicitDefEqProofs +decide (maxSteps := 999999) [-selQ_sel, hokQ_of, h_1, h_2, h_3, h_4, h_5, h_6, k_7, h_8, k_9, h_10, k_11, h_12, h_13, k_14, h_15, h_16, h_17]
      have hr := (HS.some H).symm; subst hr
      refine Hid.mk ⟨_, Wk.refl _, ?_⟩
      try simp -implicitDefEqProofs +decide (maxSteps := 999999) [-selQ_sel, hokQ_of, h_1, h_2, h_3, h_4, h_5, h_6, k_7, h_8, k_9, h_10, k_11, h_12, h_13, k_14, h_15, h_16, h_17]
    ·replace H := HS.cnd_f h_15 H
     try simp -implicitDefEqProofs +decide (maxSteps := 999999) [-selQ_sel, hokQ_of, h_1, h_2, h_3, h_4, h_5, h_6, k_7, h_8, k_9, h_10, k_11, h_12, h_13, k_14, h_15]
     have hr := (HS.some H).symm; subst hr
     refine Hid.mk ⟨_, Wk.refl _, ?_⟩
     try simp -implicitDefEqProofs +decide (maxSteps := 999999) [-selQ_sel, hokQ_of, h_1, h_2, h_3, h_4, h_5, h_6, k_7, h_8, k_9, h_10, k_11, h_12, h_13, k_14, h_15]
   ·replace H := HS.cnd_f h_12 H
    try simp -implicitDefEqProofs +decide (maxSteps := 999999) [-selQ_sel, hokQ_of, h_1, h_2, h_3, h_4, h_5, h_6, k_7, h_8, k_9, h_10, k_11, h_12]
    have hr := (HS.some H).symm; subst hr
    refine Hid.mk ⟨_, Wk.refl _, ?_⟩
    try simp -implicitDefEqProofs +decide (maxSteps := 999999) [-selQ_sel, hokQ_of, h_1, h_2, h_3, h_4, h_5, h_6, k_7, h_8, k_9, h_10, k_11, h_12]
  ·replace H := HS.cnd_f h_3 H
   try simp -implicitDefEqProofs +decide (maxSteps := 999999) [-selQ_sel, hokQ_of, h_1, h_2, h_3]
   have hr := (HS.some H).symm; subst hr
   refine Hid.mk ⟨_, Wk.refl _, ?_⟩
   try simp -implicitDefEqProofs +decide (maxSteps := 999999) [-selQ_sel, hokQ_of, h_1, h_2, h_3]
 ·replace H := HS.cnd_f h_1 H
  try simp -implicitDefEqProofs +decide (maxSteps := 999999) [-selQ_sel, hokQ_of, h_1]
  have hr := (HS.some H).symm; subst hr
  refine Hid.mk ⟨_, Wk.refl _, ?_⟩
  try simp -implicitDefEqProofs +decide (maxSteps := 999999) [-selQ_sel, hokQ_of, h_1]
theorem laws_eqIntS_ok0 (hm : Try.prog.follows .mixedOrders = true) : Sound Try.prog 20 laws_eqIntS_x := by
 refine xOf_sound fun q r h => ?_
 obtain ⟨a0, a1⟩ := q
 refine fn_ok E0 hm Try.func20 rfl (by decide +kernel) (by rfl) fun Γ hn hk => ?_
 dsimp only [laws_eqIntS_e, laws_eqIntS_v]
 replace hn : Γ.n = 26 := hn
 replace hk : Γ.k = 0 := hk
 have H : HS (laws_eqIntS a0 a1) r := h
 clear h; unfold laws_eqIntS at H
 try simp -implicitDefEqProofs at H
 refine Tr.of_vc (cl := tabC []) (E := E0) [] tab_nil hm (by rw [hn]; decide +kernel) ?_
 try simp -implicitDefEqProofs +decide (maxSteps := 999999) [-selQ_sel, hokQ_of]
 refine Hid.brV (fun h_1 => ?_) (fun h_1 => ?_)
 ·replace H := HS.cnd_t h_1 H
  try simp -implicitDefEqProofs +decide (maxSteps := 999999) [-selQ_sel, hokQ_of, h_1]
  obtain ⟨q, h_2, H⟩ := HS.bnd H
  refine Hid.mk (Tr.weak (s' := (laws_eqIntS_l0_S a0 a1) 0) (Wk.ofk [] hk (by rfl) (by simp -implicitDefEqProofs [laws_eqIntS_l0_S, h_1]) (by simp -implicitDefEqProofs [laws_eqIntS_l0_S, h_1])) ?_)
  refine wp_loop_of (S := (laws_eqIntS_l0_S a0 a1)) (f := (laws_eqIntS_l0 a0 a1)) (xt := (laws_eqIntS_l0_X a0 a1)) ?_ ?_ h_2 ?_
  ·intro q; rcases q with ⟨⟩ | ⟨⟩ <;> simp [laws_eqIntS_l0_X]
  ·clear H h_2 q
   rintro x3 o R hf hR
   have H : HS (laws_eqIntS_l0 a0 a1 x3) o := hf
   clear hf; unfold laws_eqIntS_l0 at H
   try simp -implicitDefEqProofs at H
   refine Tr.of_vc (cl := tabC []) (E := E0) [] tab_nil hm (by rw [hn]; decide +kernel) ?_
   try simp -implicitDefEqProofs +decide (maxSteps := 999999) [-selQ_sel, hokQ_of, laws_eqIntS_l0_S]
   refine Hid.brV (fun h_3 => ?_) (fun h_3 => ?_)
   ·replace H := HS.cnd_t h_3 H
    try simp -implicitDefEqProofs +decide (maxSteps := 999999) [-selQ_sel, hokQ_of, h_3]
    have hr := (HS.some H).symm; subst hr
    exact Hid.mk ⟨(laws_eqIntS_l0_X a0 a1 (.inl ())).2, Wk.ofk [] hk (by rfl) (by simp -implicitDefEqProofs [laws_eqIntS_l0_X, h_3]) (by simp -implicitDefEqProofs [laws_eqIntS_l0_X, h_3]), hR⟩
   ·replace H := HS.cnd_f h_3 H
    try simp -implicitDefEqProofs +decide (maxSteps := 999999) [-selQ_sel, hokQ_of, h_3]
    obtain ⟨v4, h_4, H⟩ := HS.bnd H
    try simp -implicitDefEqProofs +decide (maxSteps := 999999) [-selQ_sel, hokQ_of, h_3, h_4]
    obtain ⟨v5, h_5, H⟩ := HS.bnd H
    try simp -implicitDefEqProofs +decide (maxSteps := 999999) [-selQ_sel, hokQ_of, h_3, h_4, h_5]
    refine Hid.brV (fun h_6 => ?_) (fun h_6 => ?_)
    ·replace H := HS.cnd_t h_6 H
     try simp -implicitDefEqProofs +decide (maxSteps := 999999) [-selQ_sel, hokQ_of, h_3, h_4, h_5, h_6]
     have hr := (HS.some H).symm; subst hr
     exact Hid.mk ⟨laws_eqIntS_l0_S a0 a1 (IntKind.i64.wrap (x3 + 1)), Wk.ofk [] hk (by rfl) (by simp -implicitDefEqProofs [laws_eqIntS_l0_S, h_3, h_4, h_5, h_6]) (by simp -implicitDefEqProofs [laws_eqIntS_l0_S, h_3, h_4, h_5, h_6]), hR⟩
    ·replace H := HS.cnd_f h_6 H
     try simp -implicitDefEqProofs +decide (maxSteps := 999999) [-selQ_sel, hokQ_of, h_3, h_4, h_5, h_6]
     have hr := (HS.some H).symm; subst hr
     exact Hid.mk ⟨(laws_eqIntS_l0_X a0 a1 (.inr ())).2, Wk.ofk [] hk (by rfl) (by simp -implicitDefEqProofs [laws_eqIntS_l0_X, h_3, h_4, h_5, h_6]) (by simp -implicitDefEqProofs [laws_eqIntS_l0_X, h_3, h_4, h_5, h_6]), hR⟩
  ·rcases q with ⟨⟩ | ⟨⟩
   ·dsimp only at H
    try simp -implicitDefEqProofs +decide (maxSteps := 999999) [-selQ_sel, hokQ_of, h_1, laws_eqIntS_l0_X]
    have hr := (HS.some H).symm; subst hr
    refine Hid.mk ⟨_, Wk.refl _, ?_⟩
    try simp -implicitDefEqProofs +decide (maxSteps := 999999) [-selQ_sel, hokQ_of, h_1]
   ·dsimp only at H
    try simp -implicitDefEqProofs +decide (maxSteps := 999999) [-selQ_sel, hokQ_of, h_1, laws_eqIntS_l0_X]
    have hr := (HS.some H).symm; subst hr
    refine Hid.mk ⟨_, Wk.refl _, ?_⟩
    try simp -implicitDefEqProofs +decide (maxSteps := 999999) [-selQ_sel, hokQ_of, h_1]
 ·replace H := HS.cnd_f h_1 H
  try simp -implicitDefEqProofs +decide (maxSteps := 999999) [-selQ_sel, hokQ_of, h_1]
  have hr := (HS.some H).symm; subst hr
  refine Hid.mk ⟨_, Wk.refl _, ?_⟩
  try simp -implicitDefEqProofs +decide (maxSteps := 999999) [-selQ_sel, hokQ_of, h_1]
theorem slices_IndexFunc_Kept_Forget_1R_ok0 (hm : Try.prog.follows .mixedOrders = true) (k_impl_Forget_1R : Sound Try.prog 64 impl_Forget_1R_x) : Sound Try.prog 118 slices_IndexFunc_Kept_Forget_1R_x := by
 refine xOf_sound fun q r h => ?_
 obtain ⟨a0, a1⟩ := q
 refine fn_ok E0 hm Try.func118 rfl (by decide +kernel) (by rfl) fun Γ hn hk => ?_
 dsimp only [slices_IndexFunc_Kept_Forget_1R_e, slices_IndexFunc_Kept_Forget_1R_v]
 replace hn : Γ.n = 19 := hn
 replace hk : Γ.k = 0 := hk
 have H : HS (slices_IndexFunc_Kept_Forget_1R a0 a1) r := h
 clear h; unfold slices_IndexFunc_Kept_Forget_1R at H
 try simp -implicitDefEqProofs at H
 refine Tr.of_vc (cl := tabC [(64, impl_Forget_1R_x)]) (E := E0) [] (tab_cons k_impl_Forget_1R tab_nil) hm (by rw [hn]; decide +kernel) ?_
 try simp -implicitDefEqProofs (maxSteps := 999999) [-selQ_sel]
 obtain ⟨q, h_1, H⟩ := HS.bnd H
 refine Hid.mk (Tr.weak (s' := (slices_IndexFunc_Kept_Forget_1R_l0_S a0 a1) 0) (Wk.ofk [] hk (by rfl) (by simp -implicitDefEqProofs [slices_IndexFunc_Kept_Forget_1R_l0_S]) (by simp -implicitDefEqProofs [slices_IndexFunc_Kept_Forget_1R_l0_S])) ?_)
 refine wp_loop_of (S := (slices_IndexFunc_Kept_Forget_1R_l0_S a0 a1)) (f := (slices_IndexFunc_Kept_Forget_1R_l0 a0 a1)) (xt := (slices_IndexFunc_Kept_Forget_1R_l0_X a0 a1)) ?_ ?_ h_1 ?_
 ·intro q; rcases q with ⟨⟩ | y6 <;> simp [slices_IndexFunc_Kept_Forget_1R_l0_X]
 ·clear H h_1 q
  rintro x3 o R hf hR
  have H : HS (slices_IndexFunc_Kept_Forget_1R_l0 a0 a1 x3) o := hf
  clear hf; unfold slices_IndexFunc_Kept_Forget_1R_l0 at H
  try simp -implicitDefEqProofs at H
  refine Tr.of_vc (cl := tabC [(64, impl_Forget_1R_x)]) (E := E0) [] (tab_cons k_impl_Forget_1R tab_nil) hm (by rw [hn]; decide +kernel) ?_
  try simp -implicitDefEqProofs (maxSteps := 999999) [-selQ_sel, slices_IndexFunc_Kept_Forget_1R_l0_S]
  refine Hid.brV (fun h_2 => ?_) (fun h_2 => ?_)
  ·replace H := HS.cnd_t h_2 H
   try simp -implicitDefEqProofs (maxSteps := 999999) [-selQ_sel, h_2]
   have hr := (HS.some H).symm; subst hr
   exact Hid.mk ⟨(slices_IndexFunc_Kept_Forget_1R_l0_X a0 a1 (.inl ())).2, Wk.ofk [] hk (by rfl) (by simp -implicitDefEqProofs [slices_IndexFunc_Kept_Forget_1R_l0_X, h_2]) (by simp -implicitDefEqProofs [slices_IndexFunc_Kept_Forget_1R_l0_X, h_2]), hR⟩
  ·replace H := HS.cnd_f h_2 H
   try simp -implicitDefEqProofs (maxSteps := 999999) [-selQ_sel, h_2]
   obtain ⟨v4, h_3, H⟩ := HS.bnd H
   try simp -implicitDefEqProofs (maxSteps := 999999) [-selQ_sel, h_2, h_3]
   obtain ⟨v5, h_4, H⟩ := HS.bnd H
   try simp -implicitDefEqProofs (maxSteps := 999999) [-selQ_sel, h_2, h_3, h_4]
   refine Hid.brV (fun h_5 => ?_) (fun h_5 => ?_)
   ·replace H := HS.cnd_t h_5 H
    try simp -implicitDefEqProofs (maxSteps := 999999) [-selQ_sel, h_2, h_3, h_4, h_5]
    have hr := (HS.some H).symm; subst hr
    exact Hid.mk ⟨(slices_IndexFunc_Kept_Forget_1R_l0_X a0 a1 (.inr x3)).2, Wk.ofk [] hk (by rfl) (by simp -implicitDefEqProofs [slices_IndexFunc_Kept_Forget_1R_l0_X, h_2, h_3, h_4, h_5]) (by simp -implicitDefEqProofs [slices_IndexFunc_Kept_Forget_1R_l0_X, h_2, h_3, h_4, h_5]), hR⟩
   ·replace H := HS.cnd_f h_5 H
    try simp -implicitDefEqProofs (maxSteps := 999999) [-selQ_sel, h_2, h_3, h_4, h_5]
    have hr := (HS.some H).symm; subst hr
    exact Hid.mk ⟨slices_IndexFunc_Kept_Forget_1R_l0_S a0 a1 (IntKind.i64.wrap (x3 + 1)), Wk.ofk [] hk (by rfl) (by simp -implicitDefEqProofs [slices_IndexFunc_Kept_Forget_1R_l0_S, h_2, h_3, h_4, h_5]) (by simp -implicitDefEqProofs [slices_IndexFunc_Kept_Forget_1R_l0_S, h_2, h_3, h_4, h_5]), hR⟩
 ·rcases q with ⟨⟩ | y6
  ·dsimp only at H
   try simp -implicitDefEqProofs (maxSteps := 999999) [-selQ_sel, slices_IndexFunc_Kept_Forget_1R_l0_X]
   have hr := (HS.some H).symm; subst hr
   refine Hid.mk ⟨_, Wk.refl _, ?_⟩
   try simp -implicitDefEqProofs (maxSteps := 999999) [-selQ_sel]
  ·dsimp only at H
   try simp -implicitDefEqProofs (maxSteps := 999999) [-selQ_sel, slices_IndexFunc_Kept_Forget_1R_l0_X]
   have hr := (HS.some H).symm; subst hr
   refine Hid.mk ⟨_, Wk.refl _, ?_⟩
   try simp -implicitDefEqProofs (maxSteps := 999999) [-selQ_sel]
theorem laws_markKeptS_ok0 (hm : Try.prog.follows .mixedOrders = true) (k_laws_markIntS : Sound Try.prog 22 laws_markIntS_x) : Sound Try.prog 67 laws_markKeptS_x := by
 refine xOf_sound fun q r h => ?_
 obtain ⟨a0, a1⟩ := q
 refine fn_ok E0 hm Try.func67 rfl (by decide +kernel) (by rfl) fun Γ hn hk => ?_
 dsimp only [laws_markKeptS_e, laws_markKeptS_v]
 replace hn : Γ.n = 64 := hn
 replace hk : Γ.k = 1 := hk
 have H : HS (laws_markKeptS a0 a1) r := h
 clear h; unfold laws_markKeptS at H
 try simp -implicitDefEqProofs at H
 refine Tr.of_vc (cl := tabC [(22, laws_markIntS_x)]) (E := E0) [] (tab_cons k_laws_markIntS tab_nil) hm (by rw [hn]; decide +kernel) ?_
 try simp -implicitDefEqProofs (maxSteps := 999999) [-selQ_sel]
 obtain ⟨q, h_1, H⟩ := HS.bnd H
 refine Hid.mk (Tr.weak (s' := laws_markKeptS_l0_S (a0, 0, a1)) (Wk.ofk [0] hk (by rfl) (by simp -implicitDefEqProofs [laws_markKeptS_l0_S]) (by simp -implicitDefEqProofs [laws_markKeptS_l0_S])) ?_)
 refine wp_loop_of (S := laws_markKeptS_l0_S) (f := laws_markKeptS_l0) (xt := laws_markKeptS_l0_X) ?_ ?_ h_1 ?_
 ·intro q; rcases q with ⟨y12, y13⟩ <;> simp [laws_markKeptS_l0_X]
 ·clear H h_1 q
  rintro ⟨x5, x6, x7⟩ o R hf hR
  have H : HS (laws_markKeptS_l0 (x5, x6, x7)) o := hf
  clear hf; unfold laws_markKeptS_l0 at H
  try simp -implicitDefEqProofs at H
  refine Tr.of_vc (cl := tabC [(22, laws_markIntS_x)]) (E := E0) [] (tab_cons k_laws_markIntS tab_nil) hm (by rw [hn]; decide +kernel) ?_
  try simp -implicitDefEqProofs (maxSteps := 999999) [-selQ_sel, laws_markKeptS_l0_S]
  refine Hid.brV (fun h_2 => ?_) (fun h_2 => ?_)
  ·replace H := HS.cnd_t h_2 H
   try simp -implicitDefEqProofs (maxSteps := 999999) [-selQ_sel, h_2]
   have hr := (HS.some H).symm; subst hr
   exact Hid.mk ⟨(laws_markKeptS_l0_X (x7, x5)).2, Wk.ofk [0] hk (by rfl) (by simp -implicitDefEqProofs [laws_markKeptS_l0_X, h_2]) (by simp -implicitDefEqProofs [laws_markKeptS_l0_X, h_2]), hR⟩
  ·replace H := HS.cnd_f h_2 H
   try simp -implicitDefEqProofs (maxSteps := 999999) [-selQ_sel, h_2]
   obtain ⟨v8, h_3, H⟩ := HS.bnd H
   have g_4 := idx_get h_3
   have g_5 := idx_lt h_3
   have g_6 := idx_getE h_3
   try simp -implicitDefEqProofs (maxSteps := 999999) [-selQ_sel, h_2, h_3, g_4, g_5, g_6]
   obtain ⟨⟨w10, w11⟩, h_7, H⟩ := HS.bnd H
   dsimp only at H
   have g_8 := laws_markIntS_n h_7
   try simp -implicitDefEqProofs (maxSteps := 999999) [-selQ_sel, h_2, h_3, g_4, g_5, g_6, h_7, g_8]
   have hr := (HS.some H).symm; subst hr
   exact Hid.mk ⟨laws_markKeptS_l0_S (w10, (IntKind.i64.wrap (x6 + 1)), (List.set x7 (Int.toNat x6) (TKept.mk x5 (TMask.mk (TBox.mk (IntKind.i64.wrap (x5 + 1)) (IntKind.i64.wrap ((IntKind.i64.wrap (x5 + 1)) + 1)) (IntKind.i64.wrap ((IntKind.i64.wrap ((IntKind.i64.wrap (x5 + 1)) + 1)) + 1)) (IntKind.i64.wrap ((IntKind.i64.wrap ((IntKind.i64.wrap ((IntKind.i64.wrap (x5 + 1)) + 1)) + 1)) + 1))) w11)))), Wk.trans (Wk.abs (id := 0) (j := 1) (js := []) (by rfl) (by rfl) (by decide) (by simp -implicitDefEqProofs [laws_markKeptS_l0_S, h_2, h_3, g_4, g_5, g_6, h_7, g_8]) (by rfl) (by simp -implicitDefEqProofs [laws_markKeptS_l0_S, h_2, h_3, g_4, g_5, g_6, h_7, g_8]) (by simp -implicitDefEqProofs [laws_markKeptS_l0_S, h_2, h_3, g_4, g_5, g_6, h_7, g_8])) (Wk.ofk [0] hk (by rfl) (by simp -implicitDefEqProofs [laws_markKeptS_l0_S, h_2, h_3, g_4, g_5, g_6, h_7, g_8]) (by simp -implicitDefEqProofs [laws_markKeptS_l0_S, h_2, h_3, g_4, g_5, g_6, h_7, g_8])), hR⟩
 ·obtain ⟨y12, y13⟩ := q
  try dsimp only at H
  try simp -implicitDefEqProofs (maxSteps := 999999) [-selQ_sel, laws_markKeptS_l0_X]
  have hr := (HS.some H).symm; subst hr
  refine Hid.mk ⟨_, Wk.refl _, ?_⟩
  try simp -implicitDefEqProofs (maxSteps := 999999) [-selQ_sel]
theorem slices_Index_int_ok0 (hm : Try.prog.follows .mixedOrders = true) : Sound Try.prog 119 slices_Index_int_x := by
 refine xOf_sound fun q r h => ?_
 obtain ⟨a0, a1⟩ := q
 refine fn_ok E0 hm Try.func119 rfl (by decide +kernel) (by rfl) fun Γ hn hk => ?_
 dsimp only [slices_Index_int_e, slices_Index_int_v]
 replace hn : Γ.n = 19 := hn
 replace hk : Γ.k = 0 := hk
 have H : HS (slices_Index_int a0 a1) r := h
 clear h; unfold slices_Index_int at H
 try simp -implicitDefEqProofs at H
 refine Tr.of_vc (cl := tabC []) (E := E0) [] tab_nil hm (by rw [hn]; decide +kernel) ?_
 try simp -implicitDefEqProofs (maxSteps := 999999) [-selQ_sel]
 obtain ⟨q, h_1, H⟩ := HS.bnd H
 refine Hid.mk (Tr.weak (s' := (slices_Index_int_l0_S a0 a1) 0) (Wk.ofk [] hk (by rfl) (by simp -implicitDefEqProofs [slices_Index_int_l0_S]) (by simp -implicitDefEqProofs [slices_Index_int_l0_S])) ?_)
 refine wp_loop_of (S := (slices_Index_int_l0_S a0 a1)) (f := (slices_Index_int_l0 a0 a1)) (xt := (slices_Index_int_l0_X a0 a1)) ?_ ?_ h_1 ?_
 ·intro q; rcases q with ⟨⟩ | y4 <;> simp [slices_Index_int_l0_X]
 ·clear H h_1 q
  rintro x2 o R hf hR
  have H : HS (slices_Index_int_l0 a0 a1 x2) o := hf
  clear hf; unfold slices_Index_int_l0 at H
  try simp -implicitDefEqProofs at H
  refine Tr.of_vc (cl := tabC []) (E := E0) [] tab_nil hm (by rw [hn]; decide +kernel) ?_
  try simp -implicitDefEqProofs (maxSteps := 999999) [-selQ_sel, slices_Index_int_l0_S]
  refine Hid.brV (fun h_2 => ?_) (fun h_2 => ?_)
  ·replace H := HS.cnd_t h_2 H
   try simp -implicitDefEqProofs (maxSteps := 999999) [-selQ_sel, h_2]
   have hr := (HS.some H).symm; subst hr
   exact Hid.mk ⟨(slices_Index_int_l0_X a0 a1 (.inl ())).2, Wk.ofk [] hk (by rfl) (by simp -implicitDefEqProofs [slices_Index_int_l0_X, h_2]) (by simp -implicitDefEqProofs [slices_Index_int_l0_X, h_2]), hR⟩
  ·replace H := HS.cnd_f h_2 H
   try simp -implicitDefEqProofs (maxSteps := 999999) [-selQ_sel, h_2]
   obtain ⟨v3, h_3, H⟩ := HS.bnd H
   try simp -implicitDefEqProofs (maxSteps := 999999) [-selQ_sel, h_2, h_3]
   refine Hid.brV (fun h_4 => ?_) (fun h_4 => ?_)
   ·replace H := HS.cnd_t h_4 H
    try simp -implicitDefEqProofs (maxSteps := 999999) [-selQ_sel, h_2, h_3, h_4]
    have hr := (HS.some H).symm; subst hr
    exact Hid.mk ⟨(slices_Index_int_l0_X a0 a1 (.inr x2)).2, Wk.ofk [] hk (by rfl) (by simp -implicitDefEqProofs [slices_Index_int_l0_X, h_2, h_3, h_4]) (by simp -implicitDefEqProofs [slices_Index_int_l0_X, h_2, h_3, h_4]), hR⟩
   ·replace H := HS.cnd_f h_4 H
    try simp -implicitDefEqProofs (maxSteps := 999999) [-selQ_sel, h_2, h_3, h_4]
    have hr := (HS.some H).symm; subst hr
    exact Hid.mk ⟨slices_Index_int_l0_S a0 a1 (IntKind.i64.wrap (x2 + 1)), Wk.ofk [] hk (by rfl) (by simp -implicitDefEqProofs [slices_Index_int_l0_S, h_2, h_3, h_4]) (by simp -implicitDefEqProofs [slices_Index_int_l0_S, h_2, h_3, h_4]), hR⟩
 ·rcases q with ⟨⟩ | y4
  ·dsimp only at H
   try simp -implicitDefEqProofs (maxSteps := 999999) [-selQ_sel, slices_Index_int_l0_X]
   have hr := (HS.some H).symm; subst hr
   refine Hid.mk ⟨_, Wk.refl _, ?_⟩
   try simp -implicitDefEqProofs (maxSteps := 999999) [-selQ_sel]
  ·dsimp only at H
   try simp -implicitDefEqProofs (maxSteps := 999999) [-selQ_sel, slices_Index_int_l0_X]
   have hr := (HS.some H).symm; subst hr
   refine Hid.mk ⟨_, Wk.refl _, ?_⟩
   try simp -implicitDefEqProofs (maxSteps := 999999) [-selQ_sel]
theorem laws_eqBox_ok0 (hm : Try.prog.follows .mixedOrders = true) : Sound Try.prog 79 laws_eqBox_x := by
 refine xOf_sound fun q r h => ?_
 obtain ⟨a0, a1⟩ := q
 refine fn_ok E0 hm Try.func79 rfl (by decide +kernel) (by rfl) fun Γ hn hk => ?_
 dsimp only [laws_eqBox_e, laws_eqBox_v]
 replace hn : Γ.n = 25 := hn
 replace hk : Γ.k = 0 := hk
 have H : HS (laws_eqBox a0 a1) r := h
 clear h; unfold laws_eqBox at H
 try simp -implicitDefEqProofs at H
 refine Tr.of_vc (cl := tabC []) (E := E0) [] tab_nil hm (by rw [hn]; decide +kernel) ?_
 try simp -implicitDefEqProofs (maxSteps := 999999) [-selQ_sel]
 refine Hid.brV (fun h_1 => ?_) (fun h_1 => ?_)
 ·replace H := HS.cnd_t h_1 H
  try simp -implicitDefEqProofs (maxSteps := 999999) [-selQ_sel, h_1]
  refine Hid.brV (fun h_2 => ?_) (fun h_2 => ?_)
  ·replace H := HS.cnd_t h_2 H
   try simp -implicitDefEqProofs (maxSteps := 999999) [-selQ_sel, h_1, h_2]
   refine Hid.brV (fun h_3 => ?_) (fun h_3 => ?_)
   ·replace H := HS.cnd_t h_3 H
    try simp -implicitDefEqProofs (maxSteps := 999999) [-selQ_sel, h_1, h_2, h_3]
    refine Hid.brV (fun h_4 => ?_) (fun h_4 => ?_)
    ·replace H := HS.cnd_t h_4 H
     try simp -implicitDefEqProofs (maxSteps := 999999) [-selQ_sel, h_1, h_2, h_3, h_4]
     have hr := (HS.some H).symm; subst hr
     refine Hid.mk ⟨_, Wk.refl _, ?_⟩
     try simp -implicitDefEqProofs (maxSteps := 999999) [-selQ_sel, h_1, h_2, h_3, h_4]
    ·replace H := HS.cnd_f h_4 H
     try simp -implicitDefEqProofs (maxSteps := 999999) [-selQ_sel, h_1, h_2, h_3, h_4]
     have hr := (HS.some H).symm; subst hr
     refine Hid.mk ⟨_, Wk.refl _, ?_⟩
     try simp -implicitDefEqProofs (maxSteps := 999999) [-selQ_sel, h_1, h_2, h_3, h_4]
   ·replace H := HS.cnd_f h_3 H
    try simp -implicitDefEqProofs (maxSteps := 999999) [-selQ_sel, h_1, h_2, h_3]
    have hr := (HS.some H).symm; subst hr
    refine Hid.mk ⟨_, Wk.refl _, ?_⟩
    try simp -implicitDefEqProofs (maxSteps := 999999) [-selQ_sel, h_1, h_2, h_3]
  ·replace H := HS.cnd_f h_2 H
   try simp -implicitDefEqProofs (maxSteps := 999999) [-selQ_sel, h_1, h_2]
   have hr := (HS.some H).symm; subst hr
   refine Hid.mk ⟨_, Wk.refl _, ?_⟩
   try simp -implicitDefEqProofs (maxSteps := 999999) [-selQ_sel, h_1, h_2]
 ·replace H := HS.cnd_f h_1 H
  try simp -implicitDefEqProofs (maxSteps := 999999) [-selQ_sel, h_1]
  have hr := (HS.some H).symm; subst hr
  refine Hid.mk ⟨_, Wk.refl _, ?_⟩
  try simp -implicitDefEqProofs (maxSteps := 999999) [-selQ_sel, h_1]
theorem laws_eqKept_ok0 (hm : Try.prog.follows .mixedOrders = true) (k_laws_eqMask : Sound Try.prog 28 laws_eqMask_x) : Sound Try.prog 120 laws_eqKept_x := by
 refine xOf_sound fun q r h => ?_
 obtain ⟨a0, a1⟩ := q
 refine fn_ok E0 hm Try.func120 rfl (by decide +kernel) (by rfl) fun Γ hn hk => ?_
 dsimp only [laws_eqKept_e, laws_eqKept_v]
 replace hn : Γ.n = 16 := hn
 replace hk : Γ.k = 0 := hk
 have H : HS (laws_eqKept a0 a1) r := h
 clear h; unfold laws_eqKept at H
 try simp -implicitDefEqProofs at H
 refine Tr.of_vc (cl := tabC [(28, laws_eqMask_x)]) (E := E0) [] (tab_cons k_laws_eqMask tab_nil) hm (by rw [hn]; decide +kernel) ?_
 try simp -implicitDefEqProofs (maxSteps := 999999) [-selQ_sel]
 refine Hid.brV (fun h_1 => ?_) (fun h_1 => ?_)
 ·replace H := HS.cnd_t h_1 H
  try simp -implicitDefEqProofs (maxSteps := 999999) [-selQ_sel, h_1]
  obtain ⟨v1, h_2, H⟩ := HS.bnd H
  try simp -implicitDefEqProofs (maxSteps := 999999) [-selQ_sel, h_1, h_2]
  refine Hid.brV (fun h_3 => ?_) (fun h_3 => ?_)
  ·replace H := HS.cnd_t h_3 H
   try simp -implicitDefEqProofs (maxSteps := 999999) [-selQ_sel, h_1, h_2, h_3]
   have hr := (HS.some H).symm; subst hr
   refine Hid.mk ⟨_, Wk.refl _, ?_⟩
   try simp -implicitDefEqProofs (maxSteps := 999999) [-selQ_sel, h_1, h_2, h_3]
  ·replace H := HS.cnd_f h_3 H
   try simp -implicitDefEqProofs (maxSteps := 999999) [-selQ_sel, h_1, h_2, h_3]
   have hr := (HS.some H).symm; subst hr
   refine Hid.mk ⟨_, Wk.refl _, ?_⟩
   try simp -implicitDefEqProofs (maxSteps := 999999) [-selQ_sel, h_1, h_2, h_3]
 ·replace H := HS.cnd_f h_1 H
  try simp -implicitDefEqProofs (maxSteps := 999999) [-selQ_sel, h_1]
  have hr := (HS.some H).symm; subst hr
  refine Hid.mk ⟨_, Wk.refl _, ?_⟩
  try simp -implicitDefEqProofs (maxSteps := 999999) [-selQ_sel, h_1]
theorem laws_toMask_ok0 (hm : Try.prog.follows .mixedOrders = true) (k_laws_toBox : Sound Try.prog 74 laws_toBox_x) (k_laws_toIntS : Sound Try.prog 17 laws_toIntS_x) : Sound Try.prog 26 laws_toMask_x := by
 refine xOf_sound fun q r h => ?_
 revert h; revert r; revert q; intro a0 r h
 refine fn_ok E0 hm Try.func26 rfl (by decide +kernel) (by rfl) fun Γ hn hk => ?_
 dsimp only [laws_toMask_e, laws_toMask_v]
 replace hn : Γ.n = 13 := hn
 replace hk : Γ.k = 0 := hk
 have H : HS (laws_toMask a0) r := h
 clear h; unfold laws_toMask at H
 try simp -implicitDefEqProofs at H
 refine Tr.of_vc (cl := tabC [(74, laws_toBox_x), (17, laws_toIntS_x)]) (E := E0) [] (tab_cons k_laws_toBox (tab_cons k_laws_toIntS tab_nil)) hm (by rw [hn]; decide +kernel) ?_
 try simp -implicitDefEqProofs (maxSteps := 999999) [-selQ_sel]
 obtain ⟨v1, h_1, H⟩ := HS.bnd H
 try simp -implicitDefEqProofs (maxSteps := 999999) [-selQ_sel, h_1]
 obtain ⟨v2, h_2, H⟩ := HS.bnd H
 try simp -implicitDefEqProofs (maxSteps := 999999) [-selQ_sel, h_1, h_2]
 have hr := (HS.some H).symm; subst hr
 refine Hid.mk ⟨⟨[(2, AV.optr 0 0 5)], [(0, Ob.box [AV.int .i64 v1.x0, AV.int .i64 v1.y0, AV.int .i64 v1.x1, AV.int .i64 v1.y1, AV.osl 1 0 (List.length v2) (List.length v2)]), (1, Ob.arr 1 (List.map (AV.int .i64) v2) false)], 2⟩, Wk.ofk [1, 3] hk (by rfl) (by simp -implicitDefEqProofs [h_1, h_2]) (by simp -implicitDefEqProofs [h_1, h_2]), ?_⟩
 try simp -implicitDefEqProofs (maxSteps := 999999) [-selQ_sel, h_1, h_2]
theorem laws_szKept_ok0 (hm : Try.prog.follows .mixedOrders = true) (k_laws_szMask : Sound Try.prog 24 laws_szMask_x) : Sound Try.prog 116 laws_szKept_x := by
 refine xOf_sound fun q r h => ?_
 obtain ⟨a0, a1⟩ := q
 refine fn_ok E0 hm Try.func116 rfl (by decide +kernel) (by rfl) fun Γ hn hk => ?_
 dsimp only [laws_szKept_e, laws_szKept_v]
 replace hn : Γ.n = 12 := hn
 replace hk : Γ.k = 0 := hk
 have H : HS (laws_szKept a0 a1) r := h
 clear h; unfold laws_szKept at H
 try simp -implicitDefEqProofs at H
 refine Tr.of_vc (cl := tabC [(24, laws_szMask_x)]) (E := E0) [] (tab_cons k_laws_szMask tab_nil) hm (by rw [hn]; decide +kernel) ?_
 try simp -implicitDefEqProofs (maxSteps := 999999) [-selQ_sel]
 obtain ⟨v1, h_1, H⟩ := HS.bnd H
 try simp -implicitDefEqProofs (maxSteps := 999999) [-selQ_sel, h_1]
 refine Hid.brV (fun h_2 => ?_) (fun h_2 => ?_)
 ·replace H := HS.cnd_t h_2 H
  try simp -implicitDefEqProofs (maxSteps := 999999) [-selQ_sel, h_1, h_2]
  have hr := (HS.some H).symm; subst hr
  refine Hid.mk ⟨_, Wk.refl _, ?_⟩
  try simp -implicitDefEqProofs (maxSteps := 999999) [-selQ_sel, h_1, h_2]
 ·replace H := HS.cnd_f h_2 H
  try simp -implicitDefEqProofs (maxSteps := 999999) [-selQ_sel, h_1, h_2]
  have hr := (HS.some H).symm; subst hr
  refine Hid.mk ⟨_, Wk.refl _, ?_⟩
  try simp -implicitDefEqProofs (maxSteps := 999999) [-selQ_sel, h_1, h_2]
theorem laws_toKept_ok0 (hm : Try.prog.follows .mixedOrders = true) (k_laws_toMask : Sound Try.prog 26 laws_toMask_x) : Sound Try.prog 117 laws_toKept_x := by
 refine xOf_sound fun q r h => ?_
 revert h; revert r; revert q; intro a0 r h
 refine fn_ok E0 hm Try.func117 rfl (by decide +kernel) (by rfl) fun Γ hn hk => ?_
 dsimp only [laws_toKept_e, laws_toKept_v]
 replace hn : Γ.n = 12 := hn
 replace hk : Γ.k = 0 := hk
 have H : HS (laws_toKept a0) r := h
 clear h; unfold laws_toKept at H
 try simp -implicitDefEqProofs at H
 refine Tr.of_vc (cl := tabC [(26, laws_toMask_x)]) (E := E0) [] (tab_cons k_laws_toMask tab_nil) hm (by rw [hn]; decide +kernel) ?_
 try simp -implicitDefEqProofs (maxSteps := 999999) [-selQ_sel]
 obtain ⟨⟨w2, w3⟩, h_1, H⟩ := HS.bnd H
 dsimp only at H
 try simp -implicitDefEqProofs (maxSteps := 999999) [-selQ_sel, h_1]
 have hr := (HS.some H).symm; subst hr
 refine Hid.mk ⟨⟨[(2, AV.optr 0 0 6)], [(0, Ob.box [AV.int .i64 a0.id, AV.int .i64 w2.x0, AV.int .i64 w2.y0, AV.int .i64 w2.x1, AV.int .i64 w2.y1, AV.osl 1 0 (List.length w3) (List.length w3)]), (1, Ob.arr 1 (List.map (AV.int .i64) w3) false)], 2⟩, Wk.ofk [1, 3] hk (by rfl) (by simp -implicitDefEqProofs [h_1]) (by simp -implicitDefEqProofs [h_1]), ?_⟩
 try simp -implicitDefEqProofs (maxSteps := 999999) [-selQ_sel, h_1]
theorem laws_markCache_ok0 (hm : Try.prog.follows .mixedOrders = true) (k_laws_markKeptS : Sound Try.prog 67 laws_markKeptS_x) : Sound Try.prog 21 laws_markCache_x := by
 refine xOf_sound fun q r h => ?_
 obtain ⟨a0, a1, a2⟩ := q
 refine fn_ok E0 hm Try.func21 rfl (by decide +kernel) (by rfl) fun Γ hn hk => ?_
 dsimp only [laws_markCache_e, laws_markCache_v]
 replace hn : Γ.n = 10 := hn
 replace hk : Γ.k = 1 := hk
 have H : HS (laws_markCache a0 a1 a2) r := h
 clear h; unfold laws_markCache at H
 try simp -implicitDefEqProofs at H
 refine Tr.of_vc (cl := tabC [(67, laws_markKeptS_x)]) (E := E0) [] (tab_cons k_laws_markKeptS tab_nil) hm (by rw [hn]; decide +kernel) ?_
 try simp -implicitDefEqProofs (maxSteps := 999999) [-selQ_sel]
 obtain ⟨⟨w2, w3⟩, h_1, H⟩ := HS.bnd H
 dsimp only at H
 have g_2 := laws_markKeptS_n h_1
 try simp -implicitDefEqProofs (maxSteps := 999999) [-selQ_sel, h_1, g_2]
 have hr := (HS.some H).symm; subst hr
 refine Hid.mk ⟨_, Wk.refl _, ?_⟩
 try simp -implicitDefEqProofs (maxSteps := 999999) [-selQ_sel, h_1, g_2]
theorem laws_toBox_ok0 (hm : Try.prog.follows .mixedOrders = true) : Sound Try.prog 74 laws_toBox_x := by
 refine xOf_sound fun q r h => ?_
 revert h; revert r; revert q; intro a0 r h
 refine fn_ok E0 hm Try.func74 rfl (by decide +kernel) (by rfl) fun Γ hn hk => ?_
 dsimp only [laws_toBox_e, laws_toBox_v]
 replace hn : Γ.n = 17 := hn
 replace hk : Γ.k = 0 := hk
 have H : HS (laws_toBox a0) r := h
 clear h; unfold laws_toBox at H
 try simp -implicitDefEqProofs at H
 refine Tr.of_vc (cl := tabC []) (E := E0) [] tab_nil hm (by rw [hn]; decide +kernel) ?_
 try simp -implicitDefEqProofs (maxSteps := 999999) [-selQ_sel]
 have hr := (HS.some H).symm; subst hr
 refine Hid.mk ⟨_, Wk.refl _, ?_⟩
 try simp -implicitDefEqProofs (maxSteps := 999999) [-selQ_sel]
end Go.Proofs.Ytapchldnmkfkoaa.Am
