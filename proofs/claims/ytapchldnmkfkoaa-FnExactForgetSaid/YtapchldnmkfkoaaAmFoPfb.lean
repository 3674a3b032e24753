import Derived.Test.YtapchldnmkfkoaaAmFoNa
set_option linter.unusedVariables false
set_option linter.unusedSimpArgs false
set_option linter.unusedSectionVars false
namespace Go.Proofs.Ytapchldnmkfkoaa.Am
open Go Go.Proofs
set_option maxRecDepth 100000
set_option linter.unusedSimpArgs false
set_option linter.unusedVariables false
set_option maxHeartbeats 4000000
theorem slices_DeleteFunc_Kept_Forget_1R_ok0 (hm : Try.prog.follows .mixedOrders = true) (k_slices_IndexFunc_Kept_Forget_1R : Sound Try.prog 118 slices_IndexFunc_Kept_Forget_1R_x) (k_impl_Forget_1R : Sound Try.prog 64 impl_Forget_1R_x) : Sound Try.prog 63 slices_DeleteFunc_Kept_Forget_1R_x := by
 refine xOf_sound fun q r h => ?_
 obtain ⟨a0, a1⟩ := q
 refine fn_ok E0 hm Try.func63 rfl (by decide +kernel) (by rfl) fun Γ hn hk => ?_
 dsimp only [slices_DeleteFunc_Kept_Forget_1R_e, slices_DeleteFunc_Kept_Forget_1R_v]
 replace hn : Γ.n = 42 := hn
 replace hk : Γ.k = 2 := hk
 have H : HS (slices_DeleteFunc_Kept_Forget_1R a0 a1) r := h
 clear h; unfold slices_DeleteFunc_Kept_Forget_1R at H
 try simp -implicitDefEqProofs at H
 refine Tr.of_vc (cl := tabC [(118, slices_IndexFunc_Kept_Forget_1R_x), (64, impl_Forget_1R_x)]) (E := E0) [] (tab_cons k_slices_IndexFunc_Kept_Forget_1R (tab_cons k_impl_Forget_1R tab_nil)) hm (by rw [hn]; decide +kernel) ?_
 try simp -implicitDefEqProofs (maxSteps := 999999) [-selQ_sel]
 obtain ⟨v1, h_1, H⟩ := HS.bnd H
 try simp -implicitDefEqProofs (maxSteps := 999999) [-selQ_sel, h_1]
 refine Hid.brV (fun h_2 => ?_) (fun h_2 => ?_)
 ·replace H := HS.cnd_t h_2 H
  try simp -implicitDefEqProofs (maxSteps := 999999) [-selQ_sel, h_1, h_2]
  have hr := (HS.some H).symm; subst hr
  refine Hid.mk ⟨⟨[(4, AV.osl 0 0 (List.length a0) (List.length a0))], [(0, Ob.arr 6 (List.map eKeptR a0) false), (1, Ob.box [AV.fsl (List.map (AV.int .i64) a1)])], 2⟩, Wk.ofk [0, 1] hk (by rfl) (by simp -implicitDefEqProofs [h_1, h_2]) (by simp -implicitDefEqProofs [h_1, h_2]), ?_⟩
  try simp -implicitDefEqProofs (maxSteps := 999999) [-selQ_sel, h_1, h_2]
 ·replace H := HS.cnd_f h_2 H
  try simp -implicitDefEqProofs (maxSteps := 999999) [-selQ_sel, h_1, h_2]
  obtain ⟨q, h_3, H⟩ := HS.bnd H
  refine Hid.mk (Tr.weak (s' := (slices_DeleteFunc_Kept_Forget_1R_l0_S a1) ((IntKind.i64.wrap (v1 + 1)), v1, a0)) (Wk.ofk [0, 1] hk (by rfl) (by simp -implicitDefEqProofs [slices_DeleteFunc_Kept_Forget_1R_l0_S, h_1, h_2]) (by simp -implicitDefEqProofs [slices_DeleteFunc_Kept_Forget_1R_l0_S, h_1, h_2])) ?_)
  refine wp_loop_of (S := (slices_DeleteFunc_Kept_Forget_1R_l0_S a1)) (f := (slices_DeleteFunc_Kept_Forget_1R_l0 a1)) (xt := (slices_DeleteFunc_Kept_Forget_1R_l0_X a1)) ?_ ?_ h_3 ?_
  ·intro q; rcases q with ⟨y13, y14⟩ <;> simp [slices_DeleteFunc_Kept_Forget_1R_l0_X]
  ·clear H h_3 q
   rintro ⟨x6, x7, x8⟩ o R hf hR
   have H : HS (slices_DeleteFunc_Kept_Forget_1R_l0 a1 (x6, x7, x8)) o := hf
   clear hf; unfold slices_DeleteFunc_Kept_Forget_1R_l0 at H
   try simp -implicitDefEqProofs at H
   refine Tr.of_vc (cl := tabC [(118, slices_IndexFunc_Kept_Forget_1R_x), (64, impl_Forget_1R_x)]) (E := E0) [] (tab_cons k_slices_IndexFunc_Kept_Forget_1R (tab_cons k_impl_Forget_1R tab_nil)) hm (by rw [hn]; decide +kernel) ?_
   try simp -implicitDefEqProofs (maxSteps := 999999) [-selQ_sel, slices_DeleteFunc_Kept_Forget_1R_l0_S]
   refine Hid.brV (fun h_4 => ?_) (fun h_4 => ?_)
   ·replace H := HS.cnd_t h_4 H
    try simp -implicitDefEqProofs (maxSteps := 999999) [-selQ_sel, h_4]
    have hr := (HS.some H).symm; subst hr
    exact Hid.mk ⟨(slices_DeleteFunc_Kept_Forget_1R_l0_X a1 (x8, x7)).2, Wk.ofk [0, 1] hk (by rfl) (by simp -implicitDefEqProofs [slices_DeleteFunc_Kept_Forget_1R_l0_X, h_4]) (by simp -implicitDefEqProofs [slices_DeleteFunc_Kept_Forget_1R_l0_X, h_4]), hR⟩
   ·replace H := HS.cnd_f h_4 H
    try simp -implicitDefEqProofs (maxSteps := 999999) [-selQ_sel, h_4]
    obtain ⟨v9, h_5, H⟩ := HS.bnd H
    have g_6 := idx_get h_5
    try simp -implicitDefEqProofs (maxSteps := 999999) [-selQ_sel, h_4, h_5, g_6]
    obtain ⟨v10, h_7, H⟩ := HS.bnd H
    try simp -implicitDefEqProofs (maxSteps := 999999) [-selQ_sel, h_4, h_5, g_6, h_7]
    refine Hid.brV (fun h_8 => ?_) (fun h_8 => ?_)
    ·replace H := HS.cnd_t h_8 H
     try simp -implicitDefEqProofs (maxSteps := 999999) [-selQ_sel, h_4, h_5, g_6, h_7, h_8]
     have hr := (HS.some H).symm; subst hr
     exact Hid.mk ⟨slices_DeleteFunc_Kept_Forget_1R_l0_S a1 ((IntKind.i64.wrap (x6 + 1)), x7, x8), Wk.ofk [0, 1] hk (by rfl) (by simp -implicitDefEqProofs [slices_DeleteFunc_Kept_Forget_1R_l0_S, h_4, h_5, g_6, h_7, h_8]) (by simp -implicitDefEqProofs [slices_DeleteFunc_Kept_Forget_1R_l0_S, h_4, h_5, g_6, h_7, h_8]), hR⟩
    ·replace H := HS.cnd_f h_8 H
     try simp -implicitDefEqProofs (maxSteps := 999999) [-selQ_sel, h_4, h_5, g_6, h_7, h_8]
     obtain ⟨v11, h_9, H⟩ := HS.bnd H
     have g_10 := idx_get h_9
     try simp -implicitDefEqProofs (maxSteps := 999999) [-selQ_sel, h_4, h_5, g_6, h_7, h_8, h_9, g_10]
     obtain ⟨l12, h_11, H⟩ := HS.nam H
     have m_12 := congrArg (List.map eKeptR) h_11
     have q_13 := congrArg List.length h_11
     simp -implicitDefEqProofs at m_12 q_13
     try simp only [q_13] at m_12
     try simp only [q_13] at g_10
     try simp -implicitDefEqProofs (maxSteps := 999999) [-selQ_sel, h_4, h_5, g_6, h_7, h_8, h_9, g_10, m_12, q_13]
     have hr := (HS.some H).symm; subst hr
     exact Hid.mk ⟨slices_DeleteFunc_Kept_Forget_1R_l0_S a1 ((IntKind.i64.wrap (x6 + 1)), (IntKind.i64.wrap (x7 + 1)), l12), Wk.ofk [0, 1] hk (by rfl) (by simp -implicitDefEqProofs [slices_DeleteFunc_Kept_Forget_1R_l0_S, h_4, h_5, g_6, h_7, h_8, h_9, g_10, m_12, q_13]) (by simp -implicitDefEqProofs [slices_DeleteFunc_Kept_Forget_1R_l0_S, h_4, h_5, g_6, h_7, h_8, h_9, g_10, m_12, q_13]), hR⟩
  ·obtain ⟨y13, y14⟩ := q
   try dsimp only at H
   try simp -implicitDefEqProofs (maxSteps := 999999) [-selQ_sel, h_1, h_2, slices_DeleteFunc_Kept_Forget_1R_l0_X]
   obtain ⟨v15, h_14, H⟩ := HS.bnd H
   have s_15 := (slc_spec h_14).1
   have s_16 := slc_fit h_14
   have s_17 := slc_map (e := eKeptR) h_14
   have s_18 := (slc_spec h_14).2.1
   simp -implicitDefEqProofs at s_15 s_16 s_17 s_18
   try simp only [s_18] at s_16 s_17
   try simp -implicitDefEqProofs (maxSteps := 999999) [-selQ_sel, h_1, h_2, h_14, s_15, s_16, s_17, s_18]
   obtain ⟨l16, h_19, H⟩ := HS.nam H
   have m_20 := congrArg (List.map eKeptR) h_19
   have q_21 := congrArg List.length h_19
   rw [clrL_len (by simp -implicitDefEqProofs [h_1, h_2, h_14, s_15, s_16, s_17, s_18])] at q_21
   simp -implicitDefEqProofs at m_20 q_21
   try simp only [q_21] at m_20
   try simp only [q_21] at s_18
   try simp only [q_21] at s_15
   try simp only [q_21] at s_16
   try simp only [q_21] at s_17
   try simp -implicitDefEqProofs (maxSteps := 999999) [-selQ_sel, h_1, h_2, h_14, s_15, s_16, s_17, s_18, m_20, q_21]
   obtain ⟨v17, h_22, H⟩ := HS.bnd H
   have s_23 := (slc_spec h_22).1
   have s_24 := slc_fit h_22
   have s_25 := slc_map (e := eKeptR) h_22
   have s_26 := (slc_spec h_22).2.1
   simp -implicitDefEqProofs at s_23 s_24 s_25 s_26
   try simp only [s_26] at s_24 s_25
   try simp -implicitDefEqProofs (maxSteps := 999999) [-selQ_sel, h_1, h_2, h_14, s_15, s_16, s_17, s_18, m_20, q_21, h_22, s_23, s_24, s_25, s_26]
   have hr := (HS.some H).symm; subst hr
   refine Hid.mk ⟨⟨[(4, AV.osl 0 0 (List.length v17) (List.length l16))], [(0, Ob.arr 6 (List.map eKeptR l16) false), (1, Ob.box [AV.fsl (List.map (AV.int .i64) a1)])], 2⟩, Wk.ofk [0, 1] hk (by rfl) (by simp -implicitDefEqProofs [h_1, h_2, h_14, s_15, s_16, s_17, s_18, m_20, q_21, h_22, s_23, s_24, s_25, s_26]) (by simp -implicitDefEqProofs [h_1, h_2, h_14, s_15, s_16, s_17, s_18, m_20, q_21, h_22, s_23, s_24, s_25, s_26]), ?_⟩
   try simp -implicitDefEqProofs (maxSteps := 999999) [-selQ_sel, h_1, h_2, h_14, s_15, s_16, s_17, s_18, m_20, q_21, h_22, s_23, s_24, s_25, s_26]
theorem laws_eqKeptS_ok0 (hm : Try.prog.follows .mixedOrders = true) (k_laws_eqKept : Sound Try.prog 120 laws_eqKept_x) : Sound Try.prog 66 laws_eqKeptS_x := by
 refine xOf_sound fun q r h => ?_
 obtain ⟨a0, a1⟩ := q
 refine fn_ok E0 hm Try.func66 rfl (by decide +kernel) (by rfl) fun Γ hn hk => ?_
 dsimp only [laws_eqKeptS_e, laws_eqKeptS_v]
 replace hn : Γ.n = 27 := hn
 replace hk : Γ.k = 0 := hk
 have H : HS (laws_eqKeptS a0 a1) r := h
 clear h; unfold laws_eqKeptS at H
 try simp -implicitDefEqProofs at H
 refine Tr.of_vc (cl := tabC [(120, laws_eqKept_x)]) (E := E0) [] (tab_cons k_laws_eqKept tab_nil) hm (by rw [hn]; decide +kernel) ?_
 try simp -implicitDefEqProofs +decide (maxSteps := 999999) [-selQ_sel, hokQ_of]
 refine Hid.brV (fun h_1 => ?_) (fun h_1 => ?_)
 ·replace H := HS.cnd_t h_1 H
  try simp -implicitDefEqProofs +decide (maxSteps := 999999) [-selQ_sel, hokQ_of, h_1]
  obtain ⟨q, h_2, H⟩ := HS.bnd H
  refine Hid.mk (Tr.weak (s' := (laws_eqKeptS_l0_S a0 a1) 0) (Wk.ofk [] hk (by rfl) (by simp -implicitDefEqProofs [laws_eqKeptS_l0_S, h_1]) (by simp -implicitDefEqProofs [laws_eqKeptS_l0_S, h_1])) ?_)
  refine wp_loop_of (S := (laws_eqKeptS_l0_S a0 a1)) (f := (laws_eqKeptS_l0 a0 a1)) (xt := (laws_eqKeptS_l0_X a0 a1)) ?_ ?_ h_2 ?_
  ·intro q; rcases q with ⟨⟩ | ⟨⟩ <;> simp [laws_eqKeptS_l0_X]
  ·clear H h_2 q
   rintro x4 o R hf hR
   have H : HS (laws_eqKeptS_l0 a0 a1 x4) o := hf
   clear hf; unfold laws_eqKeptS_l0 at H
   try simp -implicitDefEqProofs at H
   refine Tr.of_vc (cl := tabC [(120, laws_eqKept_x)]) (E := E0) [] (tab_cons k_laws_eqKept tab_nil) hm (by rw [hn]; decide +kernel) ?_
   try simp -implicitDefEqProofs +decide (maxSteps := 999999) [-selQ_sel, hokQ_of, laws_eqKeptS_l0_S]
   refine Hid.brV (fun h_3 => ?_) (fun h_3 => ?_)
   ·replace H := HS.cnd_t h_3 H
    try simp -implicitDefEqProofs +decide (maxSteps := 999999) [-selQ_sel, hokQ_of, h_3]
    have hr := (HS.some H).symm; subst hr
    exact Hid.mk ⟨(laws_eqKeptS_l0_X a0 a1 (.inl ())).2, Wk.ofk [] hk (by rfl) (by simp -implicitDefEqProofs [laws_eqKeptS_l0_X, h_3]) (by simp -implicitDefEqProofs [laws_eqKeptS_l0_X, h_3]), hR⟩
   ·replace H := HS.cnd_f h_3 H
    try simp -implicitDefEqProofs +decide (maxSteps := 999999) [-selQ_sel, hokQ_of, h_3]
    obtain ⟨v5, h_4, H⟩ := HS.bnd H
    try simp -implicitDefEqProofs +decide (maxSteps := 999999) [-selQ_sel, hokQ_of, h_3, h_4]
    obtain ⟨v6, h_5, H⟩ := HS.bnd H
    try simp -implicitDefEqProofs +decide (maxSteps := 999999) [-selQ_sel, hokQ_of, h_3, h_4, h_5]
    obtain ⟨v7, h_6, H⟩ := HS.bnd H
    try simp -implicitDefEqProofs +decide (maxSteps := 999999) [-selQ_sel, hokQ_of, h_3, h_4, h_5, h_6]
    refine Hid.brV (fun h_7 => ?_) (fun h_7 => ?_)
    ·replace H := HS.cnd_t h_7 H
     try simp -implicitDefEqProofs +decide (maxSteps := 999999) [-selQ_sel, hokQ_of, h_3, h_4, h_5, h_6, h_7]
     have hr := (HS.some H).symm; subst hr
     exact Hid.mk ⟨laws_eqKeptS_l0_S a0 a1 (IntKind.i64.wrap (x4 + 1)), Wk.ofk [] hk (by rfl) (by simp -implicitDefEqProofs [laws_eqKeptS_l0_S, h_3, h_4, h_5, h_6, h_7]) (by simp -implicitDefEqProofs [laws_eqKeptS_l0_S, h_3, h_4, h_5, h_6, h_7]), hR⟩
    ·replace H := HS.cnd_f h_7 H
     try simp -implicitDefEqProofs +decide (maxSteps := 999999) [-selQ_sel, hokQ_of, h_3, h_4, h_5, h_6, h_7]
     have hr := (HS.some H).symm; subst hr
     exact Hid.mk ⟨(laws_eqKeptS_l0_X a0 a1 (.inr ())).2, Wk.ofk [] hk (by rfl) (by simp -implicitDefEqProofs [laws_eqKeptS_l0_X, h_3, h_4, h_5, h_6, h_7]) (by simp -implicitDefEqProofs [laws_eqKeptS_l0_X, h_3, h_4, h_5, h_6, h_7]), hR⟩
  ·rcases q with ⟨⟩ | ⟨⟩
   ·dsimp only at H
    try simp -implicitDefEqProofs +decide (maxSteps := 999999) [-selQ_sel, hokQ_of, h_1, laws_eqKeptS_l0_X]
    have hr := (HS.some H).symm; subst hr
    refine Hid.mk ⟨_, Wk.refl _, ?_⟩
    try simp -implicitDefEqProofs +decide (maxSteps := 999999) [-selQ_sel, hokQ_of, h_1]
   ·dsimp only at H
    try simp -implicitDefEqProofs +decide (maxSteps := 999999) [-selQ_sel, hokQ_of, h_1, laws_eqKeptS_l0_X]
    have hr := (HS.some H).symm; subst hr
    refine Hid.mk ⟨_, Wk.refl _, ?_⟩
    try simp -implicitDefEqProofs +decide (maxSteps := 999999) [-selQ_sel, hokQ_of, h_1]
 ·replace H := HS.cnd_f h_1 H
  try simp -implicitDefEqProofs +decide (maxSteps := 999999) [-selQ_sel, hokQ_of, h_1]
  have hr := (HS.some H).symm; subst hr
  refine Hid.mk ⟨_, Wk.refl _, ?_⟩
  try simp -implicitDefEqProofs +decide (maxSteps := 999999) [-selQ_sel, hokQ_of, h_1]
theorem laws_szKeptS_ok0 (hm : Try.prog.follows .mixedOrders = true) (k_laws_szKept : Sound Try.prog 116 laws_szKept_x) : Sound Try.prog 59 laws_szKeptS_x := by
 refine xOf_sound fun q r h => ?_
 obtain ⟨a0, a1⟩ := q
 refine fn_ok E0 hm Try.func59 rfl (by decide +kernel) (by rfl) fun Γ hn hk => ?_
 dsimp only [laws_szKeptS_e, laws_szKeptS_v]
 replace hn : Γ.n = 27 := hn
 replace hk : Γ.k = 0 := hk
 have H : HS (laws_szKeptS a0 a1) r := h
 clear h; unfold laws_szKeptS at H
 try simp -implicitDefEqProofs at H
 refine Tr.of_vc (cl := tabC [(116, laws_szKept_x)]) (E := E0) [] (tab_cons k_laws_szKept tab_nil) hm (by rw [hn]; decide +kernel) ?_
 try simp -implicitDefEqProofs (maxSteps := 999999) [-selQ_sel]
 refine Hid.brV (fun h_1 => ?_) (fun h_1 => ?_)
 ·replace H := HS.cnd_t h_1 H
  try simp -implicitDefEqProofs (maxSteps := 999999) [-selQ_sel, h_1]
  obtain ⟨q, h_2, H⟩ := HS.bnd H
  refine Hid.mk (Tr.weak (s' := (laws_szKeptS_l0_S a0) ((IntKind.i64.wrap (a1 - (List.length a0 : Int))), 0)) (Wk.ofk [] hk (by rfl) (by simp -implicitDefEqProofs [laws_szKeptS_l0_S, h_1]) (by simp -implicitDefEqProofs [laws_szKeptS_l0_S, h_1])) ?_)
  refine wp_loop_of (S := (laws_szKeptS_l0_S a0)) (f := (laws_szKeptS_l0 a0)) (xt := (laws_szKeptS_l0_X a0)) ?_ ?_ h_2 ?_
  ·intro q; rcases q with y7 | ⟨⟩ <;> simp [laws_szKeptS_l0_X]
  ·clear H h_2 q
   rintro ⟨x3, x4⟩ o R hf hR
   have H : HS (laws_szKeptS_l0 a0 (x3, x4)) o := hf
   clear hf; unfold laws_szKeptS_l0 at H
   try simp -implicitDefEqProofs at H
   refine Tr.of_vc (cl := tabC [(116, laws_szKept_x)]) (E := E0) [] (tab_cons k_laws_szKept tab_nil) hm (by rw [hn]; decide +kernel) ?_
   try simp -implicitDefEqProofs (maxSteps := 999999) [-selQ_sel, laws_szKeptS_l0_S]
   refine Hid.brV (fun h_3 => ?_) (fun h_3 => ?_)
   ·replace H := HS.cnd_t h_3 H
    try simp -implicitDefEqProofs (maxSteps := 999999) [-selQ_sel, h_3]
    have hr := (HS.some H).symm; subst hr
    exact Hid.mk ⟨(laws_szKeptS_l0_X a0 (.inl x3)).2, Wk.ofk [] hk (by rfl) (by simp -implicitDefEqProofs [laws_szKeptS_l0_X, h_3]) (by simp -implicitDefEqProofs [laws_szKeptS_l0_X, h_3]), hR⟩
   ·replace H := HS.cnd_f h_3 H
    try simp -implicitDefEqProofs (maxSteps := 999999) [-selQ_sel, h_3]
    obtain ⟨v5, h_4, H⟩ := HS.bnd H
    try simp -implicitDefEqProofs (maxSteps := 999999) [-selQ_sel, h_3, h_4]
    obtain ⟨v6, h_5, H⟩ := HS.bnd H
    try simp -implicitDefEqProofs (maxSteps := 999999) [-selQ_sel, h_3, h_4, h_5]
    refine Hid.brV (fun h_6 => ?_) (fun h_6 => ?_)
    ·replace H := HS.cnd_t h_6 H
     try simp -implicitDefEqProofs (maxSteps := 999999) [-selQ_sel, h_3, h_4, h_5, h_6]
     have hr := (HS.some H).symm; subst hr
     exact Hid.mk ⟨laws_szKeptS_l0_S a0 (v6, (IntKind.i64.wrap (x4 + 1))), Wk.ofk [] hk (by rfl) (by simp -implicitDefEqProofs [laws_szKeptS_l0_S, h_3, h_4, h_5, h_6]) (by simp -implicitDefEqProofs [laws_szKeptS_l0_S, h_3, h_4, h_5, h_6]), hR⟩
    ·replace H := HS.cnd_f h_6 H
     try simp -implicitDefEqProofs (maxSteps := 999999) [-selQ_sel, h_3, h_4, h_5, h_6]
     have hr := (HS.some H).symm; subst hr
     exact Hid.mk ⟨(laws_szKeptS_l0_X a0 (.inr ())).2, Wk.ofk [] hk (by rfl) (by simp -implicitDefEqProofs [laws_szKeptS_l0_X, h_3, h_4, h_5, h_6]) (by simp -implicitDefEqProofs [laws_szKeptS_l0_X, h_3, h_4, h_5, h_6]), hR⟩
  ·rcases q with y7 | ⟨⟩
   ·dsimp only at H
    try simp -implicitDefEqProofs (maxSteps := 999999) [-selQ_sel, h_1, laws_szKeptS_l0_X]
    have hr := (HS.some H).symm; subst hr
    refine Hid.mk ⟨_, Wk.refl _, ?_⟩
    try simp -implicitDefEqProofs (maxSteps := 999999) [-selQ_sel, h_1]
   ·dsimp only at H
    try simp -implicitDefEqProofs (maxSteps := 999999) [-selQ_sel, h_1, laws_szKeptS_l0_X]
    have hr := (HS.some H).symm; subst hr
    refine Hid.mk ⟨_, Wk.refl _, ?_⟩
    try simp -implicitDefEqProofs (maxSteps := 999999) [-selQ_sel, h_1]
 ·replace H := HS.cnd_f h_1 H
  try simp -implicitDefEqProofs (maxSteps := 999999) [-selQ_sel, h_1]
  have hr := (HS.some H).symm; subst hr
  refine Hid.mk ⟨_, Wk.refl _, ?_⟩
  try simp -implicitDefEqProofs (maxSteps := 999999) [-selQ_sel, h_1]
theorem impl_copyCache_ok0 (hm : Try.prog.follows .mixedOrders = true) (k_impl_copyMask : Sound Try.prog 78 impl_copyMask_x) : Sound Try.prog 62 impl_copyCache_x := by
 refine xOf_sound fun q r h => ?_
 revert h; revert r; revert q; intro a0 r h
 refine fn_ok E0 hm Try.func62 rfl (by decide +kernel) (by rfl) fun Γ hn hk => ?_
 dsimp only [impl_copyCache_e, impl_copyCache_v]
 replace hn : Γ.n = 29 := hn
 replace hk : Γ.k = 0 := hk
 have H : HS (impl_copyCache a0) r := h
 clear h; unfold impl_copyCache at H
 try simp -implicitDefEqProofs at H
 refine Tr.of_vc (cl := tabC [(78, impl_copyMask_x)]) (E := E0) [] (tab_cons k_impl_copyMask tab_nil) hm (by rw [hn]; decide +kernel) ?_
 try simp -implicitDefEqProofs +decide (maxSteps := 999999) [-selQ_sel, hokQ_of]
 obtain ⟨q, h_1, H⟩ := HS.bnd H
 refine Hid.mk (Tr.weak (s' := (impl_copyCache_l0_S a0) (0, [])) (Wk.ofk [1, 2, 3] hk (by rfl) (by simp -implicitDefEqProofs [impl_copyCache_l0_S]) (by simp -implicitDefEqProofs [impl_copyCache_l0_S])) ?_)
 refine wp_loop_of (S := (impl_copyCache_l0_S a0)) (f := (impl_copyCache_l0 a0)) (xt := (impl_copyCache_l0_X a0)) ?_ ?_ h_1 ?_
 ·intro q; simp [impl_copyCache_l0_X]
 ·clear H h_1 q
  rintro ⟨x5, x6⟩ o R hf hR
  have H : HS (impl_copyCache_l0 a0 (x5, x6)) o := hf
  clear hf; unfold impl_copyCache_l0 at H
  try simp -implicitDefEqProofs at H
  refine Tr.of_vc (cl := tabC [(78, impl_copyMask_x)]) (E := E0) [] (tab_cons k_impl_copyMask tab_nil) hm (by rw [hn]; decide +kernel) ?_
  try simp -implicitDefEqProofs +decide (maxSteps := 999999) [-selQ_sel, hokQ_of, impl_copyCache_l0_S]
  refine Hid.brV (fun h_2 => ?_) (fun h_2 => ?_)
  ·replace H := HS.cnd_t h_2 H
   try simp -implicitDefEqProofs +decide (maxSteps := 999999) [-selQ_sel, hokQ_of, h_2]
   have hr := (HS.some H).symm; subst hr
   exact Hid.mk ⟨(impl_copyCache_l0_X a0 x6).2, Wk.ofk [0, 1, 2] hk (by rfl) (by simp -implicitDefEqProofs [impl_copyCache_l0_X, h_2]) (by simp -implicitDefEqProofs [impl_copyCache_l0_X, h_2]), hR⟩
  ·replace H := HS.cnd_f h_2 H
   try simp -implicitDefEqProofs +decide (maxSteps := 999999) [-selQ_sel, hokQ_of, h_2]
   obtain ⟨v7, h_3, H⟩ := HS.bnd H
   try simp -implicitDefEqProofs +decide (maxSteps := 999999) [-selQ_sel, hokQ_of, h_2, h_3]
   obtain ⟨⟨w9, w10⟩, h_4, H⟩ := HS.bnd H
   dsimp only at H
   try simp -implicitDefEqProofs +decide (maxSteps := 999999) [-selQ_sel, hokQ_of, h_2, h_3, h_4]
   obtain ⟨h_5, H⟩ := HS.chkP H
   try simp -implicitDefEqProofs +decide (maxSteps := 999999) [-selQ_sel, hokQ_of, h_2, h_3, h_4, h_5]
   have hr := (HS.some H).symm; subst hr
   exact Hid.mk ⟨impl_copyCache_l0_S a0 ((IntKind.i64.wrap (x5 + 1)), (x6 ++ [(TKept.mk v7.id (TMask.mk w9 w10))])), Wk.trans (Wk.abs (id := 2) (j := 4) (js := []) (by rfl) (by rfl) (by decide) (by simp -implicitDefEqProofs [impl_copyCache_l0_S, h_2, h_3, h_4, h_5]) (by rfl) (by simp -implicitDefEqProofs [impl_copyCache_l0_S, h_2, h_3, h_4, h_5]) (by simp -implicitDefEqProofs [impl_copyCache_l0_S, h_2, h_3, h_4, h_5])) (Wk.ofk [0, 1, 2] hk (by rfl) (by simp -implicitDefEqProofs [impl_copyCache_l0_S, h_2, h_3, h_4, h_5]) (by simp -implicitDefEqProofs [impl_copyCache_l0_S, h_2, h_3, h_4, h_5])), hR⟩
 ·revert H h_1; revert q; intro y11 h_1 H
  try dsimp only at H
  try simp -implicitDefEqProofs +decide (maxSteps := 999999) [-selQ_sel, hokQ_of, impl_copyCache_l0_X]
  have hr := (HS.some H).symm; subst hr
  refine Hid.mk ⟨⟨[(2, AV.optr 0 0 2)], [(0, Ob.box [AV.int .i64 a0.most, AV.osl 1 0 (List.length y11) (List.length y11)]), (1, Ob.nar 6 (List.map eKept y11) [0, 0, 0, 0, 0, 1])], 2⟩, Wk.ofk [0, 2] hk (by rfl) (by simp -implicitDefEqProofs []) (by simp -implicitDefEqProofs []), ?_⟩
  try simp -implicitDefEqProofs +decide (maxSteps := 999999) [-selQ_sel, hokQ_of]
theorem laws_toIntS_ok0 (hm : Try.prog.follows .mixedOrders = true) : Sound Try.prog 17 laws_toIntS_x := by
 refine xOf_sound fun q r h => ?_
 revert h; revert r; revert q; intro a0 r h
 refine fn_ok E0 hm Try.func17 rfl (by decide +kernel) (by rfl) fun Γ hn hk => ?_
 dsimp only [laws_toIntS_e, laws_toIntS_v]
 replace hn : Γ.n = 22 := hn
 replace hk : Γ.k = 0 := hk
 have H : HS (laws_toIntS a0) r := h
 clear h; unfold laws_toIntS at H
 try simp -implicitDefEqProofs at H
 refine Tr.of_vc (cl := tabC []) (E := E0) [] tab_nil hm (by rw [hn]; decide +kernel) ?_
 try simp -implicitDefEqProofs (maxSteps := 999999) [-selQ_sel]
 obtain ⟨h_1, H⟩ := HS.chkP H
 try simp -implicitDefEqProofs (maxSteps := 999999) [-selQ_sel, h_1]
 obtain ⟨l1, h_2, H⟩ := HS.nam H
 have m_3 := congrArg (List.map (AV.int .i64)) h_2
 have q_4 := congrArg List.length h_2
 simp -implicitDefEqProofs at m_3 q_4
 try simp only [q_4] at m_3
 try simp only [q_4] at h_1
 try simp -implicitDefEqProofs (maxSteps := 999999) [-selQ_sel, h_1, m_3, q_4]
 obtain ⟨q, h_5, H⟩ := HS.bnd H
 refine Hid.mk (Tr.weak (s' := (laws_toIntS_l0_S a0) (0, l1)) (Wk.ofk [0] hk (by rfl) (by simp -implicitDefEqProofs [laws_toIntS_l0_S, h_1, m_3, q_4]) (by simp -implicitDefEqProofs [laws_toIntS_l0_S, h_1, m_3, q_4])) ?_)
 refine wp_loop_of (S := (laws_toIntS_l0_S a0)) (f := (laws_toIntS_l0 a0)) (xt := (laws_toIntS_l0_X a0)) ?_ ?_ h_5 ?_
 ·intro q; simp [laws_toIntS_l0_X]
 ·clear H h_5 q
  rintro ⟨x5, x6⟩ o R hf hR
  have H : HS (laws_toIntS_l0 a0 (x5, x6)) o := hf
  clear hf; unfold laws_toIntS_l0 at H
  try simp -implicitDefEqProofs at H
  refine Tr.of_vc (cl := tabC []) (E := E0) [] tab_nil hm (by rw [hn]; decide +kernel) ?_
  try simp -implicitDefEqProofs (maxSteps := 999999) [-selQ_sel, laws_toIntS_l0_S]
  refine Hid.brV (fun h_6 => ?_) (fun h_6 => ?_)
  ·replace H := HS.cnd_t h_6 H
   try simp -implicitDefEqProofs (maxSteps := 999999) [-selQ_sel, h_6]
   have hr := (HS.some H).symm; subst hr
   exact Hid.mk ⟨(laws_toIntS_l0_X a0 x6).2, Wk.ofk [0] hk (by rfl) (by simp -implicitDefEqProofs [laws_toIntS_l0_X, h_6]) (by simp -implicitDefEqProofs [laws_toIntS_l0_X, h_6]), hR⟩
  ·replace H := HS.cnd_f h_6 H
   try simp -implicitDefEqProofs (maxSteps := 999999) [-selQ_sel, h_6]
   obtain ⟨v7, h_7, H⟩ := HS.bnd H
   try simp -implicitDefEqProofs (maxSteps := 999999) [-selQ_sel, h_6, h_7]
   obtain ⟨v8, h_8, H⟩ := HS.bnd H
   have g_9 := idx_get h_8
   try simp -implicitDefEqProofs (maxSteps := 999999) [-selQ_sel, h_6, h_7, h_8, g_9]
   obtain ⟨l9, h_10, H⟩ := HS.nam H
   have m_11 := congrArg (List.map (AV.int .i64)) h_10
   have q_12 := congrArg List.length h_10
   simp -implicitDefEqProofs at m_11 q_12
   try simp only [q_12] at m_11
   try simp only [q_12] at g_9
   try simp -implicitDefEqProofs (maxSteps := 999999) [-selQ_sel, h_6, h_7, h_8, g_9, m_11, q_12]
   have hr := (HS.some H).symm; subst hr
   exact Hid.mk ⟨laws_toIntS_l0_S a0 ((IntKind.i64.wrap (x5 + 1)), l9), Wk.ofk [0] hk (by rfl) (by simp -implicitDefEqProofs [laws_toIntS_l0_S, h_6, h_7, h_8, g_9, m_11, q_12]) (by simp -implicitDefEqProofs [laws_toIntS_l0_S, h_6, h_7, h_8, g_9, m_11, q_12]), hR⟩
 ·revert H h_5; revert q; intro y10 h_5 H
  try dsimp only at H
  try simp -implicitDefEqProofs (maxSteps := 999999) [-selQ_sel, h_1, m_3, q_4, laws_toIntS_l0_X]
  have hr := (HS.some H).symm; subst hr
  refine Hid.mk ⟨⟨[(2, AV.osl 0 0 (List.length y10) (List.length y10))], [(0, Ob.arr 1 (List.map (AV.int .i64) y10) false)], 1⟩, Wk.ofk [0] hk (by rfl) (by simp -implicitDefEqProofs [h_1, m_3, q_4]) (by simp -implicitDefEqProofs [h_1, m_3, q_4]), ?_⟩
  try simp -implicitDefEqProofs (maxSteps := 999999) [-selQ_sel, h_1, m_3, q_4]
theorem laws_heldIntS_ok0 (hm : Try.prog.follows .mixedOrders = true) : Sound Try.prog 82 laws_heldIntS_x := by
 refine xOf_sound fun q r h => ?_
 obtain ⟨a0, a1⟩ := q
 refine fn_ok E0 hm Try.func82 rfl (by decide +kernel) (by rfl) fun Γ hn hk => ?_
 dsimp only [laws_heldIntS_e, laws_heldIntS_v]
 replace hn : Γ.n = 21 := hn
 replace hk : Γ.k = 0 := hk
 have H : HS (laws_heldIntS a0 a1) r := h
 clear h; unfold laws_heldIntS at H
 try simp -implicitDefEqProofs at H
 refine Tr.of_vc (cl := tabC []) (E := E0) [] tab_nil hm (by rw [hn]; decide +kernel) ?_
 try simp -implicitDefEqProofs (maxSteps := 999999) [-selQ_sel]
 obtain ⟨q, h_1, H⟩ := HS.bnd H
 refine Hid.mk (Tr.weak (s' := (laws_heldIntS_l0_S a0) (a1, 0)) (Wk.ofk [] hk (by rfl) (by simp -implicitDefEqProofs [laws_heldIntS_l0_S]) (by simp -implicitDefEqProofs [laws_heldIntS_l0_S])) ?_)
 refine wp_loop_of (S := (laws_heldIntS_l0_S a0)) (f := (laws_heldIntS_l0 a0)) (xt := (laws_heldIntS_l0_X a0)) ?_ ?_ h_1 ?_
 ·intro q; rcases q with y5 | ⟨⟩ <;> simp [laws_heldIntS_l0_X]
 ·clear H h_1 q
  rintro ⟨x2, x3⟩ o R hf hR
  have H : HS (laws_heldIntS_l0 a0 (x2, x3)) o := hf
  clear hf; unfold laws_heldIntS_l0 at H
  try simp -implicitDefEqProofs at H
  refine Tr.of_vc (cl := tabC []) (E := E0) [] tab_nil hm (by rw [hn]; decide +kernel) ?_
  try simp -implicitDefEqProofs (maxSteps := 999999) [-selQ_sel, laws_heldIntS_l0_S]
  refine Hid.brV (fun h_2 => ?_) (fun h_2 => ?_)
  ·replace H := HS.cnd_t h_2 H
   try simp -implicitDefEqProofs (maxSteps := 999999) [-selQ_sel, h_2]
   have hr := (HS.some H).symm; subst hr
   exact Hid.mk ⟨(laws_heldIntS_l0_X a0 (.inl x2)).2, Wk.ofk [] hk (by rfl) (by simp -implicitDefEqProofs [laws_heldIntS_l0_X, h_2]) (by simp -implicitDefEqProofs [laws_heldIntS_l0_X, h_2]), hR⟩
  ·replace H := HS.cnd_f h_2 H
   try simp -implicitDefEqProofs (maxSteps := 999999) [-selQ_sel, h_2]
   obtain ⟨v4, h_3, H⟩ := HS.bnd H
   try simp -implicitDefEqProofs (maxSteps := 999999) [-selQ_sel, h_2, h_3]
   refine Hid.brV (fun h_4 => ?_) (fun h_4 => ?_)
   ·replace H := HS.cnd_t h_4 H
    try simp -implicitDefEqProofs (maxSteps := 999999) [-selQ_sel, h_2, h_3, h_4]
    have hr := (HS.some H).symm; subst hr
    exact Hid.mk ⟨laws_heldIntS_l0_S a0 ((IntKind.i64.wrap (x2 + 1)), (IntKind.i64.wrap (x3 + 1))), Wk.ofk [] hk (by rfl) (by simp -implicitDefEqProofs [laws_heldIntS_l0_S, h_2, h_3, h_4]) (by simp -implicitDefEqProofs [laws_heldIntS_l0_S, h_2, h_3, h_4]), hR⟩
   ·replace H := HS.cnd_f h_4 H
    try simp -implicitDefEqProofs (maxSteps := 999999) [-selQ_sel, h_2, h_3, h_4]
    have hr := (HS.some H).symm; subst hr
    exact Hid.mk ⟨(laws_heldIntS_l0_X a0 (.inr ())).2, Wk.ofk [] hk (by rfl) (by simp -implicitDefEqProofs [laws_heldIntS_l0_X, h_2, h_3, h_4]) (by simp -implicitDefEqProofs [laws_heldIntS_l0_X, h_2, h_3, h_4]), hR⟩
 ·rcases q with y5 | ⟨⟩
  ·dsimp only at H
   try simp -implicitDefEqProofs (maxSteps := 999999) [-selQ_sel, laws_heldIntS_l0_X]
   have hr := (HS.some H).symm; subst hr
   refine Hid.mk ⟨_, Wk.refl _, ?_⟩
   try simp -implicitDefEqProofs (maxSteps := 999999) [-selQ_sel]
  ·dsimp only at H
   try simp -implicitDefEqProofs (maxSteps := 999999) [-selQ_sel, laws_heldIntS_l0_X]
   have hr := (HS.some H).symm; subst hr
   refine Hid.mk ⟨_, Wk.refl _, ?_⟩
   try simp -implicitDefEqProofs (maxSteps := 999999) [-selQ_sel]
theorem laws_eqMask_ok0 (hm : Try.prog.follows .mixedOrders = true) (k_laws_eqBox : Sound Try.prog 79 laws_eqBox_x) (k_laws_eqIntS : Sound Try.prog 20 laws_eqIntS_x) : Sound Try.prog 28 laws_eqMask_x := by
 refine xOf_sound fun q r h => ?_
 obtain ⟨a0, a1⟩ := q
 refine fn_ok E0 hm Try.func28 rfl (by decide +kernel) (by rfl) fun Γ hn hk => ?_
 dsimp only [laws_eqMask_e, laws_eqMask_v]
 replace hn : Γ.n = 17 := hn
 replace hk : Γ.k = 0 := hk
 have H : HS (laws_eqMask a0 a1) r := h
 clear h; unfold laws_eqMask at H
 try simp -implicitDefEqProofs at H
 refine Tr.of_vc (cl := tabC [(79, laws_eqBox_x), (20, laws_eqIntS_x)]) (E := E0) [] (tab_cons k_laws_eqBox (tab_cons k_laws_eqIntS tab_nil)) hm (by rw [hn]; decide +kernel) ?_
 try simp -implicitDefEqProofs (maxSteps := 999999) [-selQ_sel]
 obtain ⟨v1, h_1, H⟩ := HS.bnd H
 try simp -implicitDefEqProofs (maxSteps := 999999) [-selQ_sel, h_1]
 refine Hid.brV (fun h_2 => ?_) (fun h_2 => ?_)
 ·replace H := HS.cnd_t h_2 H
  try simp -implicitDefEqProofs (maxSteps := 999999) [-selQ_sel, h_1, h_2]
  obtain ⟨v2, h_3, H⟩ := HS.bnd H
  try simp -implicitDefEqProofs (maxSteps := 999999) [-selQ_sel, h_1, h_2, h_3]
  refine Hid.brV (fun h_4 => ?_) (fun h_4 => ?_)
  ·replace H := HS.cnd_t h_4 H
   try simp -implicitDefEqProofs (maxSteps := 999999) [-selQ_sel, h_1, h_2, h_3, h_4]
   have hr := (HS.some H).symm; subst hr
   refine Hid.mk ⟨_, Wk.refl _, ?_⟩
   try simp -implicitDefEqProofs (maxSteps := 999999) [-selQ_sel, h_1, h_2, h_3, h_4]
  ·replace H := HS.cnd_f h_4 H
   try simp -implicitDefEqProofs (maxSteps := 999999) [-selQ_sel, h_1, h_2, h_3, h_4]
   have hr := (HS.some H).symm; subst hr
   refine Hid.mk ⟨_, Wk.refl _, ?_⟩
   try simp -implicitDefEqProofs (maxSteps := 999999) [-selQ_sel, h_1, h_2, h_3, h_4]
 ·replace H := HS.cnd_f h_2 H
  try simp -implicitDefEqProofs (maxSteps := 999999) [-selQ_sel, h_1, h_2]
  have hr := (HS.some H).symm; subst hr
  refine Hid.mk ⟨_, Wk.refl _, ?_⟩
  try simp -implicitDefEqProofs (maxSteps := 999999) [-selQ_sel, h_1, h_2]
theorem slices_Clone_int_ok0 (hm : Try.prog.follows .mixedOrders = true) : Sound Try.prog 125 slices_Clone_int_x := by
 refine xOf_sound fun q r h => ?_
 revert h; revert r; revert q; intro a0 r h
 refine fn_ok E0 hm Try.func125 rfl (by decide +kernel) (by rfl) fun Γ hn hk => ?_
 dsimp only [slices_Clone_int_e, slices_Clone_int_v]
 replace hn : Γ.n = 8 := hn
 replace hk : Γ.k = 0 := hk
 have H : HS (slices_Clone_int a0) r := h
 clear h; unfold slices_Clone_int at H
 obtain ⟨h_1, H⟩ := HS.chkP H
 have hr := (HS.some H).symm; subst hr
 refine Tr.of_vc (cl := tabC []) (E := E0) [1] tab_nil hm (by rw [hn]; decide +kernel) ?_
 simp -implicitDefEqProofs [-selQ_sel]
 refine Hid.mk (Tr_nil (E := E0) tab_nil (h1 := rfl) (hd1 := fun d h => by cases h; rw [hn]; decide) (ho := rfl) (hg := rfl) (hd := rfl) (hdn := by rw [hn]; decide) (hu := elt_36) (hx := rfl) fun b hb => ?_)
 refine Tr.of_vc (cl := tabC []) (E := E0) [] tab_nil hm (by rw [hn]; decide +kernel) ?_
 simp -implicitDefEqProofs [-selQ_sel, aft, putT]
 refine Hid.brV (fun h_2 => ?_) (fun h_2 => ?_)
 ·simp -implicitDefEqProofs [-selQ_sel]
  have h_3 := hb h_2; simp at h_3; subst h_3
  refine Hid.mk ⟨_, Wk.refl _, ?_⟩
  simp -implicitDefEqProofs [-selQ_sel, h_1]
  refine ⟨⟨[(2, AV.osl 0 0 0 0)], [(0, Ob.arr 1 (List.map (AV.int .i64) []) false)], 1⟩, Wk.ofk [0] hk (by rfl) (by simp -implicitDefEqProofs) (by simp -implicitDefEqProofs), ?_⟩
  simp -implicitDefEqProofs [-selQ_sel, h_1]
 ·simp -implicitDefEqProofs [-selQ_sel]
  refine Hid.mk ⟨_, Wk.refl _, ?_⟩
  simp -implicitDefEqProofs [-selQ_sel, h_1]
  refine ⟨⟨[(2, AV.osl 0 0 (List.length a0) (List.length a0))], [(0, Ob.arr 1 (List.map (AV.int .i64) a0) false)], 1⟩, Wk.ofk [0] hk (by rfl) (by simp -implicitDefEqProofs) (by simp -implicitDefEqProofs), ?_⟩
  simp -implicitDefEqProofs [-selQ_sel, h_1]
theorem impl_Forget_ok0 (hm : Try.prog.follows .mixedOrders = true) (k_impl_copyCache : Sound Try.prog 62 impl_copyCache_x) (k_slices_DeleteFunc_Kept_Forget_1_n : Sound Try.prog 63 slices_DeleteFunc_Kept_Forget_1_n_x) : Sound Try.prog 18 impl_Forget_x := by
 refine xOf_sound fun q r h => ?_
 obtain ⟨a0, a1⟩ := q
 refine fn_ok E0 hm Try.func18 rfl (by decide +kernel) (by rfl) fun Γ hn hk => ?_
 dsimp only [impl_Forget_e, impl_Forget_v]
 replace hn : Γ.n = 14 := hn
 replace hk : Γ.k = 0 := hk
 have H : HS (impl_Forget a0 a1) r := h
 clear h; unfold impl_Forget at H
 try simp -implicitDefEqProofs at H
 refine Tr.of_vc (cl := tabC [(62, impl_copyCache_x), (63, slices_DeleteFunc_Kept_Forget_1_n_x)]) (E := E0) [] (tab_cons k_impl_copyCache (tab_cons k_slices_DeleteFunc_Kept_Forget_1_n tab_nil)) hm (by rw [hn]; decide +kernel) ?_
 try simp -implicitDefEqProofs (maxSteps := 999999) [-selQ_sel]
 obtain ⟨⟨w2, w3⟩, h_1, H⟩ := HS.bnd H
 dsimp only at H
 try simp -implicitDefEqProofs (maxSteps := 999999) [-selQ_sel, h_1]
 obtain ⟨v4, h_2, H⟩ := HS.bnd H
 try simp -implicitDefEqProofs (maxSteps := 999999) [-selQ_sel, h_1, h_2]
 have hr := (HS.some H).symm; subst hr
 refine Hid.mk ⟨⟨[(4, AV.optr 0 0 2)], [(0, Ob.box [AV.int .i64 w2, AV.osl 1 0 (List.length v4) (List.length v4)]), (1, Ob.nar 6 (List.map eKept v4) [0, 0, 0, 0, 0, 1])], 2⟩, Wk.ofk [2, 5] hk (by rfl) (by simp -implicitDefEqProofs [h_1, h_2]) (by simp -implicitDefEqProofs [h_1, h_2]), ?_⟩
 try simp -implicitDefEqProofs (maxSteps := 999999) [-selQ_sel, h_1, h_2]
theorem laws_szCache_ok0 (hm : Try.prog.follows .mixedOrders = true) (k_laws_szKeptS : Sound Try.prog 59 laws_szKeptS_x) : Sound Try.prog 14 laws_szCache_x := by
 refine xOf_sound fun q r h => ?_
 obtain ⟨a0, a1⟩ := q
 refine fn_ok E0 hm Try.func14 rfl (by decide +kernel) (by rfl) fun Γ hn hk => ?_
 dsimp only [laws_szCache_e, laws_szCache_v]
 replace hn : Γ.n = 12 := hn
 replace hk : Γ.k = 0 := hk
 have H : HS (laws_szCache a0 a1) r := h
 clear h; unfold laws_szCache at H
 try simp -implicitDefEqProofs at H
 refine Tr.of_vc (cl := tabC [(59, laws_szKeptS_x)]) (E := E0) [] (tab_cons k_laws_szKeptS tab_nil) hm (by rw [hn]; decide +kernel) ?_
 try simp -implicitDefEqProofs (maxSteps := 999999) [-selQ_sel]
 obtain ⟨v1, h_1, H⟩ := HS.bnd H
 try simp -implicitDefEqProofs (maxSteps := 999999) [-selQ_sel, h_1]
 refine Hid.brV (fun h_2 => ?_) (fun h_2 => ?_)
 ·replace H := HS.cnd_t h_2 H
  try simp -implicitDefEqProofs (maxSteps := 999999) [-selQ_sel, h_1, h_2]
  have hr := (HS.some H).symm; subst hr
  refine Hid.mk ⟨_, Wk.refl _, ?_⟩
  try simp -implicitDefEqProofs (maxSteps := 999999) [-selQ_sel, h_1, h_2]
 ·replace H := HS.cnd_f h_2 H
  try simp -implicitDefEqProofs (maxSteps := 999999) [-selQ_sel, h_1, h_2]
  have hr := (HS.some H).symm; subst hr
  refine Hid.mk ⟨_, Wk.refl _, ?_⟩
  try simp -implicitDefEqProofs (maxSteps := 999999) [-selQ_sel, h_1, h_2]
theorem impl_copyMask_ok0 (hm : Try.prog.follows .mixedOrders = true) (k_slices_Clone_int : Sound Try.prog 125 slices_Clone_int_x) : Sound Try.prog 78 impl_copyMask_x := by
 refine xOf_sound fun q r h => ?_
 revert h; revert r; revert q; intro a0 r h
 refine fn_ok E0 hm Try.func78 rfl (by decide +kernel) (by rfl) fun Γ hn hk => ?_
 dsimp only [impl_copyMask_e, impl_copyMask_v]
 replace hn : Γ.n = 9 := hn
 replace hk : Γ.k = 0 := hk
 have H : HS (impl_copyMask a0) r := h
 clear h; unfold impl_copyMask at H
 try simp -implicitDefEqProofs at H
 refine Tr.of_vc (cl := tabC [(125, slices_Clone_int_x)]) (E := E0) [] (tab_cons k_slices_Clone_int tab_nil) hm (by rw [hn]; decide +kernel) ?_
 try simp -implicitDefEqProofs +decide (maxSteps := 999999) [-selQ_sel, hokQ_of]
 obtain ⟨v1, h_1, H⟩ := HS.bnd H
 try simp -implicitDefEqProofs +decide (maxSteps := 999999) [-selQ_sel, hokQ_of, h_1]
 have hr := (HS.some H).symm; subst hr
 refine Hid.mk ⟨⟨[(2, AV.optr 0 0 5)], [(0, Ob.box [AV.int .i64 a0.box.x0, AV.int .i64 a0.box.y0, AV.int .i64 a0.box.x1, AV.int .i64 a0.box.y1, AV.osl 1 0 (List.length v1) (List.length v1)]), (1, Ob.arr 1 (List.map (AV.int .i64) v1) false)], 2⟩, Wk.ofk [1, 2] hk (by rfl) (by simp -implicitDefEqProofs [h_1]) (by simp -implicitDefEqProofs [h_1]), ?_⟩
 try simp -implicitDefEqProofs +decide (maxSteps := 999999) [-selQ_sel, hokQ_of, h_1]
theorem laws_szIntS_ok0 (hm : Try.prog.follows .mixedOrders = true) : Sound Try.prog 69 laws_szIntS_x := by
 refine xOf_sound fun q r h => ?_
 obtain ⟨a0, a1⟩ := q
 refine fn_ok E0 hm Try.func69 rfl (by decide +kernel) (by rfl) fun Γ hn hk => ?_
 dsimp only [laws_szIntS_e, laws_szIntS_v]
 replace hn : Γ.n = 12 := hn
 replace hk : Γ.k = 0 := hk
 have H : HS (laws_szIntS a0 a1) r := h
 clear h; unfold laws_szIntS at H
 try simp -implicitDefEqProofs at H
 refine Tr.of_vc (cl := tabC []) (E := E0) [] tab_nil hm (by rw [hn]; decide +kernel) ?_
 try simp -implicitDefEqProofs (maxSteps := 999999) [-selQ_sel]
 refine Hid.brV (fun h_1 => ?_) (fun h_1 => ?_)
 ·replace H := HS.cnd_t h_1 H
  try simp -implicitDefEqProofs (maxSteps := 999999) [-selQ_sel, h_1]
  have hr := (HS.some H).symm; subst hr
  refine Hid.mk ⟨_, Wk.refl _, ?_⟩
  try simp -implicitDefEqProofs (maxSteps := 999999) [-selQ_sel, h_1]
 ·replace H := HS.cnd_f h_1 H
  try simp -implicitDefEqProofs (maxSteps := 999999) [-selQ_sel, h_1]
  have hr := (HS.some H).symm; subst hr
  refine Hid.mk ⟨_, Wk.refl _, ?_⟩
  try simp -implicitDefEqProofs (maxSteps := 999999) [-selQ_sel, h_1]
theorem impl_Forget_1R_ok0 (hm : Try.prog.follows .mixedOrders = true) (k_slices_Contains_int : Sound Try.prog 65 slices_Contains_int_x) : Sound Try.prog 64 impl_Forget_1R_x := by
 refine xOf_sound fun q r h => ?_
 obtain ⟨a0, a1⟩ := q
 refine fn_ok E0 hm Try.func64 rfl (by decide +kernel) (by rfl) fun Γ hn hk => ?_
 dsimp only [impl_Forget_1R_e, impl_Forget_1R_v]
 replace hn : Γ.n = 8 := hn
 replace hk : Γ.k = 0 := hk
 have H : HS (impl_Forget_1R a0 a1) r := h
 clear h; unfold impl_Forget_1R at H
 try simp -implicitDefEqProofs at H
 refine Tr.of_vc (cl := tabC [(65, slices_Contains_int_x)]) (E := E0) [] (tab_cons k_slices_Contains_int tab_nil) hm (by rw [hn]; decide +kernel) ?_
 try simp -implicitDefEqProofs (maxSteps := 999999) [-selQ_sel]
 obtain ⟨v1, h_1, H⟩ := HS.bnd H
 try simp -implicitDefEqProofs (maxSteps := 999999) [-selQ_sel, h_1]
 have hr := (HS.some H).symm; subst hr
 refine Hid.mk ⟨_, Wk.refl _, ?_⟩
 try simp -implicitDefEqProofs (maxSteps := 999999) [-selQ_sel, h_1]
end Go.Proofs.Ytapchldnmkfkoaa.Am
