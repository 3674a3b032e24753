import Derived.Test.YtapchldnmkfkoaaAmShMo
set_option linter.unusedVariables false
set_option linter.unusedSimpArgs false
set_option linter.unusedSectionVars false
namespace Go.Proofs.Ytapchldnmkfkoaa.Am
open Go Go.Proofs
set_option maxRecDepth 100000
set_option linter.unusedSimpArgs false
set_option linter.unusedVariables false
set_option maxHeartbeats 4000000
theorem impl_SurfaceOk_ok0 (hm : Try.prog.follows .mixedOrders = true) (k_impl_isSide : Sound Try.prog 112 impl_isSide_x) (k_impl_LaidOk : Sound Try.prog 113 impl_LaidOk_x) : Sound Try.prog 53 impl_SurfaceOk_x := by
 refine xOf_sound fun q r h => ?_
 revert h; revert r; revert q; intro a0 r h
 refine fn_ok E0 hm Try.func53 rfl (by decide +kernel) (by rfl) fun Γ hn hk => ?_
 dsimp only [impl_SurfaceOk_e, impl_SurfaceOk_v]
 replace hn : Γ.n = 37 := hn
 replace hk : Γ.k = 0 := hk
 have H : HS (impl_SurfaceOk a0) r := h
 clear h; unfold impl_SurfaceOk at H
 try simp -implicitDefEqProofs at H
 refine Tr.of_vc (cl := tabC [(112, impl_isSide_x), (113, impl_LaidOk_x)]) (E := E0) [] (tab_cons k_impl_isSide (tab_cons k_impl_LaidOk tab_nil)) hm (by rw [hn]; decide +kernel) ?_
 try simp -implicitDefEqProofs (maxSteps := 999999) [-selQ_sel]
 obtain ⟨v1, h_1, H⟩ := HS.bnd H
 try simp -implicitDefEqProofs (maxSteps := 999999) [-selQ_sel, h_1]
 refine Hid.selQ (fun h_2 => ?_) (fun h_2 => ?_)
 ·replace H := HS.cnd_t h_2 H
  try simp -implicitDefEqProofs (maxSteps := 999999) [-selQ_sel, h_1, h_2]
  obtain ⟨v2, h_3, H⟩ := HS.bnd H
  try simp -implicitDefEqProofs (maxSteps := 999999) [-selQ_sel, h_1, h_2, h_3]
  refine Hid.selQ (fun h_4 => ?_) (fun h_4 => ?_)
  ·replace H := HS.cnd_t h_4 H
   try simp -implicitDefEqProofs (maxSteps := 999999) [-selQ_sel, h_1, h_2, h_3, h_4]
   refine Hid.brV (fun h_5 => ?_) (fun h_5 => ?_)
   ·replace H := HS.cnd_t h_5 H
    try simp -implicitDefEqProofs (maxSteps := 999999) [-selQ_sel, h_1, h_2, h_3, h_4, h_5]
    obtain ⟨q, h_6, H⟩ := HS.bnd H
    refine Hid.mk (Tr.weak (s' := (impl_SurfaceOk_l0_S a0) 0) (Wk.ofk [] hk (by rfl) (by simp -implicitDefEqProofs [impl_SurfaceOk_l0_S, h_1, h_2, h_3, h_4, h_5]) (by simp -implicitDefEqProofs [impl_SurfaceOk_l0_S, h_1, h_2, h_3, h_4, h_5])) ?_)
    refine wp_loop_of (S := (impl_SurfaceOk_l0_S a0)) (f := (impl_SurfaceOk_l0 a0)) (xt := (impl_SurfaceOk_l0_X a0)) ?_ ?_ h_6 ?_
    ·intro q; rcases q with ⟨⟩ | ⟨⟩ <;> simp [impl_SurfaceOk_l0_X]
    ·clear H h_6 q
     rintro x5 o R hf hR
     have H : HS (impl_SurfaceOk_l0 a0 x5) o := hf
     clear hf; unfold impl_SurfaceOk_l0 at H
     try simp -implicitDefEqProofs at H
     refine Tr.of_vc (cl := tabC [(112, impl_isSide_x), (113, impl_LaidOk_x)]) (E := E0) [] (tab_cons k_impl_isSide (tab_cons k_impl_LaidOk tab_nil)) hm (by rw [hn]; decide +kernel) ?_
     try simp -implicitDefEqProofs (maxSteps := 999999) [-selQ_sel, impl_SurfaceOk_l0_S]
     refine Hid.brV (fun h_7 => ?_) (fun h_7 => ?_)
     ·replace H := HS.cnd_t h_7 H
      try simp -implicitDefEqProofs (maxSteps := 999999) [-selQ_sel, h_7]
      have hr := (HS.some H).symm; subst hr
      exact Hid.mk ⟨(impl_SurfaceOk_l0_X a0 (.inl ())).2, Wk.ofk [] hk (by rfl) (by simp -implicitDefEqProofs [impl_SurfaceOk_l0_X, h_7]) (by simp -implicitDefEqProofs [impl_SurfaceOk_l0_X, h_7]), hR⟩
     ·replace H := HS.cnd_f h_7 H
      try simp -implicitDefEqProofs (maxSteps := 999999) [-selQ_sel, h_7]
      obtain ⟨v6, h_8, H⟩ := HS.bnd H
      try simp -implicitDefEqProofs (maxSteps := 999999) [-selQ_sel, h_7, h_8]
      obtain ⟨v7, h_9, H⟩ := HS.bnd H
      try simp -implicitDefEqProofs (maxSteps := 999999) [-selQ_sel, h_7, h_8, h_9]
      refine Hid.brV (fun h_10 => ?_) (fun h_10 => ?_)
      ·replace H := HS.cnd_t h_10 H
       try simp -implicitDefEqProofs (maxSteps := 999999) [-selQ_sel, h_7, h_8, h_9, h_10]
       have hr := (HS.some H).symm; subst hr
       exact Hid.mk ⟨impl_SurfaceOk_l0_S a0 (IntKind.i64.wrap (x5 + 1)), Wk.ofk [] hk (by rfl) (by simp -implicitDefEqProofs [impl_SurfaceOk_l0_S, h_7, h_8, h_9, h_10]) (by simp -implicitDefEqProofs [impl_SurfaceOk_l0_S, h_7, h_8, h_9, h_10]), hR⟩
      ·replace H := HS.cnd_f h_10 H
       try simp -implicitDefEqProofs (maxSteps := 999999) [-selQ_sel, h_7, h_8, h_9, h_10]
       have hr := (HS.some H).symm; subst hr
       exact Hid.mk ⟨(impl_SurfaceOk_l0_X a0 (.inr ())).2, Wk.ofk [] hk (by rfl) (by simp -implicitDefEqProofs [impl_SurfaceOk_l0_X, h_7, h_8, h_9, h_10]) (by simp -implicitDefEqProofs [impl_SurfaceOk_l0_X, h_7, h_8, h_9, h_10]), hR⟩
    ·rcases q with ⟨⟩ | ⟨⟩
     ·dsimp only at H
      try simp -implicitDefEqProofs (maxSteps := 999999) [-selQ_sel, h_1, h_2, h_3, h_4, h_5, impl_SurfaceOk_l0_X]
      have hr := (HS.some H).symm; subst hr
      refine Hid.mk ⟨_, Wk.refl _, ?_⟩
      try simp -implicitDefEqProofs (maxSteps := 999999) [-selQ_sel, h_1, h_2, h_3, h_4, h_5]
     ·dsimp only at H
      try simp -implicitDefEqProofs (maxSteps := 999999) [-selQ_sel, h_1, h_2, h_3, h_4, h_5, impl_SurfaceOk_l0_X]
      have hr := (HS.some H).symm; subst hr
      refine Hid.mk ⟨_, Wk.refl _, ?_⟩
      try simp -implicitDefEqProofs (maxSteps := 999999) [-selQ_sel, h_1, h_2, h_3, h_4, h_5]
   ·replace H := HS.cnd_f h_5 H
    try simp -implicitDefEqProofs (maxSteps := 999999) [-selQ_sel, h_1, h_2, h_3, h_4, h_5]
    have hr := (HS.some H).symm; subst hr
    refine Hid.mk ⟨_, Wk.refl _, ?_⟩
    try simp -implicitDefEqProofs (maxSteps := 999999) [-selQ_sel, h_1, h_2, h_3, h_4, h_5]
  ·replace H := HS.cnd_f h_4 H
   try simp -implicitDefEqProofs (maxSteps := 999999) [-selQ_sel, h_1, h_2, h_3, h_4]
   have hr := (HS.some H).symm; subst hr
   refine Hid.mk ⟨_, Wk.refl _, ?_⟩
   try simp -implicitDefEqProofs (maxSteps := 999999) [-selQ_sel, h_1, h_2, h_3, h_4]
 ·replace H := HS.cnd_f h_2 H
  try simp -implicitDefEqProofs (maxSteps := 999999) [-selQ_sel, h_1, h_2]
  have hr := (HS.some H).symm; subst hr
  refine Hid.mk ⟨_, Wk.refl _, ?_⟩
  try simp -implicitDefEqProofs (maxSteps := 999999) [-selQ_sel, h_1, h_2]
theorem spec_SurfaceOk_ok0 (hm : Try.prog.follows .mixedOrders = true) (k_spec_l01In : Sound Try.prog 71 spec_l01In_x) (k_spec_LaidOk : Sound Try.prog 109 spec_LaidOk_x) : Sound Try.prog 50 spec_SurfaceOk_x := by
 refine xOf_sound fun q r h => ?_
 revert h; revert r; revert q; intro a0 r h
 refine fn_ok E0 hm Try.func50 rfl (by decide +kernel) (by rfl) fun Γ hn hk => ?_
 dsimp only [spec_SurfaceOk_e, spec_SurfaceOk_v]
 replace hn : Γ.n = 39 := hn
 replace hk : Γ.k = 0 := hk
 have H : HS (spec_SurfaceOk a0) r := h
 clear h; unfold spec_SurfaceOk at H
 try simp -implicitDefEqProofs at H
 refine Tr.of_vc (cl := tabC [(71, spec_l01In_x), (109, spec_LaidOk_x)]) (E := E0) [] (tab_cons k_spec_l01In (tab_cons k_spec_LaidOk tab_nil)) hm (by rw [hn]; decide +kernel) ?_
 try simp -implicitDefEqProofs (maxSteps := 999999) [-selQ_sel]
 obtain ⟨v1, h_1, H⟩ := HS.bnd H
 try simp -implicitDefEqProofs (maxSteps := 999999) [-selQ_sel, h_1]
 refine Hid.selQ (fun h_2 => ?_) (fun h_2 => ?_)
 ·replace H := HS.cnd_t h_2 H
  try simp -implicitDefEqProofs (maxSteps := 999999) [-selQ_sel, h_1, h_2]
  obtain ⟨v2, h_3, H⟩ := HS.bnd H
  try simp -implicitDefEqProofs (maxSteps := 999999) [-selQ_sel, h_1, h_2, h_3]
  refine Hid.selQ (fun h_4 => ?_) (fun h_4 => ?_)
  ·replace H := HS.cnd_t h_4 H
   try simp -implicitDefEqProofs (maxSteps := 999999) [-selQ_sel, h_1, h_2, h_3, h_4]
   refine Hid.brV (fun h_5 => ?_) (fun h_5 => ?_)
   ·replace H := HS.cnd_t h_5 H
    try simp -implicitDefEqProofs (maxSteps := 999999) [-selQ_sel, h_1, h_2, h_3, h_4, h_5]
    obtain ⟨q, h_6, H⟩ := HS.bnd H
    refine Hid.mk (Tr.weak (s' := (spec_SurfaceOk_l0_S a0) 0) (Wk.ofk [0] hk (by rfl) (by simp -implicitDefEqProofs [spec_SurfaceOk_l0_S, h_1, h_2, h_3, h_4, h_5]) (by simp -implicitDefEqProofs [spec_SurfaceOk_l0_S, h_1, h_2, h_3, h_4, h_5])) ?_)
    refine wp_loop_of (S := (spec_SurfaceOk_l0_S a0)) (f := (spec_SurfaceOk_l0 a0)) (xt := (spec_SurfaceOk_l0_X a0)) ?_ ?_ h_6 ?_
    ·intro q; rcases q with ⟨⟩ | ⟨⟩ <;> simp [spec_SurfaceOk_l0_X]
    ·clear H h_6 q
     rintro x5 o R hf hR
     have H : HS (spec_SurfaceOk_l0 a0 x5) o := hf
     clear hf; unfold spec_SurfaceOk_l0 at H
     try simp -implicitDefEqProofs at H
     refine Tr.of_vc (cl := tabC [(71, spec_l01In_x), (109, spec_LaidOk_x)]) (E := E0) [] (tab_cons k_spec_l01In (tab_cons k_spec_LaidOk tab_nil)) hm (by rw [hn]; decide +kernel) ?_
     try simp -implicitDefEqProofs (maxSteps := 999999) [-selQ_sel, spec_SurfaceOk_l0_S]
     refine Hid.brV (fun h_7 => ?_) (fun h_7 => ?_)
     ·replace H := HS.cnd_t h_7 H
      try simp -implicitDefEqProofs (maxSteps := 999999) [-selQ_sel, h_7]
      have hr := (HS.some H).symm; subst hr
      exact Hid.mk ⟨(spec_SurfaceOk_l0_X a0 (.inl ())).2, Wk.ofk [] hk (by rfl) (by simp -implicitDefEqProofs [spec_SurfaceOk_l0_X, h_7]) (by simp -implicitDefEqProofs [spec_SurfaceOk_l0_X, h_7]), hR⟩
     ·replace H := HS.cnd_f h_7 H
      try simp -implicitDefEqProofs (maxSteps := 999999) [-selQ_sel, h_7]
      obtain ⟨v6, h_8, H⟩ := HS.bnd H
      try simp -implicitDefEqProofs (maxSteps := 999999) [-selQ_sel, h_7, h_8]
      obtain ⟨v7, h_9, H⟩ := HS.bnd H
      try simp -implicitDefEqProofs (maxSteps := 999999) [-selQ_sel, h_7, h_8, h_9]
      refine Hid.brV (fun h_10 => ?_) (fun h_10 => ?_)
      ·replace H := HS.cnd_t h_10 H
       try simp -implicitDefEqProofs (maxSteps := 999999) [-selQ_sel, h_7, h_8, h_9, h_10]
       have hr := (HS.some H).symm; subst hr
       exact Hid.mk ⟨spec_SurfaceOk_l0_S a0 (IntKind.i64.wrap (x5 + 1)), Wk.ofk [0] hk (by rfl) (by simp -implicitDefEqProofs [spec_SurfaceOk_l0_S, h_7, h_8, h_9, h_10]) (by simp -implicitDefEqProofs [spec_SurfaceOk_l0_S, h_7, h_8, h_9, h_10]), hR⟩
      ·replace H := HS.cnd_f h_10 H
       try simp -implicitDefEqProofs (maxSteps := 999999) [-selQ_sel, h_7, h_8, h_9, h_10]
       have hr := (HS.some H).symm; subst hr
       exact Hid.mk ⟨(spec_SurfaceOk_l0_X a0 (.inr ())).2, Wk.ofk [] hk (by rfl) (by simp -implicitDefEqProofs [spec_SurfaceOk_l0_X, h_7, h_8, h_9, h_10]) (by simp -implicitDefEqProofs [spec_SurfaceOk_l0_X, h_7, h_8, h_9, h_10]), hR⟩
    ·rcases q with ⟨⟩ | ⟨⟩
     ·dsimp only at H
      try simp -implicitDefEqProofs (maxSteps := 999999) [-selQ_sel, h_1, h_2, h_3, h_4, h_5, spec_SurfaceOk_l0_X]
      have hr := (HS.some H).symm; subst hr
      refine Hid.mk ⟨_, Wk.refl _, ?_⟩
      try simp -implicitDefEqProofs (maxSteps := 999999) [-selQ_sel, h_1, h_2, h_3, h_4, h_5]
     ·dsimp only at H
      try simp -implicitDefEqProofs (maxSteps := 999999) [-selQ_sel, h_1, h_2, h_3, h_4, h_5, spec_SurfaceOk_l0_X]
      have hr := (HS.some H).symm; subst hr
      refine Hid.mk ⟨_, Wk.refl _, ?_⟩
      try simp -implicitDefEqProofs (maxSteps := 999999) [-selQ_sel, h_1, h_2, h_3, h_4, h_5]
   ·replace H := HS.cnd_f h_5 H
    try simp -implicitDefEqProofs (maxSteps := 999999) [-selQ_sel, h_1, h_2, h_3, h_4, h_5]
    have hr := (HS.some H).symm; subst hr
    refine Hid.mk ⟨_, Wk.refl _, ?_⟩
    try simp -implicitDefEqProofs (maxSteps := 999999) [-selQ_sel, h_1, h_2, h_3, h_4, h_5]
  ·replace H := HS.cnd_f h_4 H
   try simp -implicitDefEqProofs (maxSteps := 999999) [-selQ_sel, h_1, h_2, h_3, h_4]
   have hr := (HS.some H).symm; subst hr
   refine Hid.mk ⟨_, Wk.refl _, ?_⟩
   try simp -implicitDefEqProofs (maxSteps := 999999) [-selQ_sel, h_1, h_2, h_3, h_4]
 ·replace H := HS.cnd_f h_2 H
  try simp -implicitDefEqProofs (maxSteps := 999999) [-selQ_sel, h_1, h_2]
  have hr := (HS.some H).symm; subst hr
  refine Hid.mk ⟨_, Wk.refl _, ?_⟩
  try simp -implicitDefEqProofs (maxSteps := 999999) [-selQ_sel, h_1, h_2]
theorem impl_Hex_ok0 (hm : Try.prog.follows .mixedOrders = true) : Sound Try.prog 54 impl_Hex_x := by
 refine xOf_sound fun q r h => ?_
 revert h; revert r; revert q; intro a0 r h
 refine fn_ok E0 hm Try.func54 rfl (by decide +kernel) (by rfl) fun Γ hn hk => ?_
 dsimp only [impl_Hex_e, impl_Hex_v]
 replace hn : Γ.n = 37 := hn
 replace hk : Γ.k = 0 := hk
 have H : HS (impl_Hex a0) r := h
 clear h; unfold impl_Hex at H
 try simp -implicitDefEqProofs at H
 refine Tr.of_vc (cl := tabC []) (E := E0) [] tab_nil hm (by rw [hn]; decide +kernel) ?_
 try simp -implicitDefEqProofs +decide (maxSteps := 999999) [-selQ_sel, hokQ_of]
 refine Hid.brV (fun h_1 => ?_) (fun h_1 => ?_)
 ·replace H := HS.cnd_t h_1 H
  try simp -implicitDefEqProofs +decide (maxSteps := 999999) [-selQ_sel, hokQ_of, h_1]
  obtain ⟨h_2, H⟩ := HS.chkP H
  try simp -implicitDefEqProofs +decide (maxSteps := 999999) [-selQ_sel, hokQ_of, h_1, h_2]
  obtain ⟨q, h_3, H⟩ := HS.bnd H
  refine Hid.mk (Tr.weak (s' := (impl_Hex_l0_S a0) (0, [])) (Wk.ofk [0] hk (by rfl) (by simp -implicitDefEqProofs [impl_Hex_l0_S, h_1, h_2]) (by simp -implicitDefEqProofs [impl_Hex_l0_S, h_1, h_2])) ?_)
  refine wp_loop_of (S := (impl_Hex_l0_S a0)) (f := (impl_Hex_l0 a0)) (xt := (impl_Hex_l0_X a0)) ?_ ?_ h_3 ?_
  ·intro q; simp [impl_Hex_l0_X]
  ·clear H h_3 q
   rintro ⟨x4, x5⟩ o R hf hR
   have H : HS (impl_Hex_l0 a0 (x4, x5)) o := hf
   clear hf; unfold impl_Hex_l0 at H
   try simp -implicitDefEqProofs at H
   refine Tr.of_vc (cl := tabC []) (E := E0) [] tab_nil hm (by rw [hn]; decide +kernel) ?_
   try simp -implicitDefEqProofs +decide (maxSteps := 999999) [-selQ_sel, hokQ_of, impl_Hex_l0_S]
   refine Hid.brV (fun h_4 => ?_) (fun h_4 => ?_)
   ·replace H := HS.cnd_t h_4 H
    try simp -implicitDefEqProofs +decide (maxSteps := 999999) [-selQ_sel, hokQ_of, h_4]
    have hr := (HS.some H).symm; subst hr
    exact Hid.mk ⟨(impl_Hex_l0_X a0 x5).2, Wk.ofk [0] hk (by rfl) (by simp -implicitDefEqProofs [impl_Hex_l0_X, h_4]) (by simp -implicitDefEqProofs [impl_Hex_l0_X, h_4]), hR⟩
   ·replace H := HS.cnd_f h_4 H
    try simp -implicitDefEqProofs +decide (maxSteps := 999999) [-selQ_sel, hokQ_of, h_4]
    obtain ⟨b6, h_5, H⟩ := HS.bnd H
    try simp -implicitDefEqProofs +decide (maxSteps := 999999) [-selQ_sel, hokQ_of, h_4, h_5]
    obtain ⟨b7, h_6, H⟩ := HS.bnd H
    try simp -implicitDefEqProofs +decide (maxSteps := 999999) [-selQ_sel, hokQ_of, h_4, h_5, h_6]
    obtain ⟨b8, h_7, H⟩ := HS.bnd H
    try simp -implicitDefEqProofs +decide (maxSteps := 999999) [-selQ_sel, hokQ_of, h_4, h_5, h_6, h_7]
    obtain ⟨h_8, H⟩ := HS.chkP H
    try simp -implicitDefEqProofs +decide (maxSteps := 999999) [-selQ_sel, hokQ_of, h_4, h_5, h_6, h_7, h_8]
    obtain ⟨l9, h_9, H⟩ := HS.nam H
    have m_10 := congrArg (List.map (AV.int .u8)) h_9
    have q_11 := congrArg List.length h_9
    simp -implicitDefEqProofs at m_10 q_11
    try simp only [q_11] at m_10
    try simp only [q_11] at h_8
    try simp -implicitDefEqProofs +decide (maxSteps := 999999) [-selQ_sel, hokQ_of, h_4, h_5, h_6, h_7, h_8, m_10, q_11]
    have hr := (HS.some H).symm; subst hr
    exact Hid.mk ⟨impl_Hex_l0_S a0 ((IntKind.i64.wrap (x4 + 1)), l9), Wk.ofk [0] hk (by rfl) (by simp -implicitDefEqProofs [impl_Hex_l0_S, h_4, h_5, h_6, h_7, h_8, m_10, q_11]) (by simp -implicitDefEqProofs [impl_Hex_l0_S, h_4, h_5, h_6, h_7, h_8, m_10, q_11]), hR⟩
  ·revert H h_3; revert q; intro y10 h_3 H
   try dsimp only at H
   try simp -implicitDefEqProofs +decide (maxSteps := 999999) [-selQ_sel, hokQ_of, h_1, h_2, impl_Hex_l0_X]
   have hr := (HS.some H).symm; subst hr
   refine Hid.mk ⟨_, Wk.refl _, ?_⟩
   try simp -implicitDefEqProofs +decide (maxSteps := 999999) [-selQ_sel, hokQ_of, h_1, h_2]
 ·replace H := HS.cnd_f h_1 H
  try simp -implicitDefEqProofs +decide (maxSteps := 999999) [-selQ_sel, hokQ_of, h_1]
  have hr := (HS.some H).symm; subst hr
  refine Hid.mk ⟨_, Wk.refl _, ?_⟩
  try simp -implicitDefEqProofs +decide (maxSteps := 999999) [-selQ_sel, hokQ_of, h_1]
theorem laws_FnExactShowFrame_ok0 (hm : Try.prog.follows .mixedOrders = true) (k_laws_szSurface : Sound Try.prog 9 laws_szSurface_x) (k_laws_toSurface : Sound Try.prog 11 laws_toSurface_x) (k_spec_ShowFrame : Sound Try.prog 10 spec_ShowFrame_x) (k_impl_ShowFrame : Sound Try.prog 12 impl_ShowFrame_x) (k_laws_eqSurface : Sound Try.prog 13 laws_eqSurface_x) : Sound Try.prog 3 laws_FnExactShowFrame_x := by
 refine xOf_sound fun q r h => ?_
 revert h; revert r; revert q; intro a0 r h
 refine fn_ok E0 hm Try.func3 rfl (by decide +kernel) (by rfl) fun Γ hn hk => ?_
 dsimp only [laws_FnExactShowFrame_e, laws_FnExactShowFrame_v]
 replace hn : Γ.n = 27 := hn
 replace hk : Γ.k = 0 := hk
 have H : HS (laws_FnExactShowFrame a0) r := h
 clear h; unfold laws_FnExactShowFrame at H
 try simp -implicitDefEqProofs at H
 refine Tr.of_vc (cl := tabC [(9, laws_szSurface_x), (11, laws_toSurface_x), (10, spec_ShowFrame_x), (12, impl_ShowFrame_x), (13, laws_eqSurface_x)]) (E := E0) [] (tab_cons k_laws_szSurface (tab_cons k_laws_toSurface (tab_cons k_spec_ShowFrame (tab_cons k_impl_ShowFrame (tab_cons k_laws_eqSurface tab_nil))))) hm (by rw [hn]; decide +kernel) ?_
 try simp -implicitDefEqProofs +decide (maxSteps := 999999) [-selQ_sel, hokQ_of]
 obtain ⟨v1, h_1, H⟩ := HS.bnd H
 try simp -implicitDefEqProofs +decide (maxSteps := 999999) [-selQ_sel, hokQ_of, h_1]
 refine Hid.brV (fun h_2 => ?_) (fun h_2 => ?_)
 ·replace H := HS.cnd_t h_2 H
  try simp -implicitDefEqProofs +decide (maxSteps := 999999) [-selQ_sel, hokQ_of, h_1, h_2]
  obtain ⟨v2, h_3, H⟩ := HS.bnd H
  try simp -implicitDefEqProofs +decide (maxSteps := 999999) [-selQ_sel, hokQ_of, h_1, h_2, h_3]
  obtain ⟨v3, h_4, H⟩ := HS.bnd H
  try simp -implicitDefEqProofs +decide (maxSteps := 999999) [-selQ_sel, hokQ_of, h_1, h_2, h_3, h_4]
  obtain ⟨v4, h_5, H⟩ := HS.bnd H
  try simp -implicitDefEqProofs +decide (maxSteps := 999999) [-selQ_sel, hokQ_of, h_1, h_2, h_3, h_4, h_5]
  refine Hid.brV (fun h_6 => ?_) (fun h_6 => ?_)
  ·replace H := HS.cnd_t h_6 H
   try simp -implicitDefEqProofs +decide (maxSteps := 999999) [-selQ_sel, hokQ_of, h_1, h_2, h_3, h_4, h_5, h_6]
   obtain ⟨v5, h_7, H⟩ := HS.bnd H
   try simp -implicitDefEqProofs +decide (maxSteps := 999999) [-selQ_sel, hokQ_of, h_1, h_2, h_3, h_4, h_5, h_6, h_7]
   refine Hid.brV (fun h_8 => ?_) (fun h_8 => ?_)
   ·replace H := HS.cnd_t h_8 H
    try simp -implicitDefEqProofs +decide (maxSteps := 999999) [-selQ_sel, hokQ_of, h_1, h_2, h_3, h_4, h_5, h_6, h_7, h_8]
    have hr := (HS.some H).symm; subst hr
    refine Hid.mk ⟨_, Wk.refl _, ?_⟩
    try simp -implicitDefEqProofs +decide (maxSteps := 999999) [-selQ_sel, hokQ_of, h_1, h_2, h_3, h_4, h_5, h_6, h_7, h_8]
   ·replace H := HS.cnd_f h_8 H
    try simp -implicitDefEqProofs +decide (maxSteps := 999999) [-selQ_sel, hokQ_of, h_1, h_2, h_3, h_4, h_5, h_6, h_7, h_8]
    have hr := (HS.some H).symm; subst hr
    refine Hid.mk ⟨_, Wk.refl _, ?_⟩
    try simp -implicitDefEqProofs +decide (maxSteps := 999999) [-selQ_sel, hokQ_of, h_1, h_2, h_3, h_4, h_5, h_6, h_7, h_8]
  ·replace H := HS.cnd_f h_6 H
   try simp -implicitDefEqProofs +decide (maxSteps := 999999) [-selQ_sel, hokQ_of, h_1, h_2, h_3, h_4, h_5, h_6]
   have hr := (HS.some H).symm; subst hr
   refine Hid.mk ⟨_, Wk.refl _, ?_⟩
   try simp -implicitDefEqProofs +decide (maxSteps := 999999) [-selQ_sel, hokQ_of, h_1, h_2, h_3, h_4, h_5, h_6]
 ·replace H := HS.cnd_f h_2 H
  try simp -implicitDefEqProofs +decide (maxSteps := 999999) [-selQ_sel, hokQ_of, h_1, h_2]
  have hr := (HS.some H).symm; subst hr
  refine Hid.mk ⟨_, Wk.refl _, ?_⟩
  try simp -implicitDefEqProofs +decide (maxSteps := 999999) [-selQ_sel, hokQ_of, h_1, h_2]
theorem spec_LaidOk_ok0 (hm : Try.prog.follows .mixedOrders = true) (k_spec_ColorOk : Sound Try.prog 152 spec_ColorOk_x) : Sound Try.prog 109 spec_LaidOk_x := by
 refine xOf_sound fun q r h => ?_
 revert h; revert r; revert q; intro a0 r h
 refine fn_ok E0 hm Try.func109 rfl (by decide +kernel) (by rfl) fun Γ hn hk => ?_
 dsimp only [spec_LaidOk_e, spec_LaidOk_v]
 replace hn : Γ.n = 26 := hn
 replace hk : Γ.k = 0 := hk
 have H : HS (spec_LaidOk a0) r := h
 clear h; unfold spec_LaidOk at H
 try simp -implicitDefEqProofs at H
 refine Tr.of_vc (cl := tabC [(152, spec_ColorOk_x)]) (E := E0) [] (tab_cons k_spec_ColorOk tab_nil) hm (by rw [hn]; decide +kernel) ?_
 try simp -implicitDefEqProofs (maxSteps := 999999) [-selQ_sel]
 obtain ⟨v1, h_1, H⟩ := HS.bnd H
 try simp -implicitDefEqProofs (maxSteps := 999999) [-selQ_sel, h_1]
 refine Hid.selQ (fun h_2 => ?_) (fun h_2 => ?_)
 ·replace H := HS.cnd_t h_2 H
  try simp -implicitDefEqProofs (maxSteps := 999999) [-selQ_sel, h_1, h_2]
  refine Hid.selQ (fun h_3 => ?_) (fun h_3 => ?_)
  ·replace H := HS.cnd_t h_3 H
   try simp -implicitDefEqProofs (maxSteps := 999999) [-selQ_sel, h_1, h_2, h_3]
   refine Hid.selQ (fun h_4 => ?_) (fun h_4 => ?_)
   ·replace H := HS.cnd_t h_4 H
    try simp -implicitDefEqProofs (maxSteps := 999999) [-selQ_sel, h_1, h_2, h_3, h_4]
    have hr := (HS.some H).symm; subst hr
    refine Hid.mk ⟨_, Wk.refl _, ?_⟩
    try simp -implicitDefEqProofs (maxSteps := 999999) [-selQ_sel, h_1, h_2, h_3, h_4]
   ·replace H := HS.cnd_f h_4 H
    try simp -implicitDefEqProofs (maxSteps := 999999) [-selQ_sel, h_1, h_2, h_3, h_4]
    have hr := (HS.some H).symm; subst hr
    refine Hid.mk ⟨_, Wk.refl _, ?_⟩
    try simp -implicitDefEqProofs (maxSteps := 999999) [-selQ_sel, h_1, h_2, h_3, h_4]
  ·replace H := HS.cnd_f h_3 H
   try simp -implicitDefEqProofs (maxSteps := 999999) [-selQ_sel, h_1, h_2, h_3]
   have hr := (HS.some H).symm; subst hr
   refine Hid.mk ⟨_, Wk.refl _, ?_⟩
   try simp -implicitDefEqProofs (maxSteps := 999999) [-selQ_sel, h_1, h_2, h_3]
 ·replace H := HS.cnd_f h_2 H
  try simp -implicitDefEqProofs (maxSteps := 999999) [-selQ_sel, h_1, h_2]
  have hr := (HS.some H).symm; subst hr
  refine Hid.mk ⟨_, Wk.refl _, ?_⟩
  try simp -implicitDefEqProofs (maxSteps := 999999) [-selQ_sel, h_1, h_2]
theorem laws_szSurface_ok0 (hm : Try.prog.follows .mixedOrders = true) (k_laws_szColorS : Sound Try.prog 49 laws_szColorS_x) : Sound Try.prog 9 laws_szSurface_x := by
 refine xOf_sound fun q r h => ?_
 obtain ⟨a0, a1⟩ := q
 refine fn_ok E0 hm Try.func9 rfl (by decide +kernel) (by rfl) fun Γ hn hk => ?_
 dsimp only [laws_szSurface_e, laws_szSurface_v]
 replace hn : Γ.n = 12 := hn
 replace hk : Γ.k = 0 := hk
 have H : HS (laws_szSurface a0 a1) r := h
 clear h; unfold laws_szSurface at H
 try simp -implicitDefEqProofs at H
 refine Tr.of_vc (cl := tabC [(49, laws_szColorS_x)]) (E := E0) [] (tab_cons k_laws_szColorS tab_nil) hm (by rw [hn]; decide +kernel) ?_
 try simp -implicitDefEqProofs (maxSteps := 999999) [-selQ_sel]
 obtain ⟨v1, h_1, H⟩ := HS.bnd H
 try simp -implicitDefEqProofs (maxSteps := 999999) [-selQ_sel, h_1]
 refine Hid.brV (fun h_2 => ?_) (fun h_2 => ?_)
 ·replace H := HS.cnd_t h_2 H
  try simp -implicitDefEqProofs (maxSteps := 999999) [-selQ_sel, h_1, h_2]
  have hr := (HS.some H).symm; subst hr
  refine Hid.mk ⟨_, Wk.refl _, ?_⟩
  try simp -implicitDefEqProofs (maxSteps := 999999) [-selQ_sel, h_1, h_2]
 ·replace H := HS.cnd_f h_2 H
  try simp -implicitDefEqProofs (maxSteps := 999999) [-selQ_sel, h_1, h_2]
  have hr := (HS.some H).symm; subst hr
  refine Hid.mk ⟨_, Wk.refl _, ?_⟩
  try simp -implicitDefEqProofs (maxSteps := 999999) [-selQ_sel, h_1, h_2]
theorem spec_l01Figure_ok0 (hm : Try.prog.follows .mixedOrders = true) : Sound Try.prog 110 spec_l01Figure_x := by
 refine xOf_sound fun q r h => ?_
 revert h; revert r; revert q; intro a0 r h
 refine fn_ok E0 hm Try.func110 rfl (by decide +kernel) (by rfl) fun Γ hn hk => ?_
 dsimp only [spec_l01Figure_e, spec_l01Figure_v]
 replace hn : Γ.n = 12 := hn
 replace hk : Γ.k = 0 := hk
 have H : HS (spec_l01Figure a0) r := h
 clear h; unfold spec_l01Figure at H
 try simp -implicitDefEqProofs at H
 refine Tr.of_vc (cl := tabC []) (E := E0) [] tab_nil hm (by rw [hn]; decide +kernel) ?_
 try simp -implicitDefEqProofs (maxSteps := 999999) [-selQ_sel]
 refine Hid.brV (fun h_1 => ?_) (fun h_1 => ?_)
 ·replace H := HS.cnd_t h_1 H
  try simp -implicitDefEqProofs (maxSteps := 999999) [-selQ_sel, h_1]
  have hr := (HS.some H).symm; subst hr
  refine Hid.mk ⟨_, Wk.refl _, ?_⟩
  try simp -implicitDefEqProofs (maxSteps := 999999) [-selQ_sel, h_1]
 ·replace H := HS.cnd_f h_1 H
  try simp -implicitDefEqProofs (maxSteps := 999999) [-selQ_sel, h_1]
  have hr := (HS.some H).symm; subst hr
  refine Hid.mk ⟨_, Wk.refl _, ?_⟩
  try simp -implicitDefEqProofs (maxSteps := 999999) [-selQ_sel, h_1]
theorem spec_l01In_ok0 (hm : Try.prog.follows .mixedOrders = true) : Sound Try.prog 71 spec_l01In_x := by
 refine xOf_sound fun q r h => ?_
 obtain ⟨a0, a1, a2⟩ := q
 refine fn_ok E0 hm Try.func71 rfl (by decide +kernel) (by rfl) fun Γ hn hk => ?_
 dsimp only [spec_l01In_e, spec_l01In_v]
 replace hn : Γ.n = 15 := hn
 replace hk : Γ.k = 0 := hk
 have H : HS (spec_l01In a0 a1 a2) r := h
 clear h; unfold spec_l01In at H
 try simp -implicitDefEqProofs at H
 refine Tr.of_vc (cl := tabC []) (E := E0) [] tab_nil hm (by rw [hn]; decide +kernel) ?_
 try simp -implicitDefEqProofs (maxSteps := 999999) [-selQ_sel]
 refine Hid.selQ (fun h_1 => ?_) (fun h_1 => ?_)
 ·replace H := HS.cnd_t h_1 H
  try simp -implicitDefEqProofs (maxSteps := 999999) [-selQ_sel, h_1]
  have hr := (HS.some H).symm; subst hr
  refine Hid.mk ⟨_, Wk.refl _, ?_⟩
  try simp -implicitDefEqProofs (maxSteps := 999999) [-selQ_sel, h_1]
 ·replace H := HS.cnd_f h_1 H
  try simp -implicitDefEqProofs (maxSteps := 999999) [-selQ_sel, h_1]
  have hr := (HS.some H).symm; subst hr
  refine Hid.mk ⟨_, Wk.refl _, ?_⟩
  try simp -implicitDefEqProofs (maxSteps := 999999) [-selQ_sel, h_1]
theorem impl_isByte_ok0 (hm : Try.prog.follows .mixedOrders = true) (k_impl_inRange : Sound Try.prog 75 impl_inRange_x) : Sound Try.prog 139 impl_isByte_x := by
 refine xOf_sound fun q r h => ?_
 revert h; revert r; revert q; intro a0 r h
 refine fn_ok E0 hm Try.func139 rfl (by decide +kernel) (by rfl) fun Γ hn hk => ?_
 dsimp only [impl_isByte_e, impl_isByte_v]
 replace hn : Γ.n = 5 := hn
 replace hk : Γ.k = 0 := hk
 have H : HS (impl_isByte a0) r := h
 clear h; unfold impl_isByte at H
 try simp -implicitDefEqProofs at H
 refine Tr.of_vc (cl := tabC [(75, impl_inRange_x)]) (E := E0) [] (tab_cons k_impl_inRange tab_nil) hm (by rw [hn]; decide +kernel) ?_
 try simp -implicitDefEqProofs (maxSteps := 999999) [-selQ_sel]
 obtain ⟨v1, h_1, H⟩ := HS.bnd H
 try simp -implicitDefEqProofs (maxSteps := 999999) [-selQ_sel, h_1]
 have hr := (HS.some H).symm; subst hr
 refine Hid.mk ⟨_, Wk.refl _, ?_⟩
 try simp -implicitDefEqProofs (maxSteps := 999999) [-selQ_sel, h_1]
end Go.Proofs.Ytapchldnmkfkoaa.Am
