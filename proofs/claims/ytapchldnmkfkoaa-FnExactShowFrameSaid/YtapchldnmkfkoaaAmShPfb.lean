import Derived.Test.YtapchldnmkfkoaaAmShMo
set_option linter.unusedVariables false
set_option linter.unusedSimpArgs false
set_option linter.unusedSectionVars false
namespace Go.Proofs.Ytapchldnmkfkoaa.Am
open Go Go.Proofs
set_option maxRecDepth 100000
set_option linter.unusedSimpArgs false
set_option linter.unusedVariables false
set_option maxHeartbeats 4000000
theorem spec_ShowFrame_ok0 (hm : Try.prog.follows .mixedOrders = true) (k_spec_SurfaceOk : Sound Try.prog 50 spec_SurfaceOk_x) (k_spec_Hex : Sound Try.prog 51 spec_Hex_x) : Sound Try.prog 10 spec_ShowFrame_x := by
 refine xOf_sound fun q r h => ?_
 revert h; revert r; revert q; intro a0 r h
 refine fn_ok E0 hm Try.func10 rfl (by decide +kernel) (by rfl) fun Γ hn hk => ?_
 dsimp only [spec_ShowFrame_e, spec_ShowFrame_v]
 replace hn : Γ.n = 47 := hn
 replace hk : Γ.k = 0 := hk
 have H : HS (spec_ShowFrame a0) r := h
 clear h; unfold spec_ShowFrame at H
 try simp -implicitDefEqProofs at H
 refine Tr.of_vc (cl := tabC [(50, spec_SurfaceOk_x), (51, spec_Hex_x)]) (E := E0) [] (tab_cons k_spec_SurfaceOk (tab_cons k_spec_Hex tab_nil)) hm (by rw [hn]; decide +kernel) ?_
 try simp -implicitDefEqProofs (maxSteps := 999999) [-selQ_sel]
 obtain ⟨v1, h_1, H⟩ := HS.bnd H
 try simp -implicitDefEqProofs (maxSteps := 999999) [-selQ_sel, h_1]
 refine Hid.brV (fun h_2 => ?_) (fun h_2 => ?_)
 ·replace H := HS.cnd_t h_2 H
  try simp -implicitDefEqProofs (maxSteps := 999999) [-selQ_sel, h_1, h_2]
  obtain ⟨q, h_3, H⟩ := HS.bnd H
  refine Hid.mk (Tr.weak (s' := (spec_ShowFrame_l1_S a0) ([], 0)) (Wk.ofk [0] hk (by rfl) (by simp -implicitDefEqProofs [spec_ShowFrame_l1_S, h_1, h_2]) (by simp -implicitDefEqProofs [spec_ShowFrame_l1_S, h_1, h_2])) ?_)
  refine wp_loop_of (S := (spec_ShowFrame_l1_S a0)) (f := (spec_ShowFrame_l1 a0)) (xt := (spec_ShowFrame_l1_X a0)) ?_ ?_ h_3 ?_
  ·intro q; simp [spec_ShowFrame_l1_X]
  ·clear H h_3 q
   rintro ⟨x13, x14⟩ o R hf hR
   have H : HS (spec_ShowFrame_l1 a0 (x13, x14)) o := hf
   clear hf; unfold spec_ShowFrame_l1 at H
   try simp -implicitDefEqProofs at H
   refine Tr.of_vc (cl := tabC [(50, spec_SurfaceOk_x), (51, spec_Hex_x)]) (E := E0) [] (tab_cons k_spec_SurfaceOk (tab_cons k_spec_Hex tab_nil)) hm (by rw [hn]; decide +kernel) ?_
   try simp -implicitDefEqProofs (maxSteps := 999999) [-selQ_sel, spec_ShowFrame_l1_S]
   refine Hid.brV (fun h_4 => ?_) (fun h_4 => ?_)
   ·replace H := HS.cnd_t h_4 H
    try simp -implicitDefEqProofs (maxSteps := 999999) [-selQ_sel, h_4]
    have hr := (HS.some H).symm; subst hr
    exact Hid.mk ⟨(spec_ShowFrame_l1_X a0 x13).2, Wk.ofk [] hk (by rfl) (by simp -implicitDefEqProofs [spec_ShowFrame_l1_X, h_4]) (by simp -implicitDefEqProofs [spec_ShowFrame_l1_X, h_4]), hR⟩
   ·replace H := HS.cnd_f h_4 H
    try simp -implicitDefEqProofs (maxSteps := 999999) [-selQ_sel, h_4]
    obtain ⟨q, h_5, H⟩ := HS.bnd H
    refine Hid.mk (Tr.weak (s' := (spec_ShowFrame_l0_S a0 x14) (x13, 0)) (Wk.ofk [0] hk (by rfl) (by simp -implicitDefEqProofs [spec_ShowFrame_l0_S, h_4]) (by simp -implicitDefEqProofs [spec_ShowFrame_l0_S, h_4])) ?_)
    refine wp_loop_of (S := (spec_ShowFrame_l0_S a0 x14)) (f := (spec_ShowFrame_l0 a0 x14)) (xt := (spec_ShowFrame_l0_X a0 x14)) ?_ ?_ h_5 ?_
    ·intro q; simp [spec_ShowFrame_l0_X]
    ·clear H h_5 q
     rintro ⟨x19, x20⟩ o R hf hR
     have H : HS (spec_ShowFrame_l0 a0 x14 (x19, x20)) o := hf
     clear hf; unfold spec_ShowFrame_l0 at H
     try simp -implicitDefEqProofs at H
     refine Tr.of_vc (cl := tabC [(50, spec_SurfaceOk_x), (51, spec_Hex_x)]) (E := E0) [] (tab_cons k_spec_SurfaceOk (tab_cons k_spec_Hex tab_nil)) hm (by rw [hn]; decide +kernel) ?_
     try simp -implicitDefEqProofs (maxSteps := 999999) [-selQ_sel, spec_ShowFrame_l0_S]
     refine Hid.brV (fun h_6 => ?_) (fun h_6 => ?_)
     ·replace H := HS.cnd_t h_6 H
      try simp -implicitDefEqProofs (maxSteps := 999999) [-selQ_sel, h_6]
      have hr := (HS.some H).symm; subst hr
      exact Hid.mk ⟨(spec_ShowFrame_l0_X a0 x14 x19).2, Wk.ofk [0] hk (by rfl) (by simp -implicitDefEqProofs [spec_ShowFrame_l0_X, h_6]) (by simp -implicitDefEqProofs [spec_ShowFrame_l0_X, h_6]), hR⟩
     ·replace H := HS.cnd_f h_6 H
      try simp -implicitDefEqProofs (maxSteps := 999999) [-selQ_sel, h_6]
      obtain ⟨v21, h_7, H⟩ := HS.bnd H
      try simp -implicitDefEqProofs (maxSteps := 999999) [-selQ_sel, h_6, h_7]
      obtain ⟨⟨w23, w24⟩, h_8, H⟩ := HS.bnd H
      dsimp only at H
      try simp -implicitDefEqProofs (maxSteps := 999999) [-selQ_sel, h_6, h_7, h_8]
      obtain ⟨h_9, H⟩ := HS.chkP H
      try simp -implicitDefEqProofs (maxSteps := 999999) [-selQ_sel, h_6, h_7, h_8, h_9]
      have hr := (HS.some H).symm; subst hr
      exact Hid.mk ⟨spec_ShowFrame_l0_S a0 x14 ((x19 ++ w23), (IntKind.i64.wrap (x20 + 1))), Wk.ofk [0] hk (by rfl) (by simp -implicitDefEqProofs [spec_ShowFrame_l0_S, h_6, h_7, h_8, h_9]) (by simp -implicitDefEqProofs [spec_ShowFrame_l0_S, h_6, h_7, h_8, h_9]), hR⟩
    ·revert H h_5; revert q; intro y25 h_5 H
     try dsimp only at H
     try simp -implicitDefEqProofs (maxSteps := 999999) [-selQ_sel, h_4, spec_ShowFrame_l0_X]
     obtain ⟨h_10, H⟩ := HS.chkP H
     try simp -implicitDefEqProofs (maxSteps := 999999) [-selQ_sel, h_4, h_10]
     have hr := (HS.some H).symm; subst hr
     exact Hid.mk ⟨spec_ShowFrame_l1_S a0 ((y25 ++ [10]), (IntKind.i64.wrap (x14 + 1))), Wk.ofk [0] hk (by rfl) (by simp -implicitDefEqProofs [spec_ShowFrame_l1_S, h_4, h_10]) (by simp -implicitDefEqProofs [spec_ShowFrame_l1_S, h_4, h_10]), hR⟩
  ·revert H h_3; revert q; intro y26 h_3 H
   try dsimp only at H
   try simp -implicitDefEqProofs (maxSteps := 999999) [-selQ_sel, h_1, h_2, spec_ShowFrame_l1_X]
   have hr := (HS.some H).symm; subst hr
   refine Hid.mk ⟨_, Wk.refl _, ?_⟩
   try simp -implicitDefEqProofs (maxSteps := 999999) [-selQ_sel, h_1, h_2]
 ·replace H := HS.cnd_f h_2 H
  try simp -implicitDefEqProofs (maxSteps := 999999) [-selQ_sel, h_1, h_2]
  have hr := (HS.some H).symm; subst hr
  refine Hid.mk ⟨_, Wk.refl _, ?_⟩
  try simp -implicitDefEqProofs (maxSteps := 999999) [-selQ_sel, h_1, h_2]
theorem laws_eqColorS_ok0 (hm : Try.prog.follows .mixedOrders = true) (k_laws_eqColor : Sound Try.prog 115 laws_eqColor_x) : Sound Try.prog 58 laws_eqColorS_x := by
 refine xOf_sound fun q r h => ?_
 obtain ⟨a0, a1⟩ := q
 refine fn_ok E0 hm Try.func58 rfl (by decide +kernel) (by rfl) fun Γ hn hk => ?_
 dsimp only [laws_eqColorS_e, laws_eqColorS_v]
 replace hn : Γ.n = 27 := hn
 replace hk : Γ.k = 0 := hk
 have H : HS (laws_eqColorS a0 a1) r := h
 clear h; unfold laws_eqColorS at H
 try simp -implicitDefEqProofs at H
 refine Tr.of_vc (cl := tabC [(115, laws_eqColor_x)]) (E := E0) [] (tab_cons k_laws_eqColor tab_nil) hm (by rw [hn]; decide +kernel) ?_
 try simp -implicitDefEqProofs +decide (maxSteps := 999999) [-selQ_sel, hokQ_of]
 refine Hid.brV (fun h_1 => ?_) (fun h_1 => ?_)
 ·replace H := HS.cnd_t h_1 H
  try simp -implicitDefEqProofs +decide (maxSteps := 999999) [-selQ_sel, hokQ_of, h_1]
  obtain ⟨q, h_2, H⟩ := HS.bnd H
  refine Hid.mk (Tr.weak (s' := (laws_eqColorS_l0_S a0 a1) 0) (Wk.ofk [] hk (by rfl) (by simp -implicitDefEqProofs [laws_eqColorS_l0_S, h_1]) (by simp -implicitDefEqProofs [laws_eqColorS_l0_S, h_1])) ?_)
  refine wp_loop_of (S := (laws_eqColorS_l0_S a0 a1)) (f := (laws_eqColorS_l0 a0 a1)) (xt := (laws_eqColorS_l0_X a0 a1)) ?_ ?_ h_2 ?_
  ·intro q; rcases q with ⟨⟩ | ⟨⟩ <;> simp [laws_eqColorS_l0_X]
  ·clear H h_2 q
   rintro x4 o R hf hR
   have H : HS (laws_eqColorS_l0 a0 a1 x4) o := hf
   clear hf; unfold laws_eqColorS_l0 at H
   try simp -implicitDefEqProofs at H
   refine Tr.of_vc (cl := tabC [(115, laws_eqColor_x)]) (E := E0) [] (tab_cons k_laws_eqColor tab_nil) hm (by rw [hn]; decide +kernel) ?_
   try simp -implicitDefEqProofs +decide (maxSteps := 999999) [-selQ_sel, hokQ_of, laws_eqColorS_l0_S]
   refine Hid.brV (fun h_3 => ?_) (fun h_3 => ?_)
   ·replace H := HS.cnd_t h_3 H
    try simp -implicitDefEqProofs +decide (maxSteps := 999999) [-selQ_sel, hokQ_of, h_3]
    have hr := (HS.some H).symm; subst hr
    exact Hid.mk ⟨(laws_eqColorS_l0_X a0 a1 (.inl ())).2, Wk.ofk [] hk (by rfl) (by simp -implicitDefEqProofs [laws_eqColorS_l0_X, h_3]) (by simp -implicitDefEqProofs [laws_eqColorS_l0_X, h_3]), hR⟩
   ·replace H := HS.cnd_f h_3 H
    try simp -implicitDefEqProofs +decide (maxSteps := 999999) [-selQ_sel, hokQ_of, h_3]
    obtain ⟨v5, h_4, H⟩ := HS.bnd H
    try simp -implicitDefEqProofs +decide (maxSteps := 999999) [-selQ_sel, hokQ_of, h_3, h_4]
    obtain ⟨v6, h_5, H⟩ := HS.bnd H
    try simp -implicitDefEqProofs +decide (maxSteps := 999999) [-selQ_sel, hokQ_of, h_3, h_4, h_5]
    obtain ⟨v7, h_6, H⟩ := HS.bnd H
    try simp -implicitDefEqProofs +decide (maxSteps := 999999) [-selQ_sel, hokQ_of, h_3, h_4, h_5, h_6]
    refine Hid.brV (fun h_7 => ?_) (fun h_7 => ?_)
    ·replace H := HS.cnd_t h_7 H
     try simp -implicitDefEqProofs +decide (maxSteps := 999999) [-selQ_sel, hokQ_of, h_3, h_4, h_5, h_6, h_7]
     have hr := (HS.some H).symm; subst hr
     exact Hid.mk ⟨laws_eqColorS_l0_S a0 a1 (IntKind.i64.wrap (x4 + 1)), Wk.ofk [] hk (by rfl) (by simp -implicitDefEqProofs [laws_eqColorS_l0_S, h_3, h_4, h_5, h_6, h_7]) (by simp -implicitDefEqProofs [laws_eqColorS_l0_S, h_3, h_4, h_5, h_6, h_7]), hR⟩
    ·replace H := HS.cnd_f h_7 H
     try simp -implicitDefEqProofs +decide (maxSteps := 999999) [-selQ_sel, hokQ_of, h_3, h_4, h_5, h_6, h_7]
     have hr := (HS.some H).symm; subst hr
     exact Hid.mk ⟨(laws_eqColorS_l0_X a0 a1 (.inr ())).2, Wk.ofk [] hk (by rfl) (by simp -implicitDefEqProofs [laws_eqColorS_l0_X, h_3, h_4, h_5, h_6, h_7]) (by simp -implicitDefEqProofs [laws_eqColorS_l0_X, h_3, h_4, h_5, h_6, h_7]), hR⟩
  ·rcases q with ⟨⟩ | ⟨⟩
   ·dsimp only at H
    try simp -implicitDefEqProofs +decide (maxSteps := 999999) [-selQ_sel, hokQ_of, h_1, laws_eqColorS_l0_X]
    have hr := (HS.some H).symm; subst hr
    refine Hid.mk ⟨_, Wk.refl _, ?_⟩
    try simp -implicitDefEqProofs +decide (maxSteps := 999999) [-selQ_sel, hokQ_of, h_1]
   ·dsimp only at H
    try simp -implicitDefEqProofs +decide (maxSteps := 999999) [-selQ_sel, hokQ_of, h_1, laws_eqColorS_l0_X]
    have hr := (HS.some H).symm; subst hr
    refine Hid.mk ⟨_, Wk.refl _, ?_⟩
    try simp -implicitDefEqProofs +decide (maxSteps := 999999) [-selQ_sel, hokQ_of, h_1]
 ·replace H := HS.cnd_f h_1 H
  try simp -implicitDefEqProofs +decide (maxSteps := 999999) [-selQ_sel, hokQ_of, h_1]
  have hr := (HS.some H).symm; subst hr
  refine Hid.mk ⟨_, Wk.refl _, ?_⟩
  try simp -implicitDefEqProofs +decide (maxSteps := 999999) [-selQ_sel, hokQ_of, h_1]
theorem spec_Hex_ok0 (hm : Try.prog.follows .mixedOrders = true) (k_spec_l01Figure : Sound Try.prog 110 spec_l01Figure_x) : Sound Try.prog 51 spec_Hex_x := by
 refine xOf_sound fun q r h => ?_
 revert h; revert r; revert q; intro a0 r h
 refine fn_ok E0 hm Try.func51 rfl (by decide +kernel) (by rfl) fun Γ hn hk => ?_
 dsimp only [spec_Hex_e, spec_Hex_v]
 replace hn : Γ.n = 33 := hn
 replace hk : Γ.k = 0 := hk
 have H : HS (spec_Hex a0) r := h
 clear h; unfold spec_Hex at H
 try simp -implicitDefEqProofs at H
 refine Tr.of_vc (cl := tabC [(110, spec_l01Figure_x)]) (E := E0) [] (tab_cons k_spec_l01Figure tab_nil) hm (by rw [hn]; decide +kernel) ?_
 try simp -implicitDefEqProofs +decide (maxSteps := 999999) [-selQ_sel, hokQ_of]
 refine Hid.brV (fun h_1 => ?_) (fun h_1 => ?_)
 ·replace H := HS.cnd_t h_1 H
  try simp -implicitDefEqProofs +decide (maxSteps := 999999) [-selQ_sel, hokQ_of, h_1]
  obtain ⟨q, h_2, H⟩ := HS.bnd H
  refine Hid.mk (Tr.weak (s' := (spec_Hex_l0_S a0) (0, [])) (Wk.ofk [0] hk (by rfl) (by simp -implicitDefEqProofs [spec_Hex_l0_S, h_1]) (by simp -implicitDefEqProofs [spec_Hex_l0_S, h_1])) ?_)
  refine wp_loop_of (S := (spec_Hex_l0_S a0)) (f := (spec_Hex_l0 a0)) (xt := (spec_Hex_l0_X a0)) ?_ ?_ h_2 ?_
  ·intro q; simp [spec_Hex_l0_X]
  ·clear H h_2 q
   rintro ⟨x4, x5⟩ o R hf hR
   have H : HS (spec_Hex_l0 a0 (x4, x5)) o := hf
   clear hf; unfold spec_Hex_l0 at H
   try simp -implicitDefEqProofs at H
   refine Tr.of_vc (cl := tabC [(110, spec_l01Figure_x)]) (E := E0) [] (tab_cons k_spec_l01Figure tab_nil) hm (by rw [hn]; decide +kernel) ?_
   try simp -implicitDefEqProofs +decide (maxSteps := 999999) [-selQ_sel, hokQ_of, spec_Hex_l0_S]
   refine Hid.brV (fun h_3 => ?_) (fun h_3 => ?_)
   ·replace H := HS.cnd_t h_3 H
    try simp -implicitDefEqProofs +decide (maxSteps := 999999) [-selQ_sel, hokQ_of, h_3]
    have hr := (HS.some H).symm; subst hr
    exact Hid.mk ⟨(spec_Hex_l0_X a0 x5).2, Wk.ofk [0] hk (by rfl) (by simp -implicitDefEqProofs [spec_Hex_l0_X, h_3]) (by simp -implicitDefEqProofs [spec_Hex_l0_X, h_3]), hR⟩
   ·replace H := HS.cnd_f h_3 H
    try simp -implicitDefEqProofs +decide (maxSteps := 999999) [-selQ_sel, hokQ_of, h_3]
    obtain ⟨b6, h_4, H⟩ := HS.bnd H
    try simp -implicitDefEqProofs +decide (maxSteps := 999999) [-selQ_sel, hokQ_of, h_3, h_4]
    obtain ⟨v7, h_5, H⟩ := HS.bnd H
    try simp -implicitDefEqProofs +decide (maxSteps := 999999) [-selQ_sel, hokQ_of, h_3, h_4, h_5]
    obtain ⟨v8, h_6, H⟩ := HS.bnd H
    try simp -implicitDefEqProofs +decide (maxSteps := 999999) [-selQ_sel, hokQ_of, h_3, h_4, h_5, h_6]
    obtain ⟨h_7, H⟩ := HS.chkP H
    try simp -implicitDefEqProofs +decide (maxSteps := 999999) [-selQ_sel, hokQ_of, h_3, h_4, h_5, h_6, h_7]
    obtain ⟨l9, h_8, H⟩ := HS.nam H
    have m_9 := congrArg (List.map (AV.int .u8)) h_8
    have q_10 := congrArg List.length h_8
    simp -implicitDefEqProofs at m_9 q_10
    try simp only [q_10] at m_9
    try simp only [q_10] at h_7
    try simp -implicitDefEqProofs +decide (maxSteps := 999999) [-selQ_sel, hokQ_of, h_3, h_4, h_5, h_6, h_7, m_9, q_10]
    have hr := (HS.some H).symm; subst hr
    exact Hid.mk ⟨spec_Hex_l0_S a0 ((IntKind.i64.wrap (x4 + 1)), l9), Wk.ofk [0] hk (by rfl) (by simp -implicitDefEqProofs [spec_Hex_l0_S, h_3, h_4, h_5, h_6, h_7, m_9, q_10]) (by simp -implicitDefEqProofs [spec_Hex_l0_S, h_3, h_4, h_5, h_6, h_7, m_9, q_10]), hR⟩
  ·revert H h_2; revert q; intro y10 h_2 H
   try dsimp only at H
   try simp -implicitDefEqProofs +decide (maxSteps := 999999) [-selQ_sel, hokQ_of, h_1, spec_Hex_l0_X]
   have hr := (HS.some H).symm; subst hr
   refine Hid.mk ⟨_, Wk.refl _, ?_⟩
   try simp -implicitDefEqProofs +decide (maxSteps := 999999) [-selQ_sel, hokQ_of, h_1]
 ·replace H := HS.cnd_f h_1 H
  try simp -implicitDefEqProofs +decide (maxSteps := 999999) [-selQ_sel, hokQ_of, h_1]
  have hr := (HS.some H).symm; subst hr
  refine Hid.mk ⟨_, Wk.refl _, ?_⟩
  try simp -implicitDefEqProofs +decide (maxSteps := 999999) [-selQ_sel, hokQ_of, h_1]
theorem laws_toColorS_ok0 (hm : Try.prog.follows .mixedOrders = true) (k_laws_toColor : Sound Try.prog 111 laws_toColor_x) : Sound Try.prog 52 laws_toColorS_x := by
 refine xOf_sound fun q r h => ?_
 revert h; revert r; revert q; intro a0 r h
 refine fn_ok E0 hm Try.func52 rfl (by decide +kernel) (by rfl) fun Γ hn hk => ?_
 dsimp only [laws_toColorS_e, laws_toColorS_v]
 replace hn : Γ.n = 23 := hn
 replace hk : Γ.k = 0 := hk
 have H : HS (laws_toColorS a0) r := h
 clear h; unfold laws_toColorS at H
 try simp -implicitDefEqProofs at H
 refine Tr.of_vc (cl := tabC [(111, laws_toColor_x)]) (E := E0) [] (tab_cons k_laws_toColor tab_nil) hm (by rw [hn]; decide +kernel) ?_
 try simp -implicitDefEqProofs (maxSteps := 999999) [-selQ_sel]
 obtain ⟨h_1, H⟩ := HS.chkP H
 try simp -implicitDefEqProofs (maxSteps := 999999) [-selQ_sel, h_1]
 obtain ⟨l1, h_2, H⟩ := HS.nam H
 have m_3 := congrArg (List.map eColor) h_2
 have q_4 := congrArg List.length h_2
 simp -implicitDefEqProofs at m_3 q_4
 try simp only [q_4] at m_3
 try simp only [q_4] at h_1
 try simp -implicitDefEqProofs (maxSteps := 999999) [-selQ_sel, h_1, m_3, q_4]
 obtain ⟨q, h_5, H⟩ := HS.bnd H
 refine Hid.mk (Tr.weak (s' := (laws_toColorS_l0_S a0) (0, l1)) (Wk.ofk [0] hk (by rfl) (by simp -implicitDefEqProofs [laws_toColorS_l0_S, h_1, m_3, q_4]) (by simp -implicitDefEqProofs [laws_toColorS_l0_S, h_1, m_3, q_4])) ?_)
 refine wp_loop_of (S := (laws_toColorS_l0_S a0)) (f := (laws_toColorS_l0 a0)) (xt := (laws_toColorS_l0_X a0)) ?_ ?_ h_5 ?_
 ·intro q; simp [laws_toColorS_l0_X]
 ·clear H h_5 q
  rintro ⟨x6, x7⟩ o R hf hR
  have H : HS (laws_toColorS_l0 a0 (x6, x7)) o := hf
  clear hf; unfold laws_toColorS_l0 at H
  try simp -implicitDefEqProofs at H
  refine Tr.of_vc (cl := tabC [(111, laws_toColor_x)]) (E := E0) [] (tab_cons k_laws_toColor tab_nil) hm (by rw [hn]; decide +kernel) ?_
  try simp -implicitDefEqProofs (maxSteps := 999999) [-selQ_sel, laws_toColorS_l0_S]
  refine Hid.brV (fun h_6 => ?_) (fun h_6 => ?_)
  ·replace H := HS.cnd_t h_6 H
   try simp -implicitDefEqProofs (maxSteps := 999999) [-selQ_sel, h_6]
   have hr := (HS.some H).symm; subst hr
   exact Hid.mk ⟨(laws_toColorS_l0_X a0 x7).2, Wk.ofk [0] hk (by rfl) (by simp -implicitDefEqProofs [laws_toColorS_l0_X, h_6]) (by simp -implicitDefEqProofs [laws_toColorS_l0_X, h_6]), hR⟩
  ·replace H := HS.cnd_f h_6 H
   try simp -implicitDefEqProofs (maxSteps := 999999) [-selQ_sel, h_6]
   obtain ⟨v8, h_7, H⟩ := HS.bnd H
   try simp -implicitDefEqProofs (maxSteps := 999999) [-selQ_sel, h_6, h_7]
   obtain ⟨v9, h_8, H⟩ := HS.bnd H
   try simp -implicitDefEqProofs (maxSteps := 999999) [-selQ_sel, h_6, h_7, h_8]
   obtain ⟨v10, h_9, H⟩ := HS.bnd H
   have g_10 := idx_get h_9
   try simp -implicitDefEqProofs (maxSteps := 999999) [-selQ_sel, h_6, h_7, h_8, h_9, g_10]
   obtain ⟨l11, h_11, H⟩ := HS.nam H
   have m_12 := congrArg (List.map eColor) h_11
   have q_13 := congrArg List.length h_11
   simp -implicitDefEqProofs at m_12 q_13
   try simp only [q_13] at m_12
   try simp only [q_13] at g_10
   try simp -implicitDefEqProofs (maxSteps := 999999) [-selQ_sel, h_6, h_7, h_8, h_9, g_10, m_12, q_13]
   have hr := (HS.some H).symm; subst hr
   exact Hid.mk ⟨laws_toColorS_l0_S a0 ((IntKind.i64.wrap (x6 + 1)), l11), Wk.ofk [0] hk (by rfl) (by simp -implicitDefEqProofs [laws_toColorS_l0_S, h_6, h_7, h_8, h_9, g_10, m_12, q_13]) (by simp -implicitDefEqProofs [laws_toColorS_l0_S, h_6, h_7, h_8, h_9, g_10, m_12, q_13]), hR⟩
 ·revert H h_5; revert q; intro y12 h_5 H
  try dsimp only at H
  try simp -implicitDefEqProofs (maxSteps := 999999) [-selQ_sel, h_1, m_3, q_4, laws_toColorS_l0_X]
  have hr := (HS.some H).symm; subst hr
  refine Hid.mk ⟨_, Wk.refl _, ?_⟩
  try simp -implicitDefEqProofs (maxSteps := 999999) [-selQ_sel, h_1, m_3, q_4]
theorem spec_ColorOk_ok0 (hm : Try.prog.follows .mixedOrders = true) (k_spec_l01In : Sound Try.prog 71 spec_l01In_x) : Sound Try.prog 152 spec_ColorOk_x := by
 refine xOf_sound fun q r h => ?_
 revert h; revert r; revert q; intro a0 r h
 refine fn_ok E0 hm Try.func152 rfl (by decide +kernel) (by rfl) fun Γ hn hk => ?_
 dsimp only [spec_ColorOk_e, spec_ColorOk_v]
 replace hn : Γ.n = 21 := hn
 replace hk : Γ.k = 0 := hk
 have H : HS (spec_ColorOk a0) r := h
 clear h; unfold spec_ColorOk at H
 try simp -implicitDefEqProofs at H
 refine Tr.of_vc (cl := tabC [(71, spec_l01In_x)]) (E := E0) [] (tab_cons k_spec_l01In tab_nil) hm (by rw [hn]; decide +kernel) ?_
 try simp -implicitDefEqProofs (maxSteps := 999999) [-selQ_sel]
 obtain ⟨v1, h_1, H⟩ := HS.bnd H
 try simp -implicitDefEqProofs (maxSteps := 999999) [-selQ_sel, h_1]
 refine Hid.selQ (fun h_2 => ?_) (fun h_2 => ?_)
 ·replace H := HS.cnd_t h_2 H
  try simp -implicitDefEqProofs (maxSteps := 999999) [-selQ_sel, h_1, h_2]
  obtain ⟨v2, h_3, H⟩ := HS.bnd H
  try simp -implicitDefEqProofs (maxSteps := 999999) [-selQ_sel, h_1, h_2, h_3]
  refine Hid.selQ (fun h_4 => ?_) (fun h_4 => ?_)
  ·replace H := HS.cnd_t h_4 H
   try simp -implicitDefEqProofs (maxSteps := 999999) [-selQ_sel, h_1, h_2, h_3, h_4]
   obtain ⟨v3, h_5, H⟩ := HS.bnd H
   try simp -implicitDefEqProofs (maxSteps := 999999) [-selQ_sel, h_1, h_2, h_3, h_4, h_5]
   refine Hid.selQ (fun h_6 => ?_) (fun h_6 => ?_)
   ·replace H := HS.cnd_t h_6 H
    try simp -implicitDefEqProofs (maxSteps := 999999) [-selQ_sel, h_1, h_2, h_3, h_4, h_5, h_6]
    obtain ⟨v4, h_7, H⟩ := HS.bnd H
    try simp -implicitDefEqProofs (maxSteps := 999999) [-selQ_sel, h_1, h_2, h_3, h_4, h_5, h_6, h_7]
    have hr := (HS.some H).symm; subst hr
    refine Hid.mk ⟨_, Wk.refl _, ?_⟩
    try simp -implicitDefEqProofs (maxSteps := 999999) [-selQ_sel, h_1, h_2, h_3, h_4, h_5, h_6, h_7]
   ·replace H := HS.cnd_f h_6 H
    try simp -implicitDefEqProofs (maxSteps := 999999) [-selQ_sel, h_1, h_2, h_3, h_4, h_5, h_6]
    have hr := (HS.some H).symm; subst hr
    refine Hid.mk ⟨_, Wk.refl _, ?_⟩
    try simp -implicitDefEqProofs (maxSteps := 999999) [-selQ_sel, h_1, h_2, h_3, h_4, h_5, h_6]
  ·replace H := HS.cnd_f h_4 H
   try simp -implicitDefEqProofs (maxSteps := 999999) [-selQ_sel, h_1, h_2, h_3, h_4]
   have hr := (HS.some H).symm; subst hr
   refine Hid.mk ⟨_, Wk.refl _, ?_⟩
   try simp -implicitDefEqProofs (maxSteps := 999999) [-selQ_sel, h_1, h_2, h_3, h_4]
 ·replace H := HS.cnd_f h_2 H
  try simp -implicitDefEqProofs (maxSteps := 999999) [-selQ_sel, h_1, h_2]
  have hr := (HS.some H).symm; subst hr
  refine Hid.mk ⟨_, Wk.refl _, ?_⟩
  try simp -implicitDefEqProofs (maxSteps := 999999) [-selQ_sel, h_1, h_2]
theorem impl_LaidOk_ok0 (hm : Try.prog.follows .mixedOrders = true) (k_impl_ColorOk : Sound Try.prog 153 impl_ColorOk_x) : Sound Try.prog 113 impl_LaidOk_x := by
 refine xOf_sound fun q r h => ?_
 revert h; revert r; revert q; intro a0 r h
 refine fn_ok E0 hm Try.func113 rfl (by decide +kernel) (by rfl) fun Γ hn hk => ?_
 dsimp only [impl_LaidOk_e, impl_LaidOk_v]
 replace hn : Γ.n = 26 := hn
 replace hk : Γ.k = 0 := hk
 have H : HS (impl_LaidOk a0) r := h
 clear h; unfold impl_LaidOk at H
 try simp -implicitDefEqProofs at H
 refine Tr.of_vc (cl := tabC [(153, impl_ColorOk_x)]) (E := E0) [] (tab_cons k_impl_ColorOk tab_nil) hm (by rw [hn]; decide +kernel) ?_
 try simp -implicitDefEqProofs (maxSteps := 999999) [-selQ_sel]
 obtain ⟨v1, h_1, H⟩ := HS.bnd H
 try simp -implicitDefEqProofs (maxSteps := 999999) [-selQ_sel, h_1]
 refine Hid.selQ (fun h_2 => ?_) (fun h_2 => ?_)
 ·replace H := HS.cnd_t h_2 H
  try simp -implicitDefEqProofs (maxSteps := 999999) [-selQ_sel, h_1, h_2]
  refine Hid.selQ (fun h_3 => ?_) (fun h_3 => ?_)
  ·replace H := HS.cnd_t h_3 H
   try simp -implicitDefEqProofs (maxSteps := 999999) [-selQ_sel, h_1, h_2, h_3]
   refine Hid.selQ (fun h_4 => ?_) (fun h_4 => ?_)
   ·replace H := HS.cnd_t h_4 H
    try simp -implicitDefEqProofs (maxSteps := 999999) [-selQ_sel, h_1, h_2, h_3, h_4]
    have hr := (HS.some H).symm; subst hr
    refine Hid.mk ⟨_, Wk.refl _, ?_⟩
    try simp -implicitDefEqProofs (maxSteps := 999999) [-selQ_sel, h_1, h_2, h_3, h_4]
   ·replace H := HS.cnd_f h_4 H
    try simp -implicitDefEqProofs (maxSteps := 999999) [-selQ_sel, h_1, h_2, h_3, h_4]
    have hr := (HS.some H).symm; subst hr
    refine Hid.mk ⟨_, Wk.refl _, ?_⟩
    try simp -implicitDefEqProofs (maxSteps := 999999) [-selQ_sel, h_1, h_2, h_3, h_4]
  ·replace H := HS.cnd_f h_3 H
   try simp -implicitDefEqProofs (maxSteps := 999999) [-selQ_sel, h_1, h_2, h_3]
   have hr := (HS.some H).symm; subst hr
   refine Hid.mk ⟨_, Wk.refl _, ?_⟩
   try simp -implicitDefEqProofs (maxSteps := 999999) [-selQ_sel, h_1, h_2, h_3]
 ·replace H := HS.cnd_f h_2 H
  try simp -implicitDefEqProofs (maxSteps := 999999) [-selQ_sel, h_1, h_2]
  have hr := (HS.some H).symm; subst hr
  refine Hid.mk ⟨_, Wk.refl _, ?_⟩
  try simp -implicitDefEqProofs (maxSteps := 999999) [-selQ_sel, h_1, h_2]
theorem impl_inRange_ok0 (hm : Try.prog.follows .mixedOrders = true) : Sound Try.prog 75 impl_inRange_x := by
 refine xOf_sound fun q r h => ?_
 obtain ⟨a0, a1, a2⟩ := q
 refine fn_ok E0 hm Try.func75 rfl (by decide +kernel) (by rfl) fun Γ hn hk => ?_
 dsimp only [impl_inRange_e, impl_inRange_v]
 replace hn : Γ.n = 15 := hn
 replace hk : Γ.k = 0 := hk
 have H : HS (impl_inRange a0 a1 a2) r := h
 clear h; unfold impl_inRange at H
 try simp -implicitDefEqProofs at H
 refine Tr.of_vc (cl := tabC []) (E := E0) [] tab_nil hm (by rw [hn]; decide +kernel) ?_
 try simp -implicitDefEqProofs (maxSteps := 999999) [-selQ_sel]
 refine Hid.selQ (fun h_1 => ?_) (fun h_1 => ?_)
 ·replace H := HS.cnd_t h_1 H
  try simp -implicitDefEqProofs (maxSteps := 999999) [-selQ_sel, h_1]
  have hr := (HS.some H).symm; subst hr
  refine Hid.mk ⟨_, Wk.refl _, ?_⟩
  try simp -implicitDefEqProofs (maxSteps := 999999) [-selQ_sel, h_1]
 ·replace H := HS.cnd_f h_1 H
  try simp -implicitDefEqProofs (maxSteps := 999999) [-selQ_sel, h_1]
  have hr := (HS.some H).symm; subst hr
  refine Hid.mk ⟨_, Wk.refl _, ?_⟩
  try simp -implicitDefEqProofs (maxSteps := 999999) [-selQ_sel, h_1]
theorem laws_toSurface_ok0 (hm : Try.prog.follows .mixedOrders = true) (k_laws_toColorS : Sound Try.prog 52 laws_toColorS_x) : Sound Try.prog 11 laws_toSurface_x := by
 refine xOf_sound fun q r h => ?_
 revert h; revert r; revert q; intro a0 r h
 refine fn_ok E0 hm Try.func11 rfl (by decide +kernel) (by rfl) fun Γ hn hk => ?_
 dsimp only [laws_toSurface_e, laws_toSurface_v]
 replace hn : Γ.n = 15 := hn
 replace hk : Γ.k = 0 := hk
 have H : HS (laws_toSurface a0) r := h
 clear h; unfold laws_toSurface at H
 try simp -implicitDefEqProofs at H
 refine Tr.of_vc (cl := tabC [(52, laws_toColorS_x)]) (E := E0) [] (tab_cons k_laws_toColorS tab_nil) hm (by rw [hn]; decide +kernel) ?_
 try simp -implicitDefEqProofs (maxSteps := 999999) [-selQ_sel]
 obtain ⟨v1, h_1, H⟩ := HS.bnd H
 try simp -implicitDefEqProofs (maxSteps := 999999) [-selQ_sel, h_1]
 have hr := (HS.some H).symm; subst hr
 refine Hid.mk ⟨_, Wk.refl _, ?_⟩
 try simp -implicitDefEqProofs (maxSteps := 999999) [-selQ_sel, h_1]
theorem laws_toColor_ok0 (hm : Try.prog.follows .mixedOrders = true) : Sound Try.prog 111 laws_toColor_x := by
 refine xOf_sound fun q r h => ?_
 revert h; revert r; revert q; intro a0 r h
 refine fn_ok E0 hm Try.func111 rfl (by decide +kernel) (by rfl) fun Γ hn hk => ?_
 dsimp only [laws_toColor_e, laws_toColor_v]
 replace hn : Γ.n = 17 := hn
 replace hk : Γ.k = 0 := hk
 have H : HS (laws_toColor a0) r := h
 clear h; unfold laws_toColor at H
 try simp -implicitDefEqProofs at H
 refine Tr.of_vc (cl := tabC []) (E := E0) [] tab_nil hm (by rw [hn]; decide +kernel) ?_
 try simp -implicitDefEqProofs (maxSteps := 999999) [-selQ_sel]
 have hr := (HS.some H).symm; subst hr
 refine Hid.mk ⟨_, Wk.refl _, ?_⟩
 try simp -implicitDefEqProofs (maxSteps := 999999) [-selQ_sel]
end Go.Proofs.Ytapchldnmkfkoaa.Am
