import Derived.Test.YtapchldnmkfkoaaAmFoNa
set_option linter.unusedVariables false
set_option linter.unusedSimpArgs false
set_option linter.unusedSectionVars false
namespace Go.Proofs.Ytapchldnmkfkoaa.Am
open Go Go.Proofs
set_option maxRecDepth 100000
set_option linter.unusedSimpArgs false
set_option linter.unusedVariables false
set_option maxHeartbeats 4000000
theorem spec_Forget_ok0 (hm : Try.prog.follows .mixedOrders = true) (k_spec_l21Copy : Sound Try.prog 60 spec_l21Copy_x) : Sound Try.prog 15 spec_Forget_x := by
 refine xOf_sound fun q r h => ?_
 obtain ⟨a0, a1⟩ := q
 refine fn_ok E0 hm Try.func15 rfl (by decide +kernel) (by rfl) fun Γ hn hk => ?_
 dsimp only [spec_Forget_e, spec_Forget_v]
 replace hn : Γ.n = 53 := hn
 replace hk : Γ.k = 0 := hk
 have H : HS (spec_Forget a0 a1) r := h
 clear h; unfold spec_Forget at H
 try simp -implicitDefEqProofs at H
 refine Tr.of_vc (cl := tabC [(60, spec_l21Copy_x)]) (E := E0) [] (tab_cons k_spec_l21Copy tab_nil) hm (by rw [hn]; decide +kernel) ?_
 try simp -implicitDefEqProofs +decide (maxSteps := 999999) [-selQ_sel, hokQ_of]
 obtain ⟨q, h_1, H⟩ := HS.bnd H
 refine Hid.mk (Tr.weak (s' := (spec_Forget_l1_S a0 a1) (0, [])) (Wk.ofk [0, 1, 2, 3] hk (by rfl) (by simp -implicitDefEqProofs [spec_Forget_l1_S]) (by simp -implicitDefEqProofs [spec_Forget_l1_S])) ?_)
 refine wp_loop_of (S := (spec_Forget_l1_S a0 a1)) (f := (spec_Forget_l1 a0 a1)) (xt := (spec_Forget_l1_X a0 a1)) ?_ ?_ h_1 ?_
 ·intro q; simp [spec_Forget_l1_X]
 ·clear H h_1 q
  rintro ⟨x9, x10⟩ o R hf hR
  have H : HS (spec_Forget_l1 a0 a1 (x9, x10)) o := hf
  clear hf; unfold spec_Forget_l1 at H
  try simp -implicitDefEqProofs at H
  refine Tr.of_vc (cl := tabC [(60, spec_l21Copy_x)]) (E := E0) [] (tab_cons k_spec_l21Copy tab_nil) hm (by rw [hn]; decide +kernel) ?_
  try simp -implicitDefEqProofs +decide (maxSteps := 999999) [-selQ_sel, hokQ_of, spec_Forget_l1_S]
  refine Hid.brV (fun h_2 => ?_) (fun h_2 => ?_)
  ·replace H := HS.cnd_t h_2 H
   try simp -implicitDefEqProofs +decide (maxSteps := 999999) [-selQ_sel, hokQ_of, h_2]
   have hr := (HS.some H).symm; subst hr
   exact Hid.mk ⟨(spec_Forget_l1_X a0 a1 x10).2, Wk.ofk [1, 2, 3] hk (by rfl) (by simp -implicitDefEqProofs [spec_Forget_l1_X, h_2]) (by simp -implicitDefEqProofs [spec_Forget_l1_X, h_2]), hR⟩
  ·replace H := HS.cnd_f h_2 H
   try simp -implicitDefEqProofs +decide (maxSteps := 999999) [-selQ_sel, hokQ_of, h_2]
   obtain ⟨q, h_3, H⟩ := HS.bnd H
   refine Hid.mk (Tr.weak (s' := (spec_Forget_l0_S a0 a1 x9 x10) (false, 0)) (Wk.ofk [0, 1, 2, 3] hk (by rfl) (by simp -implicitDefEqProofs [spec_Forget_l0_S, h_2]) (by simp -implicitDefEqProofs [spec_Forget_l0_S, h_2])) ?_)
   refine wp_loop_of (S := (spec_Forget_l0_S a0 a1 x9 x10)) (f := (spec_Forget_l0 a0 a1 x9 x10)) (xt := (spec_Forget_l0_X a0 a1 x9 x10)) ?_ ?_ h_3 ?_
   ·intro q; simp [spec_Forget_l0_X]
   ·clear H h_3 q
    rintro ⟨x13, x14⟩ o R hf hR
    have H : HS (spec_Forget_l0 a0 a1 x9 x10 (x13, x14)) o := hf
    clear hf; unfold spec_Forget_l0 at H
    try simp -implicitDefEqProofs at H
    refine Tr.of_vc (cl := tabC [(60, spec_l21Copy_x)]) (E := E0) [] (tab_cons k_spec_l21Copy tab_nil) hm (by rw [hn]; decide +kernel) ?_
    try simp -implicitDefEqProofs +decide (maxSteps := 999999) [-selQ_sel, hokQ_of, spec_Forget_l0_S]
    refine Hid.brV (fun h_4 => ?_) (fun h_4 => ?_)
    ·replace H := HS.cnd_t h_4 H
     try simp -implicitDefEqProofs +decide (maxSteps := 999999) [-selQ_sel, hokQ_of, h_4]
     have hr := (HS.some H).symm; subst hr
     exact Hid.mk ⟨(spec_Forget_l0_X a0 a1 x9 x10 x13).2, Wk.ofk [0, 1, 2, 3] hk (by rfl) (by simp -implicitDefEqProofs [spec_Forget_l0_X, h_4]) (by simp -implicitDefEqProofs [spec_Forget_l0_X, h_4]), hR⟩
    ·replace H := HS.cnd_f h_4 H
     try simp -implicitDefEqProofs +decide (maxSteps := 999999) [-selQ_sel, hokQ_of, h_4]
     refine Hid.selQ (fun h_5 => ?_) (fun h_5 => ?_)
     ·replace H := HS.cnd_t h_5 H
      try simp -implicitDefEqProofs +decide (maxSteps := 999999) [-selQ_sel, hokQ_of, h_4, h_5]
      have hr := (HS.some H).symm; subst hr
      exact Hid.mk ⟨spec_Forget_l0_S a0 a1 x9 x10 (true, (IntKind.i64.wrap (x14 + 1))), Wk.ofk [0, 1, 2, 3] hk (by rfl) (by simp -implicitDefEqProofs [spec_Forget_l0_S, h_4, h_5]) (by simp -implicitDefEqProofs [spec_Forget_l0_S, h_4, h_5]), hR⟩
     ·replace H := HS.cnd_f h_5 H
      try simp -implicitDefEqProofs +decide (maxSteps := 999999) [-selQ_sel, hokQ_of, h_4, h_5]
      obtain ⟨v15, h_6, H⟩ := HS.bnd H
      try simp -implicitDefEqProofs +decide (maxSteps := 999999) [-selQ_sel, hokQ_of, h_4, h_5, h_6]
      obtain ⟨v16, h_7, H⟩ := HS.bnd H
      try simp -implicitDefEqProofs +decide (maxSteps := 999999) [-selQ_sel, hokQ_of, h_4, h_5, h_6, h_7]
      have hr := (HS.some H).symm; subst hr
      exact Hid.mk ⟨spec_Forget_l0_S a0 a1 x9 x10 ((ieq v15 v16.id), (IntKind.i64.wrap (x14 + 1))), Wk.ofk [0, 1, 2, 3] hk (by rfl) (by simp -implicitDefEqProofs [spec_Forget_l0_S, h_4, h_5, h_6, h_7]) (by simp -implicitDefEqProofs [spec_Forget_l0_S, h_4, h_5, h_6, h_7]), hR⟩
   ·revert H h_3; revert q; intro y17 h_3 H
    try dsimp only at H
    try simp -implicitDefEqProofs +decide (maxSteps := 999999) [-selQ_sel, hokQ_of, h_2, spec_Forget_l0_X]
    refine Hid.brV (fun h_8 => ?_) (fun h_8 => ?_)
    ·replace H := HS.cnd_t h_8 H
     try simp -implicitDefEqProofs +decide (maxSteps := 999999) [-selQ_sel, hokQ_of, h_2, h_8]
     have hr := (HS.some H).symm; subst hr
     exact Hid.mk ⟨spec_Forget_l1_S a0 a1 ((IntKind.i64.wrap (x9 + 1)), x10), Wk.ofk [0, 1, 2, 3] hk (by rfl) (by simp -implicitDefEqProofs [spec_Forget_l1_S, h_2, h_8]) (by simp -implicitDefEqProofs [spec_Forget_l1_S, h_2, h_8]), hR⟩
    ·replace H := HS.cnd_f h_8 H
     try simp -implicitDefEqProofs +decide (maxSteps := 999999) [-selQ_sel, hokQ_of, h_2, h_8]
     obtain ⟨v18, h_9, H⟩ := HS.bnd H
     try simp -implicitDefEqProofs +decide (maxSteps := 999999) [-selQ_sel, hokQ_of, h_2, h_8, h_9]
     obtain ⟨h_10, H⟩ := HS.chkP H
     try simp -implicitDefEqProofs +decide (maxSteps := 999999) [-selQ_sel, hokQ_of, h_2, h_8, h_9, h_10]
     obtain ⟨l19, h_11, H⟩ := HS.nam H
     have m_12 := congrArg (List.map eKept) h_11
     have q_13 := congrArg List.length h_11
     simp -implicitDefEqProofs at m_12 q_13
     try simp only [q_13] at m_12
     try simp only [q_13] at h_10
     try simp -implicitDefEqProofs +decide (maxSteps := 999999) [-selQ_sel, hokQ_of, h_2, h_8, h_9, h_10, m_12, q_13]
     have hr := (HS.some H).symm; subst hr
     exact Hid.mk ⟨spec_Forget_l1_S a0 a1 ((IntKind.i64.wrap (x9 + 1)), l19), Wk.ofk [0, 1, 2, 3] hk (by rfl) (by simp -implicitDefEqProofs [spec_Forget_l1_S, h_2, h_8, h_9, h_10, m_12, q_13]) (by simp -implicitDefEqProofs [spec_Forget_l1_S, h_2, h_8, h_9, h_10, m_12, q_13]), hR⟩
 ·revert H h_1; revert q; intro y20 h_1 H
  try dsimp only at H
  try simp -implicitDefEqProofs +decide (maxSteps := 999999) [-selQ_sel, hokQ_of, spec_Forget_l1_X]
  obtain ⟨⟨w22, w23⟩, h_14, H⟩ := HS.bnd H
  dsimp only at H
  have k_15 := spec_l21Copy_k ((TCache.mk a0.most y20).most) ((TCache.mk a0.most y20).list)
  simp -implicitDefEqProofs [-spec_l21Copy_k] at k_15
  try simp -implicitDefEqProofs +decide (maxSteps := 999999) [-selQ_sel, hokQ_of, h_14, k_15]
  have hr := (HS.some H).symm; subst hr
  refine Hid.mk ⟨⟨[(4, AV.optr 0 0 2)], [(0, Ob.box [AV.int .i64 w22, AV.osl 1 0 (List.length w23) (List.length w23)]), (1, Ob.nar 6 (List.map eKept w23) [0, 0, 0, 0, 0, 1])], 2⟩, Wk.ofk [0, 3] hk (by rfl) (by simp -implicitDefEqProofs [h_14, k_15]) (by simp -implicitDefEqProofs [h_14, k_15]), ?_⟩
  try simp -implicitDefEqProofs +decide (maxSteps := 999999) [-selQ_sel, hokQ_of, h_14, k_15]
theorem laws_heldKeptS_ok0 (hm : Try.prog.follows .mixedOrders = true) (k_laws_heldIntS : Sound Try.prog 82 laws_heldIntS_x) : Sound Try.prog 68 laws_heldKeptS_x := by
 refine xOf_sound fun q r h => ?_
 obtain ⟨a0, a1⟩ := q
 refine fn_ok E0 hm Try.func68 rfl (by decide +kernel) (by rfl) fun Γ hn hk => ?_
 dsimp only [laws_heldKeptS_e, laws_heldKeptS_v]
 replace hn : Γ.n = 76 := hn
 replace hk : Γ.k = 0 := hk
 have H : HS (laws_heldKeptS a0 a1) r := h
 clear h; unfold laws_heldKeptS at H
 try simp -implicitDefEqProofs at H
 refine Tr.of_vc (cl := tabC [(82, laws_heldIntS_x)]) (E := E0) [] (tab_cons k_laws_heldIntS tab_nil) hm (by rw [hn]; decide +kernel) ?_
 try simp -implicitDefEqProofs (maxSteps := 999999) [-selQ_sel]
 obtain ⟨q, h_1, H⟩ := HS.bnd H
 refine Hid.mk (Tr.weak (s' := (laws_heldKeptS_l0_S a0) (a1, 0)) (Wk.ofk [] hk (by rfl) (by simp -implicitDefEqProofs [laws_heldKeptS_l0_S]) (by simp -implicitDefEqProofs [laws_heldKeptS_l0_S])) ?_)
 refine wp_loop_of (S := (laws_heldKeptS_l0_S a0)) (f := (laws_heldKeptS_l0 a0)) (xt := (laws_heldKeptS_l0_X a0)) ?_ ?_ h_1 ?_
 ·intro q; rcases q with y7 | ⟨⟩ <;> simp [laws_heldKeptS_l0_X]
 ·clear H h_1 q
  rintro ⟨x3, x4⟩ o R hf hR
  have H : HS (laws_heldKeptS_l0 a0 (x3, x4)) o := hf
  clear hf; unfold laws_heldKeptS_l0 at H
  try simp -implicitDefEqProofs at H
  refine Tr.of_vc (cl := tabC [(82, laws_heldIntS_x)]) (E := E0) [] (tab_cons k_laws_heldIntS tab_nil) hm (by rw [hn]; decide +kernel) ?_
  try simp -implicitDefEqProofs (maxSteps := 999999) [-selQ_sel, laws_heldKeptS_l0_S]
  refine Hid.brV (fun h_2 => ?_) (fun h_2 => ?_)
  ·replace H := HS.cnd_t h_2 H
   try simp -implicitDefEqProofs (maxSteps := 999999) [-selQ_sel, h_2]
   have hr := (HS.some H).symm; subst hr
   exact Hid.mk ⟨(laws_heldKeptS_l0_X a0 (.inl x3)).2, Wk.ofk [] hk (by rfl) (by simp -implicitDefEqProofs [laws_heldKeptS_l0_X, h_2]) (by simp -implicitDefEqProofs [laws_heldKeptS_l0_X, h_2]), hR⟩
  ·replace H := HS.cnd_f h_2 H
   try simp -implicitDefEqProofs (maxSteps := 999999) [-selQ_sel, h_2]
   obtain ⟨v5, h_3, H⟩ := HS.bnd H
   try simp -implicitDefEqProofs (maxSteps := 999999) [-selQ_sel, h_2, h_3]
   refine Hid.brV (fun h_4 => ?_) (fun h_4 => ?_)
   ·replace H := HS.cnd_t h_4 H
    try simp -implicitDefEqProofs (maxSteps := 999999) [-selQ_sel, h_2, h_3, h_4]
    refine Hid.brV (fun h_5 => ?_) (fun h_5 => ?_)
    ·replace H := HS.cnd_t h_5 H
     try simp -implicitDefEqProofs (maxSteps := 999999) [-selQ_sel, h_2, h_3, h_4, h_5]
     refine Hid.brV (fun h_6 => ?_) (fun h_6 => ?_)
     ·replace H := HS.cnd_t h_6 H
      try simp -implicitDefEqProofs (maxSteps := 999999) [-selQ_sel, h_2, h_3, h_4, h_5, h_6]
      refine Hid.brV (fun h_7 => ?_) (fun h_7 => ?_)
      ·replace H := HS.cnd_t h_7 H
       try simp -implicitDefEqProofs (maxSteps := 999999) [-selQ_sel, h_2, h_3, h_4, h_5, h_6, h_7]
       refine Hid.brV (fun h_8 => ?_) (fun h_8 => ?_)
       ·replace H := HS.cnd_t h_8 H
        try simp -implicitDefEqProofs (maxSteps := 999999) [-selQ_sel, h_2, h_3, h_4, h_5, h_6, h_7, h_8]
        obtain ⟨v6, h_9, H⟩ := HS.bnd H
        try simp -implicitDefEqProofs (maxSteps := 999999) [-selQ_sel, h_2, h_3, h_4, h_5, h_6, h_7, h_8, h_9]
        refine Hid.brV (fun h_10 => ?_) (fun h_10 => ?_)
        ·replace H := HS.cnd_t h_10 H
         try simp -implicitDefEqProofs (maxSteps := 999999) [-selQ_sel, h_2, h_3, h_4, h_5, h_6, h_7, h_8, h_9, h_10]
         have hr := (HS.some H).symm; subst hr
         exact Hid.mk ⟨laws_heldKeptS_l0_S a0 (v6, (IntKind.i64.wrap (x4 + 1))), Wk.ofk [] hk (by rfl) (by simp -implicitDefEqProofs [laws_heldKeptS_l0_S, h_2, h_3, h_4, h_5, h_6, h_7, h_8, h_9, h_10]) (by simp -implicitDefEqProofs [laws_heldKeptS_l0_S, h_2, h_3, h_4, h_5, h_6, h_7, h_8, h_9, h_10]), hR⟩
        ·replace H := HS.cnd_f h_10 H
         try simp -implicitDefEqProofs (maxSteps := 999999) [-selQ_sel, h_2, h_3, h_4, h_5, h_6, h_7, h_8, h_9, h_10]
         have hr := (HS.some H).symm; subst hr
         exact Hid.mk ⟨(laws_heldKeptS_l0_X a0 (.inr ())).2, Wk.ofk [] hk (by rfl) (by simp -implicitDefEqProofs [laws_heldKeptS_l0_X, h_2, h_3, h_4, h_5, h_6, h_7, h_8, h_9, h_10]) (by simp -implicitDefEqProofs [laws_heldKeptS_l0_X, h_2, h_3, h_4, h_5, h_6, h_7, h_8, h_9, h_10]), hR⟩
       ·replace H := HS.cnd_f h_8 H
        try simp -implicitDefEqProofs (maxSteps := 999999) [-selQ_sel, h_2, h_3, h_4, h_5, h_6, h_7, h_8]
        have hr := (HS.some H).symm; subst hr
        exact Hid.mk ⟨(laws_heldKeptS_l0_X a0 (.inr ())).2, Wk.ofk [] hk (by rfl) (by simp -implicitDefEqProofs [laws_heldKeptS_l0_X, h_2, h_3, h_4, h_5, h_6, h_7, h_8]) (by simp -implicitDefEqProofs [laws_heldKeptS_l0_X, h_2, h_3, h_4, h_5, h_6, h_7, h_8]), hR⟩
      ·replace H := HS.cnd_f h_7 H
       try simp -implicitDefEqProofs (maxSteps := 999999) [-selQ_sel, h_2, h_3, h_4, h_5, h_6, h_7]
       have hr := (HS.some H).symm; subst hr
       exact Hid.mk ⟨(laws_heldKeptS_l0_X a0 (.inr ())).2, Wk.ofk [] hk (by rfl) (by simp -implicitDefEqProofs [laws_heldKeptS_l0_X, h_2, h_3, h_4, h_5, h_6, h_7]) (by simp -implicitDefEqProofs [laws_heldKeptS_l0_X, h_2, h_3, h_4, h_5, h_6, h_7]), hR⟩
     ·replace H := HS.cnd_f h_6 H
      try simp -implicitDefEqProofs (maxSteps := 999999) [-selQ_sel, h_2, h_3, h_4, h_5, h_6]
      have hr := (HS.some H).symm; subst hr
      exact Hid.mk ⟨(laws_heldKeptS_l0_X a0 (.inr ())).2, Wk.ofk [] hk (by rfl) (by simp -implicitDefEqProofs [laws_heldKeptS_l0_X, h_2, h_3, h_4, h_5, h_6]) (by simp -implicitDefEqProofs [laws_heldKeptS_l0_X, h_2, h_3, h_4, h_5, h_6]), hR⟩
    ·replace H := HS.cnd_f h_5 H
     try simp -implicitDefEqProofs (maxSteps := 999999) [-selQ_sel, h_2, h_3, h_4, h_5]
     have hr := (HS.some H).symm; subst hr
     exact Hid.mk ⟨(laws_heldKeptS_l0_X a0 (.inr ())).2, Wk.ofk [] hk (by rfl) (by simp -implicitDefEqProofs [laws_heldKeptS_l0_X, h_2, h_3, h_4, h_5]) (by simp -implicitDefEqProofs [laws_heldKeptS_l0_X, h_2, h_3, h_4, h_5]), hR⟩
   ·replace H := HS.cnd_f h_4 H
    try simp -implicitDefEqProofs (maxSteps := 999999) [-selQ_sel, h_2, h_3, h_4]
    have hr := (HS.some H).symm; subst hr
    exact Hid.mk ⟨(laws_heldKeptS_l0_X a0 (.inr ())).2, Wk.ofk [] hk (by rfl) (by simp -implicitDefEqProofs [laws_heldKeptS_l0_X, h_2, h_3, h_4]) (by simp -implicitDefEqProofs [laws_heldKeptS_l0_X, h_2, h_3, h_4]), hR⟩
 ·rcases q with y7 | ⟨⟩
  ·dsimp only at H
   try simp -implicitDefEqProofs (maxSteps := 999999) [-selQ_sel, laws_heldKeptS_l0_X]
   have hr := (HS.some H).symm; subst hr
   refine Hid.mk ⟨_, Wk.refl _, ?_⟩
   try simp -implicitDefEqProofs (maxSteps := 999999) [-selQ_sel]
  ·dsimp only at H
   try simp -implicitDefEqProofs (maxSteps := 999999) [-selQ_sel, laws_heldKeptS_l0_X]
   have hr := (HS.some H).symm; subst hr
   refine Hid.mk ⟨_, Wk.refl _, ?_⟩
   try simp -implicitDefEqProofs (maxSteps := 999999) [-selQ_sel]
theorem laws_toKeptS_ok0 (hm : Try.prog.follows .mixedOrders = true) (k_laws_toKept : Sound Try.prog 117 laws_toKept_x) : Sound Try.prog 61 laws_toKeptS_x := by
 refine xOf_sound fun q r h => ?_
 revert h; revert r; revert q; intro a0 r h
 refine fn_ok E0 hm Try.func61 rfl (by decide +kernel) (by rfl) fun Γ hn hk => ?_
 dsimp only [laws_toKeptS_e, laws_toKeptS_v]
 replace hn : Γ.n = 23 := hn
 replace hk : Γ.k = 0 := hk
 have H : HS (laws_toKeptS a0) r := h
 clear h; unfold laws_toKeptS at H
 try simp -implicitDefEqProofs at H
 refine Tr.of_vc (cl := tabC [(117, laws_toKept_x)]) (E := E0) [] (tab_cons k_laws_toKept tab_nil) hm (by rw [hn]; decide +kernel) ?_
 try simp -implicitDefEqProofs (maxSteps := 999999) [-selQ_sel]
 obtain ⟨h_1, H⟩ := HS.chkP H
 try simp -implicitDefEqProofs (maxSteps := 999999) [-selQ_sel, h_1]
 obtain ⟨l1, h_2, H⟩ := HS.nam H
 have m_3 := congrArg (List.map eKept) h_2
 have q_4 := congrArg List.length h_2
 simp -implicitDefEqProofs at m_3 q_4
 try simp only [q_4] at m_3
 try simp only [q_4] at h_1
 try simp -implicitDefEqProofs (maxSteps := 999999) [-selQ_sel, h_1, m_3, q_4]
 obtain ⟨q, h_5, H⟩ := HS.bnd H
 refine Hid.mk (Tr.weak (s' := (laws_toKeptS_l0_S a0) (0, l1)) (Wk.ofk [0] hk (by rfl) (by simp -implicitDefEqProofs [laws_toKeptS_l0_S, h_1, m_3, q_4]) (by simp -implicitDefEqProofs [laws_toKeptS_l0_S, h_1, m_3, q_4])) ?_)
 refine wp_loop_of (S := (laws_toKeptS_l0_S a0)) (f := (laws_toKeptS_l0 a0)) (xt := (laws_toKeptS_l0_X a0)) ?_ ?_ h_5 ?_
 ·intro q; simp [laws_toKeptS_l0_X]
 ·clear H h_5 q
  rintro ⟨x8, x9⟩ o R hf hR
  have H : HS (laws_toKeptS_l0 a0 (x8, x9)) o := hf
  clear hf; unfold laws_toKeptS_l0 at H
  try simp -implicitDefEqProofs at H
  refine Tr.of_vc (cl := tabC [(117, laws_toKept_x)]) (E := E0) [] (tab_cons k_laws_toKept tab_nil) hm (by rw [hn]; decide +kernel) ?_
  try simp -implicitDefEqProofs (maxSteps := 999999) [-selQ_sel, laws_toKeptS_l0_S]
  refine Hid.brV (fun h_6 => ?_) (fun h_6 => ?_)
  ·replace H := HS.cnd_t h_6 H
   try simp -implicitDefEqProofs (maxSteps := 999999) [-selQ_sel, h_6]
   have hr := (HS.some H).symm; subst hr
   exact Hid.mk ⟨(laws_toKeptS_l0_X a0 x9).2, Wk.ofk [0] hk (by rfl) (by simp -implicitDefEqProofs [laws_toKeptS_l0_X, h_6]) (by simp -implicitDefEqProofs [laws_toKeptS_l0_X, h_6]), hR⟩
  ·replace H := HS.cnd_f h_6 H
   try simp -implicitDefEqProofs (maxSteps := 999999) [-selQ_sel, h_6]
   obtain ⟨v10, h_7, H⟩ := HS.bnd H
   try simp -implicitDefEqProofs (maxSteps := 999999) [-selQ_sel, h_6, h_7]
   obtain ⟨⟨w12, w13, w14⟩, h_8, H⟩ := HS.bnd H
   dsimp only at H
   try simp -implicitDefEqProofs (maxSteps := 999999) [-selQ_sel, h_6, h_7, h_8]
   obtain ⟨v15, h_9, H⟩ := HS.bnd H
   have g_10 := idx_get h_9
   have g_11 := idx_lt h_9
   have g_12 := idx_getE h_9
   try simp -implicitDefEqProofs (maxSteps := 999999) [-selQ_sel, h_6, h_7, h_8, h_9, g_10, g_11, g_12]
   have hr := (HS.some H).symm; subst hr
   exact Hid.mk ⟨laws_toKeptS_l0_S a0 ((IntKind.i64.wrap (x8 + 1)), (List.set x9 (Int.toNat x8) (TKept.mk w12 (TMask.mk w13 w14)))), Wk.trans (Wk.abs (id := 0) (j := 1) (js := []) (by rfl) (by rfl) (by decide) (by simp -implicitDefEqProofs [laws_toKeptS_l0_S, h_6, h_7, h_8, h_9, g_10, g_11, g_12]) (by rfl) (by simp -implicitDefEqProofs [laws_toKeptS_l0_S, h_6, h_7, h_8, h_9, g_10, g_11, g_12]) (by simp -implicitDefEqProofs [laws_toKeptS_l0_S, h_6, h_7, h_8, h_9, g_10, g_11, g_12])) (Wk.ofk [0] hk (by rfl) (by simp -implicitDefEqProofs [laws_toKeptS_l0_S, h_6, h_7, h_8, h_9, g_10, g_11, g_12]) (by simp -implicitDefEqProofs [laws_toKeptS_l0_S, h_6, h_7, h_8, h_9, g_10, g_11, g_12])), hR⟩
 ·revert H h_5; revert q; intro y16 h_5 H
  try dsimp only at H
  try simp -implicitDefEqProofs (maxSteps := 999999) [-selQ_sel, h_1, m_3, q_4, laws_toKeptS_l0_X]
  have hr := (HS.some H).symm; subst hr
  refine Hid.mk ⟨⟨[(2, AV.osl 0 0 (List.length y16) (List.length y16))], [(0, Ob.nar 6 (List.map eKept y16) [0, 0, 0, 0, 0, 1])], 1⟩, Wk.ofk [0] hk (by rfl) (by simp -implicitDefEqProofs [h_1, m_3, q_4]) (by simp -implicitDefEqProofs [h_1, m_3, q_4]), ?_⟩
  try simp -implicitDefEqProofs (maxSteps := 999999) [-selQ_sel, h_1, m_3, q_4]
theorem spec_l21Copy_ok0 (hm : Try.prog.follows .mixedOrders = true) (k_spec_l21CopyMask : Sound Try.prog 80 spec_l21CopyMask_x) : Sound Try.prog 60 spec_l21Copy_x := by
 refine xOf_sound fun q r h => ?_
 revert h; revert r; revert q; intro a0 r h
 refine fn_ok E0 hm Try.func60 rfl (by decide +kernel) (by rfl) fun Γ hn hk => ?_
 dsimp only [spec_l21Copy_e, spec_l21Copy_v]
 replace hn : Γ.n = 35 := hn
 replace hk : Γ.k = 0 := hk
 have H : HS (spec_l21Copy a0) r := h
 clear h; unfold spec_l21Copy at H
 try simp -implicitDefEqProofs at H
 refine Tr.of_vc (cl := tabC [(80, spec_l21CopyMask_x)]) (E := E0) [] (tab_cons k_spec_l21CopyMask tab_nil) hm (by rw [hn]; decide +kernel) ?_
 try simp -implicitDefEqProofs +decide (maxSteps := 999999) [-selQ_sel, hokQ_of]
 obtain ⟨q, h_1, H⟩ := HS.bnd H
 refine Hid.mk (Tr.weak (s' := (spec_l21Copy_l0_S a0) (0, [])) (Wk.ofk [0, 1, 2, 3] hk (by rfl) (by simp -implicitDefEqProofs [spec_l21Copy_l0_S]) (by simp -implicitDefEqProofs [spec_l21Copy_l0_S])) ?_)
 refine wp_loop_of (S := (spec_l21Copy_l0_S a0)) (f := (spec_l21Copy_l0 a0)) (xt := (spec_l21Copy_l0_X a0)) ?_ ?_ h_1 ?_
 ·intro q; simp [spec_l21Copy_l0_X]
 ·clear H h_1 q
  rintro ⟨x5, x6⟩ o R hf hR
  have H : HS (spec_l21Copy_l0 a0 (x5, x6)) o := hf
  clear hf; unfold spec_l21Copy_l0 at H
  try simp -implicitDefEqProofs at H
  refine Tr.of_vc (cl := tabC [(80, spec_l21CopyMask_x)]) (E := E0) [] (tab_cons k_spec_l21CopyMask tab_nil) hm (by rw [hn]; decide +kernel) ?_
  try simp -implicitDefEqProofs +decide (maxSteps := 999999) [-selQ_sel, hokQ_of, spec_l21Copy_l0_S]
  refine Hid.brV (fun h_2 => ?_) (fun h_2 => ?_)
  ·replace H := HS.cnd_t h_2 H
   try simp -implicitDefEqProofs +decide (maxSteps := 999999) [-selQ_sel, hokQ_of, h_2]
   have hr := (HS.some H).symm; subst hr
   exact Hid.mk ⟨(spec_l21Copy_l0_X a0 x6).2, Wk.ofk [1, 2, 3] hk (by rfl) (by simp -implicitDefEqProofs [spec_l21Copy_l0_X, h_2]) (by simp -implicitDefEqProofs [spec_l21Copy_l0_X, h_2]), hR⟩
  ·replace H := HS.cnd_f h_2 H
   try simp -implicitDefEqProofs +decide (maxSteps := 999999) [-selQ_sel, hokQ_of, h_2]
   obtain ⟨v7, h_3, H⟩ := HS.bnd H
   try simp -implicitDefEqProofs +decide (maxSteps := 999999) [-selQ_sel, hokQ_of, h_2, h_3]
   obtain ⟨⟨w9, w10⟩, h_4, H⟩ := HS.bnd H
   dsimp only at H
   try simp -implicitDefEqProofs +decide (maxSteps := 999999) [-selQ_sel, hokQ_of, h_2, h_3, h_4]
   obtain ⟨h_5, H⟩ := HS.chkP H
   try simp -implicitDefEqProofs +decide (maxSteps := 999999) [-selQ_sel, hokQ_of, h_2, h_3, h_4, h_5]
   have hr := (HS.some H).symm; subst hr
   exact Hid.mk ⟨spec_l21Copy_l0_S a0 ((IntKind.i64.wrap (x5 + 1)), (x6 ++ [(TKept.mk v7.id (TMask.mk w9 w10))])), Wk.trans (Wk.abs (id := 3) (j := 4) (js := []) (by rfl) (by rfl) (by decide) (by simp -implicitDefEqProofs [spec_l21Copy_l0_S, h_2, h_3, h_4, h_5]) (by rfl) (by simp -implicitDefEqProofs [spec_l21Copy_l0_S, h_2, h_3, h_4, h_5]) (by simp -implicitDefEqProofs [spec_l21Copy_l0_S, h_2, h_3, h_4, h_5])) (Wk.ofk [0, 1, 2, 3] hk (by rfl) (by simp -implicitDefEqProofs [spec_l21Copy_l0_S, h_2, h_3, h_4, h_5]) (by simp -implicitDefEqProofs [spec_l21Copy_l0_S, h_2, h_3, h_4, h_5])), hR⟩
 ·revert H h_1; revert q; intro y11 h_1 H
  try dsimp only at H
  try simp -implicitDefEqProofs +decide (maxSteps := 999999) [-selQ_sel, hokQ_of, spec_l21Copy_l0_X]
  have hr := (HS.some H).symm; subst hr
  refine Hid.mk ⟨⟨[(2, AV.optr 0 0 2)], [(0, Ob.box [AV.int .i64 a0.most, AV.osl 1 0 (List.length y11) (List.length y11)]), (1, Ob.nar 6 (List.map eKept y11) [0, 0, 0, 0, 0, 1])], 2⟩, Wk.ofk [0, 2] hk (by rfl) (by simp -implicitDefEqProofs []) (by simp -implicitDefEqProofs []), ?_⟩
  try simp -implicitDefEqProofs +decide (maxSteps := 999999) [-selQ_sel, hokQ_of]
def lr_Kept (p : TKept × (Nat → Value)) : TKeptR := (TKeptR.mk p.1.id (TMaskR.mk p.1.mask.box (some (p.2 5))))
theorem lr_Kept1 : ∀ x : TKept, (eKept x).cells.length = 6 ∧ (eKept x).cells.all AV.one = true := fun x => by simp
theorem lr_Kept2 : ∀ (x : TKept) (h : Nat → Value), rwE (eKept x) h 0 = eKeptR (lr_Kept (x, h)) := fun _ _ => rfl
theorem lr_Kept3 : ∀ (x : TKept) (h : Nat → Value), plainL (eKeptR (lr_Kept (x, h))).cells = true := fun x h => by simp [lr_Kept, plainL, plain, eO]
theorem lr_Kept4 : ∀ (ct : Value → List AV) (x : TKept) (h : Nat → Value), (∀ c r, (eKept x).cells[c]? = some (.fsl r) → ct (h c) = r) → unE ct (eKeptR (lr_Kept (x, h))) = eKept x := fun ct x h H => by
 have h5 := H 5 _ rfl
 simp [unE, unC, lr_Kept, eO, h5]
theorem lr_Kept5 : ∀ x : TKept, ∀ c ∈ (eKept x).cells, ∀ u, c ≠ .raw u := fun x => by simp
theorem slices_DeleteFunc_Kept_Forget_1_n_ok0 (hm : Try.prog.follows .mixedOrders = true) (k_slices_DeleteFunc_Kept_Forget_1R : Sound Try.prog 63 slices_DeleteFunc_Kept_Forget_1R_x) : Sound Try.prog 63 slices_DeleteFunc_Kept_Forget_1_n_x := by
 refine xOf_sound fun q r h => ?_
 obtain ⟨a0, a1⟩ := q
 have H : HS (slices_DeleteFunc_Kept_Forget_1_n a0 a1) r := h
 clear h; unfold slices_DeleteFunc_Kept_Forget_1_n at H
 obtain ⟨⟨h1, h2⟩, H⟩ := HS.chkP H
 have hr := (HS.some H).symm; subst hr
 dsimp only [slices_DeleteFunc_Kept_Forget_1_n_e, slices_DeleteFunc_Kept_Forget_1_n_v]
 refine lift_el (e := eKept) (e' := fun p => eKeptR (lr_Kept p)) (w := 6) lr_Kept1 lr_Kept2 lr_Kept3 lr_Kept4 lr_Kept5 (of_eq_true nid_eKept) k_slices_DeleteFunc_Kept_Forget_1R (a := 0) (l := a0) (zs := [0, 0, 0, 0, 0, 1]) rfl [] (by simp) (by simp) (fun _ => _) (fun φ m vs hv => ⟨fun _ => default, by simp, hv⟩) (fun er => [.arr 6 er false, Ob.box [AV.fsl (List.map (AV.int .i64) a1)]]) (fun er i => ?_) (fun _ => rfl) (fun _ => []) (by simp) (fun _ => rfl) fun lz gj hz => ?_
 ·match i with
  | 0 => rfl
  | 1 => rfl
  | n + 2 => simp
 ·subst hz
  obtain ⟨l', d1, d2, d3⟩ := Na.delf_Forget (l := lz.map lr_Kept) (ids := a1) h2 (by simpa using h1)
  have k := slices_DeleteFunc_Kept_Forget_1R_k (lz.map lr_Kept) a1
  rw [d1] at k
  have hf : (lz.map lr_Kept).filter (fun k => !Na.isIn k.id a1) = (lz.filter (fun p => !(List.any a1 fun y => ieq p.1.id y))).map lr_Kept := by
   rw [List.filter_map]; simp only [Na.isIn, Function.comp_def, lr_Kept]
  have hg : (lz.map (·.1)).filter (fun k => !(List.any a1 fun y => ieq k.id y)) = (lz.filter (fun p => !(List.any a1 fun y => ieq p.1.id y))).map (·.1) := by
   rw [List.filter_map]; simp only [Function.comp_def]
  rw [hf] at k d2
  rw [hg]
  have hl : (lz.filter (fun p => !(List.any a1 fun y => ieq p.1.id y))).length ≤ lz.length := List.length_filter_le _ _
  have hs : (lz.filter (fun p => !(List.any a1 fun y => ieq p.1.id y))).Sublist lz := List.filter_sublist
  generalize lz.filter (fun p => !(List.any a1 fun y => ieq p.1.id y)) = L at *
  simp only [List.length_map] at d2 d3
  refine ⟨AV.osl 0 0 L.length l'.length, [Ob.arr 6 (l'.map eKeptR) false, Ob.box [AV.fsl (List.map (AV.int .i64) a1)]], l'.map eKeptR, L.length, L, ?_, rfl, ?_, ?_, ⟨L, .refl _, ?_⟩, ?_, rfl, rfl, ?_, fun i hi1 hi2 => ?_⟩
  ·simp only [List.length_map] at k ⊢; rw [List.map_map] at k; exact k.trans (by show some (AV.osl 0 0 (List.map lr_Kept L).length l'.length, _) = _; rw [List.length_map])
  ·rw [List.length_map]; omega
  ·rw [← List.map_take, d2, List.map_map]; rfl
  ·simpa using hs
  ·simp [shC]
  ·simp [d3]
  ·match i with
   | 0 => exact (hi1 rfl).elim
   | 1 => exact .inl rfl
   | 2 => exact (hi2 rfl).elim
   | n + 3 => exact .inl rfl
theorem laws_markIntS_ok0 (hm : Try.prog.follows .mixedOrders = true) : Sound Try.prog 22 laws_markIntS_x := by
 refine xOf_sound fun q r h => ?_
 obtain ⟨a0, a1⟩ := q
 refine fn_ok E0 hm Try.func22 rfl (by decide +kernel) (by rfl) fun Γ hn hk => ?_
 dsimp only [laws_markIntS_e, laws_markIntS_v]
 replace hn : Γ.n = 19 := hn
 replace hk : Γ.k = 1 := hk
 have H : HS (laws_markIntS a0 a1) r := h
 clear h; unfold laws_markIntS at H
 try simp -implicitDefEqProofs at H
 refine Tr.of_vc (cl := tabC []) (E := E0) [] tab_nil hm (by rw [hn]; decide +kernel) ?_
 try simp -implicitDefEqProofs (maxSteps := 999999) [-selQ_sel]
 obtain ⟨q, h_1, H⟩ := HS.bnd H
 refine Hid.mk (Tr.weak (s' := laws_markIntS_l0_S (a0, 0, a1)) (Wk.ofk [0] hk (by rfl) (by simp -implicitDefEqProofs [laws_markIntS_l0_S]) (by simp -implicitDefEqProofs [laws_markIntS_l0_S])) ?_)
 refine wp_loop_of (S := laws_markIntS_l0_S) (f := laws_markIntS_l0) (xt := laws_markIntS_l0_X) ?_ ?_ h_1 ?_
 ·intro q; rcases q with ⟨y8, y9⟩ <;> simp [laws_markIntS_l0_X]
 ·clear H h_1 q
  rintro ⟨x3, x4, x5⟩ o R hf hR
  have H : HS (laws_markIntS_l0 (x3, x4, x5)) o := hf
  clear hf; unfold laws_markIntS_l0 at H
  try simp -implicitDefEqProofs at H
  refine Tr.of_vc (cl := tabC []) (E := E0) [] tab_nil hm (by rw [hn]; decide +kernel) ?_
  try simp -implicitDefEqProofs (maxSteps := 999999) [-selQ_sel, laws_markIntS_l0_S]
  refine Hid.brV (fun h_2 => ?_) (fun h_2 => ?_)
  ·replace H := HS.cnd_t h_2 H
   try simp -implicitDefEqProofs (maxSteps := 999999) [-selQ_sel, h_2]
   have hr := (HS.some H).symm; subst hr
   exact Hid.mk ⟨(laws_markIntS_l0_X (x5, x3)).2, Wk.ofk [0] hk (by rfl) (by simp -implicitDefEqProofs [laws_markIntS_l0_X, h_2]) (by simp -implicitDefEqProofs [laws_markIntS_l0_X, h_2]), hR⟩
  ·replace H := HS.cnd_f h_2 H
   try simp -implicitDefEqProofs (maxSteps := 999999) [-selQ_sel, h_2]
   obtain ⟨v6, h_3, H⟩ := HS.bnd H
   have g_4 := idx_get h_3
   try simp -implicitDefEqProofs (maxSteps := 999999) [-selQ_sel, h_2, h_3, g_4]
   obtain ⟨l7, h_5, H⟩ := HS.nam H
   have m_6 := congrArg (List.map (AV.int .i64)) h_5
   have q_7 := congrArg List.length h_5
   simp -implicitDefEqProofs at m_6 q_7
   try simp only [q_7] at m_6
   try simp only [q_7] at g_4
   try simp -implicitDefEqProofs (maxSteps := 999999) [-selQ_sel, h_2, h_3, g_4, m_6, q_7]
   have hr := (HS.some H).symm; subst hr
   exact Hid.mk ⟨laws_markIntS_l0_S ((IntKind.i64.wrap (x3 + 1)), (IntKind.i64.wrap (x4 + 1)), l7), Wk.ofk [0] hk (by rfl) (by simp -implicitDefEqProofs [laws_markIntS_l0_S, h_2, h_3, g_4, m_6, q_7]) (by simp -implicitDefEqProofs [laws_markIntS_l0_S, h_2, h_3, g_4, m_6, q_7]), hR⟩
 ·obtain ⟨y8, y9⟩ := q
  try dsimp only at H
  try simp -implicitDefEqProofs (maxSteps := 999999) [-selQ_sel, laws_markIntS_l0_X]
  have hr := (HS.some H).symm; subst hr
  refine Hid.mk ⟨_, Wk.refl _, ?_⟩
  try simp -implicitDefEqProofs (maxSteps := 999999) [-selQ_sel]
theorem laws_eqCache_ok0 (hm : Try.prog.follows .mixedOrders = true) (k_laws_eqKeptS : Sound Try.prog 66 laws_eqKeptS_x) : Sound Try.prog 19 laws_eqCache_x := by
 refine xOf_sound fun q r h => ?_
 obtain ⟨a0, a1⟩ := q
 refine fn_ok E0 hm Try.func19 rfl (by decide +kernel) (by rfl) fun Γ hn hk => ?_
 dsimp only [laws_eqCache_e, laws_eqCache_v]
 replace hn : Γ.n = 16 := hn
 replace hk : Γ.k = 0 := hk
 have H : HS (laws_eqCache a0 a1) r := h
 clear h; unfold laws_eqCache at H
 try simp -implicitDefEqProofs at H
 refine Tr.of_vc (cl := tabC [(66, laws_eqKeptS_x)]) (E := E0) [] (tab_cons k_laws_eqKeptS tab_nil) hm (by rw [hn]; decide +kernel) ?_
 try simp -implicitDefEqProofs (maxSteps := 999999) [-selQ_sel]
 refine Hid.brV (fun h_1 => ?_) (fun h_1 => ?_)
 ·replace H := HS.cnd_t h_1 H
  try simp -implicitDefEqProofs (maxSteps := 999999) [-selQ_sel, h_1]
  obtain ⟨v1, h_2, H⟩ := HS.bnd H
  try simp -implicitDefEqProofs (maxSteps := 999999) [-selQ_sel, h_1, h_2]
  refine Hid.brV (fun h_3 => ?_) (fun h_3 => ?_)
  ·replace H := HS.cnd_t h_3 H
   try simp -implicitDefEqProofs (maxSteps := 999999) [-selQ_sel, h_1, h_2, h_3]
   have hr := (HS.some H).symm; subst hr
   refine Hid.mk ⟨_, Wk.refl _, ?_⟩
   try simp -implicitDefEqProofs (maxSteps := 999999) [-selQ_sel, h_1, h_2, h_3]
  ·replace H := HS.cnd_f h_3 H
   try simp -implicitDefEqProofs (maxSteps := 999999) [-selQ_sel, h_1, h_2, h_3]
   have hr := (HS.some H).symm; subst hr
   refine Hid.mk ⟨_, Wk.refl _, ?_⟩
   try simp -implicitDefEqProofs (maxSteps := 999999) [-selQ_sel, h_1, h_2, h_3]
 ·replace H := HS.cnd_f h_1 H
  try simp -implicitDefEqProofs (maxSteps := 999999) [-selQ_sel, h_1]
  have hr := (HS.some H).symm; subst hr
  refine Hid.mk ⟨_, Wk.refl _, ?_⟩
  try simp -implicitDefEqProofs (maxSteps := 999999) [-selQ_sel, h_1]
theorem spec_l21CopyMask_ok0 (hm : Try.prog.follows .mixedOrders = true) : Sound Try.prog 80 spec_l21CopyMask_x := by
 refine xOf_sound fun q r h => ?_
 revert h; revert r; revert q; intro a0 r h
 refine fn_ok E0 hm Try.func80 rfl (by decide +kernel) (by rfl) fun Γ hn hk => ?_
 dsimp only [spec_l21CopyMask_e, spec_l21CopyMask_v]
 replace hn : Γ.n = 10 := hn
 replace hk : Γ.k = 0 := hk
 have H : HS (spec_l21CopyMask a0) r := h
 clear h; unfold spec_l21CopyMask at H
 try simp -implicitDefEqProofs at H
 refine Tr.of_vc (cl := tabC []) (E := E0) [] tab_nil hm (by rw [hn]; decide +kernel) ?_
 try simp -implicitDefEqProofs +decide (maxSteps := 999999) [-selQ_sel, hokQ_of]
 obtain ⟨h_1, H⟩ := HS.chkP H
 try simp -implicitDefEqProofs +decide (maxSteps := 999999) [-selQ_sel, hokQ_of, h_1]
 obtain ⟨l1, h_2, H⟩ := HS.nam H
 have m_3 := congrArg (List.map (AV.int .i64)) h_2
 have q_4 := congrArg List.length h_2
 simp -implicitDefEqProofs at m_3 q_4
 try simp only [q_4] at m_3
 try simp only [q_4] at h_1
 try simp -implicitDefEqProofs +decide (maxSteps := 999999) [-selQ_sel, hokQ_of, h_1, m_3, q_4]
 have hr := (HS.some H).symm; subst hr
 refine Hid.mk ⟨⟨[(2, AV.optr 0 0 5)], [(0, Ob.box [AV.int .i64 a0.box.x0, AV.int .i64 a0.box.y0, AV.int .i64 a0.box.x1, AV.int .i64 a0.box.y1, AV.osl 1 0 (List.length l1) (List.length l1)]), (1, Ob.arr 1 (List.map (AV.int .i64) l1) false)], 2⟩, Wk.ofk [1, 2] hk (by rfl) (by simp -implicitDefEqProofs [h_1, m_3, q_4]) (by simp -implicitDefEqProofs [h_1, m_3, q_4]), ?_⟩
 try simp -implicitDefEqProofs +decide (maxSteps := 999999) [-selQ_sel, hokQ_of, h_1, m_3, q_4]
theorem laws_heldCache_ok0 (hm : Try.prog.follows .mixedOrders = true) (k_laws_heldKeptS : Sound Try.prog 68 laws_heldKeptS_x) : Sound Try.prog 23 laws_heldCache_x := by
 refine xOf_sound fun q r h => ?_
 obtain ⟨a0, a1⟩ := q
 refine fn_ok E0 hm Try.func23 rfl (by decide +kernel) (by rfl) fun Γ hn hk => ?_
 dsimp only [laws_heldCache_e, laws_heldCache_v]
 replace hn : Γ.n = 12 := hn
 replace hk : Γ.k = 0 := hk
 have H : HS (laws_heldCache a0 a1) r := h
 clear h; unfold laws_heldCache at H
 try simp -implicitDefEqProofs at H
 refine Tr.of_vc (cl := tabC [(68, laws_heldKeptS_x)]) (E := E0) [] (tab_cons k_laws_heldKeptS tab_nil) hm (by rw [hn]; decide +kernel) ?_
 try simp -implicitDefEqProofs (maxSteps := 999999) [-selQ_sel]
 obtain ⟨v1, h_1, H⟩ := HS.bnd H
 try simp -implicitDefEqProofs (maxSteps := 999999) [-selQ_sel, h_1]
 refine Hid.brV (fun h_2 => ?_) (fun h_2 => ?_)
 ·replace H := HS.cnd_t h_2 H
  try simp -implicitDefEqProofs (maxSteps := 999999) [-selQ_sel, h_1, h_2]
  have hr := (HS.some H).symm; subst hr
  refine Hid.mk ⟨_, Wk.refl _, ?_⟩
  try simp -implicitDefEqProofs (maxSteps := 999999) [-selQ_sel, h_1, h_2]
 ·replace H := HS.cnd_f h_2 H
  try simp -implicitDefEqProofs (maxSteps := 999999) [-selQ_sel, h_1, h_2]
  have hr := (HS.some H).symm; subst hr
  refine Hid.mk ⟨_, Wk.refl _, ?_⟩
  try simp -implicitDefEqProofs (maxSteps := 999999) [-selQ_sel, h_1, h_2]
theorem laws_szMask_ok0 (hm : Try.prog.follows .mixedOrders = true) (k_laws_szIntS : Sound Try.prog 69 laws_szIntS_x) : Sound Try.prog 24 laws_szMask_x := by
 refine xOf_sound fun q r h => ?_
 obtain ⟨a0, a1⟩ := q
 refine fn_ok E0 hm Try.func24 rfl (by decide +kernel) (by rfl) fun Γ hn hk => ?_
 dsimp only [laws_szMask_e, laws_szMask_v]
 replace hn : Γ.n = 12 := hn
 replace hk : Γ.k = 0 := hk
 have H : HS (laws_szMask a0 a1) r := h
 clear h; unfold laws_szMask at H
 try simp -implicitDefEqProofs at H
 refine Tr.of_vc (cl := tabC [(69, laws_szIntS_x)]) (E := E0) [] (tab_cons k_laws_szIntS tab_nil) hm (by rw [hn]; decide +kernel) ?_
 try simp -implicitDefEqProofs (maxSteps := 999999) [-selQ_sel]
 obtain ⟨v1, h_1, H⟩ := HS.bnd H
 try simp -implicitDefEqProofs (maxSteps := 999999) [-selQ_sel, h_1]
 refine Hid.brV (fun h_2 => ?_) (fun h_2 => ?_)
 ·replace H := HS.cnd_t h_2 H
  try simp -implicitDefEqProofs (maxSteps := 999999) [-selQ_sel, h_1, h_2]
  have hr := (HS.some H).symm; subst hr
  refine Hid.mk ⟨_, Wk.refl _, ?_⟩
  try simp -implicitDefEqProofs (maxSteps := 999999) [-selQ_sel, h_1, h_2]
 ·replace H := HS.cnd_f h_2 H
  try simp -implicitDefEqProofs (maxSteps := 999999) [-selQ_sel, h_1, h_2]
  have hr := (HS.some H).symm; subst hr
  refine Hid.mk ⟨_, Wk.refl _, ?_⟩
  try simp -implicitDefEqProofs (maxSteps := 999999) [-selQ_sel, h_1, h_2]
theorem laws_toCache_ok0 (hm : Try.prog.follows .mixedOrders = true) (k_laws_toKeptS : Sound Try.prog 61 laws_toKeptS_x) : Sound Try.prog 16 laws_toCache_x := by
 refine xOf_sound fun q r h => ?_
 revert h; revert r; revert q; intro a0 r h
 refine fn_ok E0 hm Try.func16 rfl (by decide +kernel) (by rfl) fun Γ hn hk => ?_
 dsimp only [laws_toCache_e, laws_toCache_v]
 replace hn : Γ.n = 12 := hn
 replace hk : Γ.k = 0 := hk
 have H : HS (laws_toCache a0) r := h
 clear h; unfold laws_toCache at H
 try simp -implicitDefEqProofs at H
 refine Tr.of_vc (cl := tabC [(61, laws_toKeptS_x)]) (E := E0) [] (tab_cons k_laws_toKeptS tab_nil) hm (by rw [hn]; decide +kernel) ?_
 try simp -implicitDefEqProofs (maxSteps := 999999) [-selQ_sel]
 obtain ⟨v1, h_1, H⟩ := HS.bnd H
 try simp -implicitDefEqProofs (maxSteps := 999999) [-selQ_sel, h_1]
 have hr := (HS.some H).symm; subst hr
 refine Hid.mk ⟨⟨[(2, AV.optr 0 0 2)], [(0, Ob.box [AV.int .i64 a0.most, AV.osl 1 0 (List.length v1) (List.length v1)]), (1, Ob.nar 6 (List.map eKept v1) [0, 0, 0, 0, 0, 1])], 2⟩, Wk.ofk [1, 3] hk (by rfl) (by simp -implicitDefEqProofs [h_1]) (by simp -implicitDefEqProofs [h_1]), ?_⟩
 try simp -implicitDefEqProofs (maxSteps := 999999) [-selQ_sel, h_1]
theorem slices_Contains_int_ok0 (hm : Try.prog.follows .mixedOrders = true) (k_slices_Index_int : Sound Try.prog 119 slices_Index_int_x) : Sound Try.prog 65 slices_Contains_int_x := by
 refine xOf_sound fun q r h => ?_
 obtain ⟨a0, a1⟩ := q
 refine fn_ok E0 hm Try.func65 rfl (by decide +kernel) (by rfl) fun Γ hn hk => ?_
 dsimp only [slices_Contains_int_e, slices_Contains_int_v]
 replace hn : Γ.n = 9 := hn
 replace hk : Γ.k = 0 := hk
 have H : HS (slices_Contains_int a0 a1) r := h
 clear h; unfold slices_Contains_int at H
 try simp -implicitDefEqProofs at H
 refine Tr.of_vc (cl := tabC [(119, slices_Index_int_x)]) (E := E0) [] (tab_cons k_slices_Index_int tab_nil) hm (by rw [hn]; decide +kernel) ?_
 try simp -implicitDefEqProofs (maxSteps := 999999) [-selQ_sel]
 obtain ⟨v1, h_1, H⟩ := HS.bnd H
 try simp -implicitDefEqProofs (maxSteps := 999999) [-selQ_sel, h_1]
 have hr := (HS.some H).symm; subst hr
 refine Hid.mk ⟨_, Wk.refl _, ?_⟩
 try simp -implicitDefEqProofs (maxSteps := 999999) [-selQ_sel, h_1]
end Go.Proofs.Ytapchldnmkfkoaa.Am
