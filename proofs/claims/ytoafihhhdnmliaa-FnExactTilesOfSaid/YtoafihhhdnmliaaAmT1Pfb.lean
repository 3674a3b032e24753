import Derived.Test.YtoafihhhdnmliaaAmT1Mo
set_option linter.unusedVariables false
set_option linter.unusedSimpArgs false
set_option linter.unusedSectionVars false
namespace Go.Proofs.Ytoafihhhdnmliaa.Am
open Go Go.Proofs
set_option maxRecDepth 100000
set_option linter.unusedSimpArgs false
set_option linter.unusedVariables false
set_option maxHeartbeats 4000000
theorem laws_FnExactTilesOf_ok0 (hm : Try.prog.follows .mixedOrders = true) (k_laws_szBoxS : Sound Try.prog 52 laws_szBoxS_x) (k_laws_toBoxS : Sound Try.prog 54 laws_toBoxS_x) (k_spec_TilesOf : Sound Try.prog 53 spec_TilesOf_x) (k_impl_TilesOf : Sound Try.prog 55 impl_TilesOf_x) (k_laws_eqIntS : Sound Try.prog 56 laws_eqIntS_x) (k_laws_eqBoxS : Sound Try.prog 57 laws_eqBoxS_x) (k_laws_markBoxS : Sound Try.prog 58 laws_markBoxS_x) (k_laws_markIntS : Sound Try.prog 59 laws_markIntS_x) (k_laws_heldIntS : Sound Try.prog 60 laws_heldIntS_x) : Sound Try.prog 9 laws_FnExactTilesOf_x := by
  refine xOf_sound fun q r h => ?_
  obtain ⟨a0, a1, a2⟩ := q
  refine fn_ok E0 hm Try.func9 rfl (by decide +kernel) (by rfl) fun Γ hn hk => ?_
  dsimp only [laws_FnExactTilesOf_e, laws_FnExactTilesOf_v]
  replace hn : Γ.n = 79 := hn
  replace hk : Γ.k = 0 := hk
  have H : HS (laws_FnExactTilesOf a0 a1 a2) r := h
  clear h; unfold laws_FnExactTilesOf at H
  try simp -implicitDefEqProofs at H
  refine Tr.of_vc (cl := tabC [(52, laws_szBoxS_x), (54, laws_toBoxS_x), (53, spec_TilesOf_x), (55, impl_TilesOf_x), (56, laws_eqIntS_x), (57, laws_eqBoxS_x), (58, laws_markBoxS_x), (59, laws_markIntS_x), (60, laws_heldIntS_x)]) (E := E0) [] (tab_cons k_laws_szBoxS (tab_cons k_laws_toBoxS (tab_cons k_spec_TilesOf (tab_cons k_impl_TilesOf (tab_cons k_laws_eqIntS (tab_cons k_laws_eqBoxS (tab_cons k_laws_markBoxS (tab_cons k_laws_markIntS (tab_cons k_laws_heldIntS tab_nil))))))))) hm (by rw [hn]; decide +kernel) ?_
  try simp -implicitDefEqProofs (maxSteps := 2000000) [-selQ_sel]
  obtain ⟨v1, h_1, H⟩ := HS.bnd H
  try simp -implicitDefEqProofs (maxSteps := 2000000) [-selQ_sel, h_1]
  refine Hid.brV (fun h_2 => ?_) (fun h_2 => ?_)
  · replace H := HS.cnd_t h_2 H
    try simp -implicitDefEqProofs (maxSteps := 2000000) [-selQ_sel, h_1, h_2]
    obtain ⟨v2, h_3, H⟩ := HS.bnd H
    try simp -implicitDefEqProofs (maxSteps := 2000000) [-selQ_sel, h_1, h_2, h_3]
    obtain ⟨v3, h_4, H⟩ := HS.bnd H
    try simp -implicitDefEqProofs (maxSteps := 2000000) [-selQ_sel, h_1, h_2, h_3, h_4]
    obtain ⟨v4, h_5, H⟩ := HS.bnd H
    try simp -implicitDefEqProofs (maxSteps := 2000000) [-selQ_sel, h_1, h_2, h_3, h_4, h_5]
    obtain ⟨v5, h_6, H⟩ := HS.bnd H
    try simp -implicitDefEqProofs (maxSteps := 2000000) [-selQ_sel, h_1, h_2, h_3, h_4, h_5, h_6]
    refine Hid.brV (fun h_7 => ?_) (fun h_7 => ?_)
    · replace H := HS.cnd_t h_7 H
      try simp -implicitDefEqProofs (maxSteps := 2000000) [-selQ_sel, h_1, h_2, h_3, h_4, h_5, h_6, h_7]
      obtain ⟨v6, h_8, H⟩ := HS.bnd H
      try simp -implicitDefEqProofs (maxSteps := 2000000) [-selQ_sel, h_1, h_2, h_3, h_4, h_5, h_6, h_7, h_8]
      refine Hid.brV (fun h_9 => ?_) (fun h_9 => ?_)
      · replace H := HS.cnd_t h_9 H
        try simp -implicitDefEqProofs (maxSteps := 2000000) [-selQ_sel, h_1, h_2, h_3, h_4, h_5, h_6, h_7, h_8, h_9]
        obtain ⟨⟨w8, w9⟩, h_10, H⟩ := HS.bnd H
        dsimp only at H
        have g_11 := laws_markBoxS_n h_10
        try simp -implicitDefEqProofs (maxSteps := 2000000) [-selQ_sel, h_1, h_2, h_3, h_4, h_5, h_6, h_7, h_8, h_9, h_10, g_11]
        refine Hid.selQ (fun h_12 => ?_) (fun h_12 => ?_)
        · replace H := HS.cnd_t h_12 H
          try simp -implicitDefEqProofs (maxSteps := 2000000) [-selQ_sel, h_1, h_2, h_3, h_4, h_5, h_6, h_7, h_8, h_9, h_10, g_11, h_12]
          obtain ⟨⟨w11, w12⟩, h_13, H⟩ := HS.bnd H
          dsimp only at H
          have g_14 := laws_markIntS_n h_13
          try simp -implicitDefEqProofs (maxSteps := 2000000) [-selQ_sel, h_1, h_2, h_3, h_4, h_5, h_6, h_7, h_8, h_9, h_10, g_11, h_12, h_13, g_14]
          obtain ⟨v13, h_15, H⟩ := HS.bnd H
          try simp -implicitDefEqProofs (maxSteps := 2000000) [-selQ_sel, h_1, h_2, h_3, h_4, h_5, h_6, h_7, h_8, h_9, h_10, g_11, h_12, h_13, g_14, h_15]
          refine Hid.brV (fun h_16 => ?_) (fun h_16 => ?_)
          · replace H := HS.cnd_t h_16 H
            try simp -implicitDefEqProofs (maxSteps := 2000000) [-selQ_sel, h_1, h_2, h_3, h_4, h_5, h_6, h_7, h_8, h_9, h_10, g_11, h_12, h_13, g_14, h_15, h_16]
            refine Hid.brV (fun h_17 => ?_) (fun h_17 => ?_)
            · replace H := HS.cnd_t h_17 H
              try simp -implicitDefEqProofs (maxSteps := 2000000) [-selQ_sel, h_1, h_2, h_3, h_4, h_5, h_6, h_7, h_8, h_9, h_10, g_11, h_12, h_13, g_14, h_15, h_16, h_17]
              have hr := (HS.some H).symm; subst hr
              refine Hid.mk ⟨_, Wk.refl _, ?_⟩
              try simp -implicitDefEqProofs (maxSteps := 2000000) [-selQ_sel, h_1, h_2, h_3, h_4, h_5, h_6, h_7, h_8, h_9, h_10, g_11, h_12, h_13, g_14, h_15, h_16, h_17]
            · replace H := HS.cnd_f h_17 H
              try simp -implicitDefEqProofs (maxSteps := 2000000) [-selQ_sel, h_1, h_2, h_3, h_4, h_5, h_6, h_7, h_8, h_9, h_10, g_11, h_12, h_13, g_14, h_15, h_16, h_17]
              have hr := (HS.some H).symm; subst hr
              refine Hid.mk ⟨_, Wk.refl _, ?_⟩
              try simp -implicitDefEqProofs (maxSteps := 2000000) [-selQ_sel, h_1, h_2, h_3, h_4, h_5, h_6, h_7, h_8, h_9, h_10, g_11, h_12, h_13, g_14, h_15, h_16, h_17]
          · replace H := HS.cnd_f h_16 H
            try simp -implicitDefEqProofs (maxSteps := 2000000) [-selQ_sel, h_1, h_2, h_3, h_4, h_5, h_6, h_7, h_8, h_9, h_10, g_11, h_12, h_13, g_14, h_15, h_16]
            have hr := (HS.some H).symm; subst hr
            refine Hid.mk ⟨_, Wk.refl _, ?_⟩
            try simp -implicitDefEqProofs (maxSteps := 2000000) [-selQ_sel, h_1, h_2, h_3, h_4, h_5, h_6, h_7, h_8, h_9, h_10, g_11, h_12, h_13, g_14, h_15, h_16]
        · replace H := HS.cnd_f h_12 H
          try simp -implicitDefEqProofs (maxSteps := 2000000) [-selQ_sel, h_1, h_2, h_3, h_4, h_5, h_6, h_7, h_8, h_9, h_10, g_11, h_12]
          have hr := (HS.some H).symm; subst hr
          refine Hid.mk ⟨_, Wk.refl _, ?_⟩
          try simp -implicitDefEqProofs (maxSteps := 2000000) [-selQ_sel, h_1, h_2, h_3, h_4, h_5, h_6, h_7, h_8, h_9, h_10, g_11, h_12]
      · replace H := HS.cnd_f h_9 H
        try simp -implicitDefEqProofs (maxSteps := 2000000) [-selQ_sel, h_1, h_2, h_3, h_4, h_5, h_6, h_7, h_8, h_9]
        have hr := (HS.some H).symm; subst hr
        refine Hid.mk ⟨_, Wk.refl _, ?_⟩
        try simp -implicitDefEqProofs (maxSteps := 2000000) [-selQ_sel, h_1, h_2, h_3, h_4, h_5, h_6, h_7, h_8, h_9]
    · replace H := HS.cnd_f h_7 H
      try simp -implicitDefEqProofs (maxSteps := 2000000) [-selQ_sel, h_1, h_2, h_3, h_4, h_5, h_6, h_7]
      have hr := (HS.some H).symm; subst hr
      refine Hid.mk ⟨_, Wk.refl _, ?_⟩
      try simp -implicitDefEqProofs (maxSteps := 2000000) [-selQ_sel, h_1, h_2, h_3, h_4, h_5, h_6, h_7]
  · replace H := HS.cnd_f h_2 H
    try simp -implicitDefEqProofs (maxSteps := 2000000) [-selQ_sel, h_1, h_2]
    have hr := (HS.some H).symm; subst hr
    refine Hid.mk ⟨_, Wk.refl _, ?_⟩
    try simp -implicitDefEqProofs (maxSteps := 2000000) [-selQ_sel, h_1, h_2]
theorem laws_markBoxS_ok0 (hm : Try.prog.follows .mixedOrders = true) : Sound Try.prog 58 laws_markBoxS_x := by
  refine xOf_sound fun q r h => ?_
  obtain ⟨a0, a1⟩ := q
  refine fn_ok E0 hm Try.func58 rfl (by decide +kernel) (by rfl) fun Γ hn hk => ?_
  dsimp only [laws_markBoxS_e, laws_markBoxS_v]
  replace hn : Γ.n = 41 := hn
  replace hk : Γ.k = 1 := hk
  have H : HS (laws_markBoxS a0 a1) r := h
  clear h; unfold laws_markBoxS at H
  try simp -implicitDefEqProofs at H
  refine Tr.of_vc (cl := tabC []) (E := E0) [] tab_nil hm (by rw [hn]; decide +kernel) ?_
  try simp -implicitDefEqProofs (maxSteps := 2000000) [-selQ_sel]
  obtain ⟨q, h_1, H⟩ := HS.bnd H
  refine Hid.mk (Tr.weak (s' := laws_markBoxS_l0_S (a0, 0, a1)) (Wk.ofk [0] hk (by rfl) (by simp -implicitDefEqProofs [laws_markBoxS_l0_S]) (by simp -implicitDefEqProofs [laws_markBoxS_l0_S])) ?_)
  refine wp_loop_of (S := laws_markBoxS_l0_S) (f := laws_markBoxS_l0) (xt := laws_markBoxS_l0_X) ?_ ?_ h_1 ?_
  · intro q; rcases q with ⟨y20, y21⟩ <;> simp [laws_markBoxS_l0_X]
  · clear H h_1 q
    rintro ⟨x9, x10, x11⟩ o R hf hR
    have H : HS (laws_markBoxS_l0 (x9, x10, x11)) o := hf
    clear hf; unfold laws_markBoxS_l0 at H
    try simp -implicitDefEqProofs at H
    refine Tr.of_vc (cl := tabC []) (E := E0) [] tab_nil hm (by rw [hn]; decide +kernel) ?_
    try simp -implicitDefEqProofs (maxSteps := 2000000) [-selQ_sel, laws_markBoxS_l0_S]
    refine Hid.brV (fun h_2 => ?_) (fun h_2 => ?_)
    · replace H := HS.cnd_t h_2 H
      try simp -implicitDefEqProofs (maxSteps := 2000000) [-selQ_sel, h_2]
      have hr := (HS.some H).symm; subst hr
      exact Hid.mk ⟨(laws_markBoxS_l0_X (x11, x9)).2, Wk.ofk [0] hk (by rfl) (by simp -implicitDefEqProofs [laws_markBoxS_l0_X, h_2]) (by simp -implicitDefEqProofs [laws_markBoxS_l0_X, h_2]), hR⟩
    · replace H := HS.cnd_f h_2 H
      try simp -implicitDefEqProofs (maxSteps := 2000000) [-selQ_sel, h_2]
      obtain ⟨v12, h_3, H⟩ := HS.bnd H
      have g_4 := idx_get h_3
      try simp -implicitDefEqProofs (maxSteps := 2000000) [-selQ_sel, h_2, h_3, g_4]
      obtain ⟨l13, h_5, H⟩ := HS.nam H
      have m_6 := congrArg (List.map eBox) h_5
      have q_7 := congrArg List.length h_5
      simp -implicitDefEqProofs at m_6 q_7
      try simp only [q_7] at m_6
      try simp only [q_7] at g_4
      try simp -implicitDefEqProofs (maxSteps := 2000000) [-selQ_sel, h_2, h_3, g_4, m_6, q_7]
      obtain ⟨v14, h_8, H⟩ := HS.bnd H
      have g_9 := idx_get h_8
      try simp -implicitDefEqProofs (maxSteps := 2000000) [-selQ_sel, h_2, h_3, g_4, m_6, q_7, h_8, g_9]
      obtain ⟨l15, h_10, H⟩ := HS.nam H
      have m_11 := congrArg (List.map eBox) h_10
      have q_12 := congrArg List.length h_10
      simp -implicitDefEqProofs at m_11 q_12
      try simp only [q_12] at m_11
      try simp only [q_12] at g_9
      try simp -implicitDefEqProofs (maxSteps := 2000000) [-selQ_sel, h_2, h_3, g_4, m_6, q_7, h_8, g_9, m_11, q_12]
      obtain ⟨v16, h_13, H⟩ := HS.bnd H
      have g_14 := idx_get h_13
      try simp -implicitDefEqProofs (maxSteps := 2000000) [-selQ_sel, h_2, h_3, g_4, m_6, q_7, h_8, g_9, m_11, q_12, h_13, g_14]
      obtain ⟨l17, h_15, H⟩ := HS.nam H
      have m_16 := congrArg (List.map eBox) h_15
      have q_17 := congrArg List.length h_15
      simp -implicitDefEqProofs at m_16 q_17
      try simp only [q_17] at m_16
      try simp only [q_17] at g_14
      try simp -implicitDefEqProofs (maxSteps := 2000000) [-selQ_sel, h_2, h_3, g_4, m_6, q_7, h_8, g_9, m_11, q_12, h_13, g_14, m_16, q_17]
      obtain ⟨v18, h_18, H⟩ := HS.bnd H
      have g_19 := idx_get h_18
      try simp -implicitDefEqProofs (maxSteps := 2000000) [-selQ_sel, h_2, h_3, g_4, m_6, q_7, h_8, g_9, m_11, q_12, h_13, g_14, m_16, q_17, h_18, g_19]
      obtain ⟨l19, h_20, H⟩ := HS.nam H
      have m_21 := congrArg (List.map eBox) h_20
      have q_22 := congrArg List.length h_20
      simp -implicitDefEqProofs at m_21 q_22
      try simp only [q_22] at m_21
      try simp only [q_22] at g_19
      try simp -implicitDefEqProofs (maxSteps := 2000000) [-selQ_sel, h_2, h_3, g_4, m_6, q_7, h_8, g_9, m_11, q_12, h_13, g_14, m_16, q_17, h_18, g_19, m_21, q_22]
      have hr := (HS.some H).symm; subst hr
      exact Hid.mk ⟨laws_markBoxS_l0_S ((IntKind.i64.wrap ((IntKind.i64.wrap ((IntKind.i64.wrap ((IntKind.i64.wrap (x9 + 1)) + 1)) + 1)) + 1)), (IntKind.i64.wrap (x10 + 1)), l19), Wk.ofk [0] hk (by rfl) (by simp -implicitDefEqProofs [laws_markBoxS_l0_S, h_2, h_3, g_4, m_6, q_7, h_8, g_9, m_11, q_12, h_13, g_14, m_16, q_17, h_18, g_19, m_21, q_22]) (by simp -implicitDefEqProofs [laws_markBoxS_l0_S, h_2, h_3, g_4, m_6, q_7, h_8, g_9, m_11, q_12, h_13, g_14, m_16, q_17, h_18, g_19, m_21, q_22]), hR⟩
  · obtain ⟨y20, y21⟩ := q
    try dsimp only at H
    try simp -implicitDefEqProofs (maxSteps := 2000000) [-selQ_sel, laws_markBoxS_l0_X]
    have hr := (HS.some H).symm; subst hr
    refine Hid.mk ⟨_, Wk.refl _, ?_⟩
    try simp -implicitDefEqProofs (maxSteps := 2000000) [-selQ_sel]
theorem laws_eqBoxS_ok0 (hm : Try.prog.follows .mixedOrders = true) (k_laws_eqBox : Sound Try.prog 139 laws_eqBox_x) : Sound Try.prog 57 laws_eqBoxS_x := by
  refine xOf_sound fun q r h => ?_
  obtain ⟨a0, a1⟩ := q
  refine fn_ok E0 hm Try.func57 rfl (by decide +kernel) (by rfl) fun Γ hn hk => ?_
  dsimp only [laws_eqBoxS_e, laws_eqBoxS_v]
  replace hn : Γ.n = 27 := hn
  replace hk : Γ.k = 0 := hk
  have H : HS (laws_eqBoxS a0 a1) r := h
  clear h; unfold laws_eqBoxS at H
  try simp -implicitDefEqProofs at H
  refine Tr.of_vc (cl := tabC [(139, laws_eqBox_x)]) (E := E0) [] (tab_cons k_laws_eqBox tab_nil) hm (by rw [hn]; decide +kernel) ?_
  try simp -implicitDefEqProofs +decide (maxSteps := 2000000) [-selQ_sel, hokQ_of]
  refine Hid.brV (fun h_1 => ?_) (fun h_1 => ?_)
  · replace H := HS.cnd_t h_1 H
    try simp -implicitDefEqProofs +decide (maxSteps := 2000000) [-selQ_sel, hokQ_of, h_1]
    obtain ⟨q, h_2, H⟩ := HS.bnd H
    refine Hid.mk (Tr.weak (s' := (laws_eqBoxS_l0_S a0 a1) 0) (Wk.ofk [] hk (by rfl) (by simp -implicitDefEqProofs [laws_eqBoxS_l0_S, h_1]) (by simp -implicitDefEqProofs [laws_eqBoxS_l0_S, h_1])) ?_)
    refine wp_loop_of (S := (laws_eqBoxS_l0_S a0 a1)) (f := (laws_eqBoxS_l0 a0 a1)) (xt := (laws_eqBoxS_l0_X a0 a1)) ?_ ?_ h_2 ?_
    · intro q; rcases q with ⟨⟩ | ⟨⟩ <;> simp [laws_eqBoxS_l0_X]
    · clear H h_2 q
      rintro x4 o R hf hR
      have H : HS (laws_eqBoxS_l0 a0 a1 x4) o := hf
      clear hf; unfold laws_eqBoxS_l0 at H
      try simp -implicitDefEqProofs at H
      refine Tr.of_vc (cl := tabC [(139, laws_eqBox_x)]) (E := E0) [] (tab_cons k_laws_eqBox tab_nil) hm (by rw [hn]; decide +kernel) ?_
      try simp -implicitDefEqProofs +decide (maxSteps := 2000000) [-selQ_sel, hokQ_of, laws_eqBoxS_l0_S]
      refine Hid.brV (fun h_3 => ?_) (fun h_3 => ?_)
      · replace H := HS.cnd_t h_3 H
        try simp -implicitDefEqProofs +decide (maxSteps := 2000000) [-selQ_sel, hokQ_of, h_3]
        have hr := (HS.some H).symm; subst hr
        exact Hid.mk ⟨(laws_eqBoxS_l0_X a0 a1 (.inl ())).2, Wk.ofk [] hk (by rfl) (by simp -implicitDefEqProofs [laws_eqBoxS_l0_X, h_3]) (by simp -implicitDefEqProofs [laws_eqBoxS_l0_X, h_3]), hR⟩
      · replace H := HS.cnd_f h_3 H
        try simp -implicitDefEqProofs +decide (maxSteps := 2000000) [-selQ_sel, hokQ_of, h_3]
        obtain ⟨v5, h_4, H⟩ := HS.bnd H
        try simp -implicitDefEqProofs +decide (maxSteps := 2000000) [-selQ_sel, hokQ_of, h_3, h_4]
        obtain ⟨v6, h_5, H⟩ := HS.bnd H
        try simp -implicitDefEqProofs +decide (maxSteps := 2000000) [-selQ_sel, hokQ_of, h_3, h_4, h_5]
        obtain ⟨v7, h_6, H⟩ := HS.bnd H
        try simp -implicitDefEqProofs +decide (maxSteps := 2000000) [-selQ_sel, hokQ_of, h_3, h_4, h_5, h_6]
        refine Hid.brV (fun h_7 => ?_) (fun h_7 => ?_)
        · replace H := HS.cnd_t h_7 H
          try simp -implicitDefEqProofs +decide (maxSteps := 2000000) [-selQ_sel, hokQ_of, h_3, h_4, h_5, h_6, h_7]
          have hr := (HS.some H).symm; subst hr
          exact Hid.mk ⟨laws_eqBoxS_l0_S a0 a1 (IntKind.i64.wrap (x4 + 1)), Wk.ofk [] hk (by rfl) (by simp -implicitDefEqProofs [laws_eqBoxS_l0_S, h_3, h_4, h_5, h_6, h_7]) (by simp -implicitDefEqProofs [laws_eqBoxS_l0_S, h_3, h_4, h_5, h_6, h_7]), hR⟩
        · replace H := HS.cnd_f h_7 H
          try simp -implicitDefEqProofs +decide (maxSteps := 2000000) [-selQ_sel, hokQ_of, h_3, h_4, h_5, h_6, h_7]
          have hr := (HS.some H).symm; subst hr
          exact Hid.mk ⟨(laws_eqBoxS_l0_X a0 a1 (.inr ())).2, Wk.ofk [] hk (by rfl) (by simp -implicitDefEqProofs [laws_eqBoxS_l0_X, h_3, h_4, h_5, h_6, h_7]) (by simp -implicitDefEqProofs [laws_eqBoxS_l0_X, h_3, h_4, h_5, h_6, h_7]), hR⟩
    · rcases q with ⟨⟩ | ⟨⟩
      · dsimp only at H
        try simp -implicitDefEqProofs +decide (maxSteps := 2000000) [-selQ_sel, hokQ_of, h_1, laws_eqBoxS_l0_X]
        have hr := (HS.some H).symm; subst hr
        refine Hid.mk ⟨_, Wk.refl _, ?_⟩
        try simp -implicitDefEqProofs +decide (maxSteps := 2000000) [-selQ_sel, hokQ_of, h_1]
      · dsimp only at H
        try simp -implicitDefEqProofs +decide (maxSteps := 2000000) [-selQ_sel, hokQ_of, h_1, laws_eqBoxS_l0_X]
        have hr := (HS.some H).symm; subst hr
        refine Hid.mk ⟨_, Wk.refl _, ?_⟩
        try simp -implicitDefEqProofs +decide (maxSteps := 2000000) [-selQ_sel, hokQ_of, h_1]
  · replace H := HS.cnd_f h_1 H
    try simp -implicitDefEqProofs +decide (maxSteps := 2000000) [-selQ_sel, hokQ_of, h_1]
    have hr := (HS.some H).symm; subst hr
    refine Hid.mk ⟨_, Wk.refl _, ?_⟩
    try simp -implicitDefEqProofs +decide (maxSteps := 2000000) [-selQ_sel, hokQ_of, h_1]
theorem laws_toBoxS_ok0 (hm : Try.prog.follows .mixedOrders = true) (k_laws_toBox : Sound Try.prog 137 laws_toBox_x) : Sound Try.prog 54 laws_toBoxS_x := by
  refine xOf_sound fun q r h => ?_
  revert h; revert r; revert q; intro a0 r h
  refine fn_ok E0 hm Try.func54 rfl (by decide +kernel) (by rfl) fun Γ hn hk => ?_
  dsimp only [laws_toBoxS_e, laws_toBoxS_v]
  replace hn : Γ.n = 23 := hn
  replace hk : Γ.k = 0 := hk
  have H : HS (laws_toBoxS a0) r := h
  clear h; unfold laws_toBoxS at H
  try simp -implicitDefEqProofs at H
  refine Tr.of_vc (cl := tabC [(137, laws_toBox_x)]) (E := E0) [] (tab_cons k_laws_toBox tab_nil) hm (by rw [hn]; decide +kernel) ?_
  try simp -implicitDefEqProofs (maxSteps := 2000000) [-selQ_sel]
  obtain ⟨h_1, H⟩ := HS.chkP H
  try simp -implicitDefEqProofs (maxSteps := 2000000) [-selQ_sel, h_1]
  obtain ⟨l1, h_2, H⟩ := HS.nam H
  have m_3 := congrArg (List.map eBox) h_2
  have q_4 := congrArg List.length h_2
  simp -implicitDefEqProofs at m_3 q_4
  try simp only [q_4] at m_3
  try simp only [q_4] at h_1
  try simp -implicitDefEqProofs (maxSteps := 2000000) [-selQ_sel, h_1, m_3, q_4]
  obtain ⟨q, h_5, H⟩ := HS.bnd H
  refine Hid.mk (Tr.weak (s' := (laws_toBoxS_l0_S a0) (0, l1)) (Wk.ofk [0] hk (by rfl) (by simp -implicitDefEqProofs [laws_toBoxS_l0_S, h_1, m_3, q_4]) (by simp -implicitDefEqProofs [laws_toBoxS_l0_S, h_1, m_3, q_4])) ?_)
  refine wp_loop_of (S := (laws_toBoxS_l0_S a0)) (f := (laws_toBoxS_l0 a0)) (xt := (laws_toBoxS_l0_X a0)) ?_ ?_ h_5 ?_
  · intro q; simp [laws_toBoxS_l0_X]
  · clear H h_5 q
    rintro ⟨x6, x7⟩ o R hf hR
    have H : HS (laws_toBoxS_l0 a0 (x6, x7)) o := hf
    clear hf; unfold laws_toBoxS_l0 at H
    try simp -implicitDefEqProofs at H
    refine Tr.of_vc (cl := tabC [(137, laws_toBox_x)]) (E := E0) [] (tab_cons k_laws_toBox tab_nil) hm (by rw [hn]; decide +kernel) ?_
    try simp -implicitDefEqProofs (maxSteps := 2000000) [-selQ_sel, laws_toBoxS_l0_S]
    refine Hid.brV (fun h_6 => ?_) (fun h_6 => ?_)
    · replace H := HS.cnd_t h_6 H
      try simp -implicitDefEqProofs (maxSteps := 2000000) [-selQ_sel, h_6]
      have hr := (HS.some H).symm; subst hr
      exact Hid.mk ⟨(laws_toBoxS_l0_X a0 x7).2, Wk.ofk [0] hk (by rfl) (by simp -implicitDefEqProofs [laws_toBoxS_l0_X, h_6]) (by simp -implicitDefEqProofs [laws_toBoxS_l0_X, h_6]), hR⟩
    · replace H := HS.cnd_f h_6 H
      try simp -implicitDefEqProofs (maxSteps := 2000000) [-selQ_sel, h_6]
      obtain ⟨v8, h_7, H⟩ := HS.bnd H
      try simp -implicitDefEqProofs (maxSteps := 2000000) [-selQ_sel, h_6, h_7]
      obtain ⟨v9, h_8, H⟩ := HS.bnd H
      try simp -implicitDefEqProofs (maxSteps := 2000000) [-selQ_sel, h_6, h_7, h_8]
      obtain ⟨v10, h_9, H⟩ := HS.bnd H
      have g_10 := idx_get h_9
      try simp -implicitDefEqProofs (maxSteps := 2000000) [-selQ_sel, h_6, h_7, h_8, h_9, g_10]
      obtain ⟨l11, h_11, H⟩ := HS.nam H
      have m_12 := congrArg (List.map eBox) h_11
      have q_13 := congrArg List.length h_11
      simp -implicitDefEqProofs at m_12 q_13
      try simp only [q_13] at m_12
      try simp only [q_13] at g_10
      try simp -implicitDefEqProofs (maxSteps := 2000000) [-selQ_sel, h_6, h_7, h_8, h_9, g_10, m_12, q_13]
      have hr := (HS.some H).symm; subst hr
      exact Hid.mk ⟨laws_toBoxS_l0_S a0 ((IntKind.i64.wrap (x6 + 1)), l11), Wk.ofk [0] hk (by rfl) (by simp -implicitDefEqProofs [laws_toBoxS_l0_S, h_6, h_7, h_8, h_9, g_10, m_12, q_13]) (by simp -implicitDefEqProofs [laws_toBoxS_l0_S, h_6, h_7, h_8, h_9, g_10, m_12, q_13]), hR⟩
  · revert H h_5; revert q; intro y12 h_5 H
    try dsimp only at H
    try simp -implicitDefEqProofs (maxSteps := 2000000) [-selQ_sel, h_1, m_3, q_4, laws_toBoxS_l0_X]
    have hr := (HS.some H).symm; subst hr
    refine Hid.mk ⟨⟨[(2, AV.osl 0 0 (List.length y12) (List.length y12))], [(0, Ob.arr 4 (List.map eBox y12) false)], 1⟩, Wk.ofk [0] hk (by rfl) (by simp -implicitDefEqProofs [h_1, m_3, q_4]) (by simp -implicitDefEqProofs [h_1, m_3, q_4]), ?_⟩
    try simp -implicitDefEqProofs (maxSteps := 2000000) [-selQ_sel, h_1, m_3, q_4]
theorem laws_heldIntS_ok0 (hm : Try.prog.follows .mixedOrders = true) : Sound Try.prog 60 laws_heldIntS_x := by
  refine xOf_sound fun q r h => ?_
  obtain ⟨a0, a1⟩ := q
  refine fn_ok E0 hm Try.func60 rfl (by decide +kernel) (by rfl) fun Γ hn hk => ?_
  dsimp only [laws_heldIntS_e, laws_heldIntS_v]
  replace hn : Γ.n = 21 := hn
  replace hk : Γ.k = 0 := hk
  have H : HS (laws_heldIntS a0 a1) r := h
  clear h; unfold laws_heldIntS at H
  try simp -implicitDefEqProofs at H
  refine Tr.of_vc (cl := tabC []) (E := E0) [] tab_nil hm (by rw [hn]; decide +kernel) ?_
  try simp -implicitDefEqProofs (maxSteps := 2000000) [-selQ_sel]
  obtain ⟨q, h_1, H⟩ := HS.bnd H
  refine Hid.mk (Tr.weak (s' := (laws_heldIntS_l0_S a0) (a1, 0)) (Wk.ofk [] hk (by rfl) (by simp -implicitDefEqProofs [laws_heldIntS_l0_S]) (by simp -implicitDefEqProofs [laws_heldIntS_l0_S])) ?_)
  refine wp_loop_of (S := (laws_heldIntS_l0_S a0)) (f := (laws_heldIntS_l0 a0)) (xt := (laws_heldIntS_l0_X a0)) ?_ ?_ h_1 ?_
  · intro q; rcases q with y5 | ⟨⟩ <;> simp [laws_heldIntS_l0_X]
  · clear H h_1 q
    rintro ⟨x2, x3⟩ o R hf hR
    have H : HS (laws_heldIntS_l0 a0 (x2, x3)) o := hf
    clear hf; unfold laws_heldIntS_l0 at H
    try simp -implicitDefEqProofs at H
    refine Tr.of_vc (cl := tabC []) (E := E0) [] tab_nil hm (by rw [hn]; decide +kernel) ?_
    try simp -implicitDefEqProofs (maxSteps := 2000000) [-selQ_sel, laws_heldIntS_l0_S]
    refine Hid.brV (fun h_2 => ?_) (fun h_2 => ?_)
    · replace H := HS.cnd_t h_2 H
      try simp -implicitDefEqProofs (maxSteps := 2000000) [-selQ_sel, h_2]
      have hr := (HS.some H).symm; subst hr
      exact Hid.mk ⟨(laws_heldIntS_l0_X a0 (.inl x2)).2, Wk.ofk [] hk (by rfl) (by simp -implicitDefEqProofs [laws_heldIntS_l0_X, h_2]) (by simp -implicitDefEqProofs [laws_heldIntS_l0_X, h_2]), hR⟩
    · replace H := HS.cnd_f h_2 H
      try simp -implicitDefEqProofs (maxSteps := 2000000) [-selQ_sel, h_2]
      obtain ⟨v4, h_3, H⟩ := HS.bnd H
      try simp -implicitDefEqProofs (maxSteps := 2000000) [-selQ_sel, h_2, h_3]
      refine Hid.brV (fun h_4 => ?_) (fun h_4 => ?_)
      · replace H := HS.cnd_t h_4 H
        try simp -implicitDefEqProofs (maxSteps := 2000000) [-selQ_sel, h_2, h_3, h_4]
        have hr := (HS.some H).symm; subst hr
        exact Hid.mk ⟨laws_heldIntS_l0_S a0 ((IntKind.i64.wrap (x2 + 1)), (IntKind.i64.wrap (x3 + 1))), Wk.ofk [] hk (by rfl) (by simp -implicitDefEqProofs [laws_heldIntS_l0_S, h_2, h_3, h_4]) (by simp -implicitDefEqProofs [laws_heldIntS_l0_S, h_2, h_3, h_4]), hR⟩
      · replace H := HS.cnd_f h_4 H
        try simp -implicitDefEqProofs (maxSteps := 2000000) [-selQ_sel, h_2, h_3, h_4]
        have hr := (HS.some H).symm; subst hr
        exact Hid.mk ⟨(laws_heldIntS_l0_X a0 (.inr ())).2, Wk.ofk [] hk (by rfl) (by simp -implicitDefEqProofs [laws_heldIntS_l0_X, h_2, h_3, h_4]) (by simp -implicitDefEqProofs [laws_heldIntS_l0_X, h_2, h_3, h_4]), hR⟩
  · rcases q with y5 | ⟨⟩
    · dsimp only at H
      try simp -implicitDefEqProofs (maxSteps := 2000000) [-selQ_sel, laws_heldIntS_l0_X]
      have hr := (HS.some H).symm; subst hr
      refine Hid.mk ⟨_, Wk.refl _, ?_⟩
      try simp -implicitDefEqProofs (maxSteps := 2000000) [-selQ_sel]
    · dsimp only at H
      try simp -implicitDefEqProofs (maxSteps := 2000000) [-selQ_sel, laws_heldIntS_l0_X]
      have hr := (HS.some H).symm; subst hr
      refine Hid.mk ⟨_, Wk.refl _, ?_⟩
      try simp -implicitDefEqProofs (maxSteps := 2000000) [-selQ_sel]
theorem laws_eqBox_ok0 (hm : Try.prog.follows .mixedOrders = true) : Sound Try.prog 139 laws_eqBox_x := by
  refine xOf_sound fun q r h => ?_
  obtain ⟨a0, a1⟩ := q
  refine fn_ok E0 hm Try.func139 rfl (by decide +kernel) (by rfl) fun Γ hn hk => ?_
  dsimp only [laws_eqBox_e, laws_eqBox_v]
  replace hn : Γ.n = 25 := hn
  replace hk : Γ.k = 0 := hk
  have H : HS (laws_eqBox a0 a1) r := h
  clear h; unfold laws_eqBox at H
  try simp -implicitDefEqProofs at H
  refine Tr.of_vc (cl := tabC []) (E := E0) [] tab_nil hm (by rw [hn]; decide +kernel) ?_
  try simp -implicitDefEqProofs (maxSteps := 2000000) [-selQ_sel]
  refine Hid.brV (fun h_1 => ?_) (fun h_1 => ?_)
  · replace H := HS.cnd_t h_1 H
    try simp -implicitDefEqProofs (maxSteps := 2000000) [-selQ_sel, h_1]
    refine Hid.brV (fun h_2 => ?_) (fun h_2 => ?_)
    · replace H := HS.cnd_t h_2 H
      try simp -implicitDefEqProofs (maxSteps := 2000000) [-selQ_sel, h_1, h_2]
      refine Hid.brV (fun h_3 => ?_) (fun h_3 => ?_)
      · replace H := HS.cnd_t h_3 H
        try simp -implicitDefEqProofs (maxSteps := 2000000) [-selQ_sel, h_1, h_2, h_3]
        refine Hid.brV (fun h_4 => ?_) (fun h_4 => ?_)
        · replace H := HS.cnd_t h_4 H
          try simp -implicitDefEqProofs (maxSteps := 2000000) [-selQ_sel, h_1, h_2, h_3, h_4]
          have hr := (HS.some H).symm; subst hr
          refine Hid.mk ⟨_, Wk.refl _, ?_⟩
          try simp -implicitDefEqProofs (maxSteps := 2000000) [-selQ_sel, h_1, h_2, h_3, h_4]
        · replace H := HS.cnd_f h_4 H
          try simp -implicitDefEqProofs (maxSteps := 2000000) [-selQ_sel, h_1, h_2, h_3, h_4]
          have hr := (HS.some H).symm; subst hr
          refine Hid.mk ⟨_, Wk.refl _, ?_⟩
          try simp -implicitDefEqProofs (maxSteps := 2000000) [-selQ_sel, h_1, h_2, h_3, h_4]
      · replace H := HS.cnd_f h_3 H
        try simp -implicitDefEqProofs (maxSteps := 2000000) [-selQ_sel, h_1, h_2, h_3]
        have hr := (HS.some H).symm; subst hr
        refine Hid.mk ⟨_, Wk.refl _, ?_⟩
        try simp -implicitDefEqProofs (maxSteps := 2000000) [-selQ_sel, h_1, h_2, h_3]
    · replace H := HS.cnd_f h_2 H
      try simp -implicitDefEqProofs (maxSteps := 2000000) [-selQ_sel, h_1, h_2]
      have hr := (HS.some H).symm; subst hr
      refine Hid.mk ⟨_, Wk.refl _, ?_⟩
      try simp -implicitDefEqProofs (maxSteps := 2000000) [-selQ_sel, h_1, h_2]
  · replace H := HS.cnd_f h_1 H
    try simp -implicitDefEqProofs (maxSteps := 2000000) [-selQ_sel, h_1]
    have hr := (HS.some H).symm; subst hr
    refine Hid.mk ⟨_, Wk.refl _, ?_⟩
    try simp -implicitDefEqProofs (maxSteps := 2000000) [-selQ_sel, h_1]
theorem spec_MeetBox_ok0 (hm : Try.prog.follows .mixedOrders = true) (k_spec_l05Most : Sound Try.prog 154 spec_l05Most_x) (k_spec_l05Least : Sound Try.prog 155 spec_l05Least_x) (k_spec_Empty : Sound Try.prog 84 spec_Empty_x) : Sound Try.prog 85 spec_MeetBox_x := by
  refine xOf_sound fun q r h => ?_
  obtain ⟨a0, a1⟩ := q
  refine fn_ok E0 hm Try.func85 rfl (by decide +kernel) (by rfl) fun Γ hn hk => ?_
  dsimp only [spec_MeetBox_e, spec_MeetBox_v]
  replace hn : Γ.n = 31 := hn
  replace hk : Γ.k = 0 := hk
  have H : HS (spec_MeetBox a0 a1) r := h
  clear h; unfold spec_MeetBox at H
  try simp -implicitDefEqProofs at H
  refine Tr.of_vc (cl := tabC [(154, spec_l05Most_x), (155, spec_l05Least_x), (84, spec_Empty_x)]) (E := E0) [] (tab_cons k_spec_l05Most (tab_cons k_spec_l05Least (tab_cons k_spec_Empty tab_nil))) hm (by rw [hn]; decide +kernel) ?_
  try simp -implicitDefEqProofs +decide (maxSteps := 2000000) [-selQ_sel, hokQ_of]
  obtain ⟨v1, h_1, H⟩ := HS.bnd H
  try simp -implicitDefEqProofs +decide (maxSteps := 2000000) [-selQ_sel, hokQ_of, h_1]
  obtain ⟨v2, h_2, H⟩ := HS.bnd H
  try simp -implicitDefEqProofs +decide (maxSteps := 2000000) [-selQ_sel, hokQ_of, h_1, h_2]
  obtain ⟨v3, h_3, H⟩ := HS.bnd H
  try simp -implicitDefEqProofs +decide (maxSteps := 2000000) [-selQ_sel, hokQ_of, h_1, h_2, h_3]
  obtain ⟨v4, h_4, H⟩ := HS.bnd H
  try simp -implicitDefEqProofs +decide (maxSteps := 2000000) [-selQ_sel, hokQ_of, h_1, h_2, h_3, h_4]
  obtain ⟨v5, h_5, H⟩ := HS.bnd H
  try simp -implicitDefEqProofs +decide (maxSteps := 2000000) [-selQ_sel, hokQ_of, h_1, h_2, h_3, h_4, h_5]
  refine Hid.brV (fun h_6 => ?_) (fun h_6 => ?_)
  · replace H := HS.cnd_t h_6 H
    try simp -implicitDefEqProofs +decide (maxSteps := 2000000) [-selQ_sel, hokQ_of, h_1, h_2, h_3, h_4, h_5, h_6]
    have hr := (HS.some H).symm; subst hr
    refine Hid.mk ⟨_, Wk.refl _, ?_⟩
    try simp -implicitDefEqProofs +decide (maxSteps := 2000000) [-selQ_sel, hokQ_of, h_1, h_2, h_3, h_4, h_5, h_6]
  · replace H := HS.cnd_f h_6 H
    try simp -implicitDefEqProofs +decide (maxSteps := 2000000) [-selQ_sel, hokQ_of, h_1, h_2, h_3, h_4, h_5, h_6]
    have hr := (HS.some H).symm; subst hr
    refine Hid.mk ⟨_, Wk.refl _, ?_⟩
    try simp -implicitDefEqProofs +decide (maxSteps := 2000000) [-selQ_sel, hokQ_of, h_1, h_2, h_3, h_4, h_5, h_6]
theorem spec_TileCount_ok0 (hm : Try.prog.follows .mixedOrders = true) (k_spec_l01In : Sound Try.prog 73 spec_l01In_x) : Sound Try.prog 81 spec_TileCount_x := by
  refine xOf_sound fun q r h => ?_
  obtain ⟨a0, a1⟩ := q
  refine fn_ok E0 hm Try.func81 rfl (by decide +kernel) (by rfl) fun Γ hn hk => ?_
  dsimp only [spec_TileCount_e, spec_TileCount_v]
  replace hn : Γ.n = 20 := hn
  replace hk : Γ.k = 0 := hk
  have H : HS (spec_TileCount a0 a1) r := h
  clear h; unfold spec_TileCount at H
  try simp -implicitDefEqProofs at H
  refine Tr.of_vc (cl := tabC [(73, spec_l01In_x)]) (E := E0) [] (tab_cons k_spec_l01In tab_nil) hm (by rw [hn]; decide +kernel) ?_
  try simp -implicitDefEqProofs (maxSteps := 2000000) [-selQ_sel]
  obtain ⟨v1, h_1, H⟩ := HS.bnd H
  try simp -implicitDefEqProofs (maxSteps := 2000000) [-selQ_sel, h_1]
  refine Hid.selQ (fun h_2 => ?_) (fun h_2 => ?_)
  · replace H := HS.cnd_t h_2 H
    try simp -implicitDefEqProofs (maxSteps := 2000000) [-selQ_sel, h_1, h_2]
    obtain ⟨v2, h_3, H⟩ := HS.bnd H
    try simp -implicitDefEqProofs (maxSteps := 2000000) [-selQ_sel, h_1, h_2, h_3]
    refine Hid.brV (fun h_4 => ?_) (fun h_4 => ?_)
    · replace H := HS.cnd_t h_4 H
      try simp -implicitDefEqProofs (maxSteps := 2000000) [-selQ_sel, h_1, h_2, h_3, h_4]
      have hr := (HS.some H).symm; subst hr
      refine Hid.mk ⟨_, Wk.refl _, ?_⟩
      try simp -implicitDefEqProofs (maxSteps := 2000000) [-selQ_sel, h_1, h_2, h_3, h_4]
    · replace H := HS.cnd_f h_4 H
      try simp -implicitDefEqProofs (maxSteps := 2000000) [-selQ_sel, h_1, h_2, h_3, h_4]
      have hr := (HS.some H).symm; subst hr
      refine Hid.mk ⟨_, Wk.refl _, ?_⟩
      try simp -implicitDefEqProofs (maxSteps := 2000000) [-selQ_sel, h_1, h_2, h_3, h_4]
  · replace H := HS.cnd_f h_2 H
    try simp -implicitDefEqProofs (maxSteps := 2000000) [-selQ_sel, h_1, h_2]
    have hr := (HS.some H).symm; subst hr
    refine Hid.mk ⟨_, Wk.refl _, ?_⟩
    try simp -implicitDefEqProofs (maxSteps := 2000000) [-selQ_sel, h_1, h_2]
theorem impl_MeetBox_ok0 (hm : Try.prog.follows .mixedOrders = true) (k_impl_Empty : Sound Try.prog 158 impl_Empty_x) : Sound Try.prog 157 impl_MeetBox_x := by
  refine xOf_sound fun q r h => ?_
  obtain ⟨a0, a1⟩ := q
  refine fn_ok E0 hm Try.func157 rfl (by decide +kernel) (by rfl) fun Γ hn hk => ?_
  dsimp only [impl_MeetBox_e, impl_MeetBox_v]
  replace hn : Γ.n = 31 := hn
  replace hk : Γ.k = 0 := hk
  have H : HS (impl_MeetBox a0 a1) r := h
  clear h; unfold impl_MeetBox at H
  try simp -implicitDefEqProofs at H
  refine Tr.of_vc (cl := tabC [(158, impl_Empty_x)]) (E := E0) [] (tab_cons k_impl_Empty tab_nil) hm (by rw [hn]; decide +kernel) ?_
  try simp -implicitDefEqProofs (maxSteps := 2000000) [-selQ_sel]
  obtain ⟨v1, h_1, H⟩ := HS.bnd H
  try simp -implicitDefEqProofs (maxSteps := 2000000) [-selQ_sel, h_1]
  refine Hid.brV (fun h_2 => ?_) (fun h_2 => ?_)
  · replace H := HS.cnd_t h_2 H
    try simp -implicitDefEqProofs (maxSteps := 2000000) [-selQ_sel, h_1, h_2]
    have hr := (HS.some H).symm; subst hr
    refine Hid.mk ⟨_, Wk.refl _, ?_⟩
    try simp -implicitDefEqProofs (maxSteps := 2000000) [-selQ_sel, h_1, h_2]
  · replace H := HS.cnd_f h_2 H
    try simp -implicitDefEqProofs (maxSteps := 2000000) [-selQ_sel, h_1, h_2]
    have hr := (HS.some H).symm; subst hr
    refine Hid.mk ⟨_, Wk.refl _, ?_⟩
    try simp -implicitDefEqProofs (maxSteps := 2000000) [-selQ_sel, h_1, h_2]
theorem spec_Empty_ok0 (hm : Try.prog.follows .mixedOrders = true) : Sound Try.prog 84 spec_Empty_x := by
  refine xOf_sound fun q r h => ?_
  revert h; revert r; revert q; intro a0 r h
  refine fn_ok E0 hm Try.func84 rfl (by decide +kernel) (by rfl) fun Γ hn hk => ?_
  dsimp only [spec_Empty_e, spec_Empty_v]
  replace hn : Γ.n = 15 := hn
  replace hk : Γ.k = 0 := hk
  have H : HS (spec_Empty a0) r := h
  clear h; unfold spec_Empty at H
  try simp -implicitDefEqProofs at H
  refine Tr.of_vc (cl := tabC []) (E := E0) [] tab_nil hm (by rw [hn]; decide +kernel) ?_
  try simp -implicitDefEqProofs (maxSteps := 2000000) [-selQ_sel]
  refine Hid.selQ (fun h_1 => ?_) (fun h_1 => ?_)
  · replace H := HS.cnd_t h_1 H
    try simp -implicitDefEqProofs (maxSteps := 2000000) [-selQ_sel, h_1]
    have hr := (HS.some H).symm; subst hr
    refine Hid.mk ⟨_, Wk.refl _, ?_⟩
    try simp -implicitDefEqProofs (maxSteps := 2000000) [-selQ_sel, h_1]
  · replace H := HS.cnd_f h_1 H
    try simp -implicitDefEqProofs (maxSteps := 2000000) [-selQ_sel, h_1]
    have hr := (HS.some H).symm; subst hr
    refine Hid.mk ⟨_, Wk.refl _, ?_⟩
    try simp -implicitDefEqProofs (maxSteps := 2000000) [-selQ_sel, h_1]
theorem spec_l05Most_ok0 (hm : Try.prog.follows .mixedOrders = true) : Sound Try.prog 154 spec_l05Most_x := by
  refine xOf_sound fun q r h => ?_
  obtain ⟨a0, a1⟩ := q
  refine fn_ok E0 hm Try.func154 rfl (by decide +kernel) (by rfl) fun Γ hn hk => ?_
  dsimp only [spec_l05Most_e, spec_l05Most_v]
  replace hn : Γ.n = 10 := hn
  replace hk : Γ.k = 0 := hk
  have H : HS (spec_l05Most a0 a1) r := h
  clear h; unfold spec_l05Most at H
  try simp -implicitDefEqProofs at H
  refine Tr.of_vc (cl := tabC []) (E := E0) [] tab_nil hm (by rw [hn]; decide +kernel) ?_
  try simp -implicitDefEqProofs (maxSteps := 2000000) [-selQ_sel]
  refine Hid.brV (fun h_1 => ?_) (fun h_1 => ?_)
  · replace H := HS.cnd_t h_1 H
    try simp -implicitDefEqProofs (maxSteps := 2000000) [-selQ_sel, h_1]
    have hr := (HS.some H).symm; subst hr
    refine Hid.mk ⟨_, Wk.refl _, ?_⟩
    try simp -implicitDefEqProofs (maxSteps := 2000000) [-selQ_sel, h_1]
  · replace H := HS.cnd_f h_1 H
    try simp -implicitDefEqProofs (maxSteps := 2000000) [-selQ_sel, h_1]
    have hr := (HS.some H).symm; subst hr
    refine Hid.mk ⟨_, Wk.refl _, ?_⟩
    try simp -implicitDefEqProofs (maxSteps := 2000000) [-selQ_sel, h_1]
theorem laws_szBoxS_ok0 (hm : Try.prog.follows .mixedOrders = true) : Sound Try.prog 52 laws_szBoxS_x := by
  refine xOf_sound fun q r h => ?_
  obtain ⟨a0, a1⟩ := q
  refine fn_ok E0 hm Try.func52 rfl (by decide +kernel) (by rfl) fun Γ hn hk => ?_
  dsimp only [laws_szBoxS_e, laws_szBoxS_v]
  replace hn : Γ.n = 12 := hn
  replace hk : Γ.k = 0 := hk
  have H : HS (laws_szBoxS a0 a1) r := h
  clear h; unfold laws_szBoxS at H
  try simp -implicitDefEqProofs at H
  refine Tr.of_vc (cl := tabC []) (E := E0) [] tab_nil hm (by rw [hn]; decide +kernel) ?_
  try simp -implicitDefEqProofs (maxSteps := 2000000) [-selQ_sel]
  refine Hid.brV (fun h_1 => ?_) (fun h_1 => ?_)
  · replace H := HS.cnd_t h_1 H
    try simp -implicitDefEqProofs (maxSteps := 2000000) [-selQ_sel, h_1]
    have hr := (HS.some H).symm; subst hr
    refine Hid.mk ⟨_, Wk.refl _, ?_⟩
    try simp -implicitDefEqProofs (maxSteps := 2000000) [-selQ_sel, h_1]
  · replace H := HS.cnd_f h_1 H
    try simp -implicitDefEqProofs (maxSteps := 2000000) [-selQ_sel, h_1]
    have hr := (HS.some H).symm; subst hr
    refine Hid.mk ⟨_, Wk.refl _, ?_⟩
    try simp -implicitDefEqProofs (maxSteps := 2000000) [-selQ_sel, h_1]
theorem impl_tilesAlong_ok0 (hm : Try.prog.follows .mixedOrders = true) : Sound Try.prog 156 impl_tilesAlong_x := by
  refine xOf_sound fun q r h => ?_
  revert h; revert r; revert q; intro a0 r h
  refine fn_ok E0 hm Try.func156 rfl (by decide +kernel) (by rfl) fun Γ hn hk => ?_
  dsimp only [impl_tilesAlong_e, impl_tilesAlong_v]
  replace hn : Γ.n = 7 := hn
  replace hk : Γ.k = 0 := hk
  have H : HS (impl_tilesAlong a0) r := h
  clear h; unfold impl_tilesAlong at H
  try simp -implicitDefEqProofs at H
  refine Tr.of_vc (cl := tabC []) (E := E0) [] tab_nil hm (by rw [hn]; decide +kernel) ?_
  try simp -implicitDefEqProofs (maxSteps := 2000000) [-selQ_sel]
  have hr := (HS.some H).symm; subst hr
  refine Hid.mk ⟨_, Wk.refl _, ?_⟩
  try simp -implicitDefEqProofs (maxSteps := 2000000) [-selQ_sel]
theorem laws_toBox_ok0 (hm : Try.prog.follows .mixedOrders = true) : Sound Try.prog 137 laws_toBox_x := by
  refine xOf_sound fun q r h => ?_
  revert h; revert r; revert q; intro a0 r h
  refine fn_ok E0 hm Try.func137 rfl (by decide +kernel) (by rfl) fun Γ hn hk => ?_
  dsimp only [laws_toBox_e, laws_toBox_v]
  replace hn : Γ.n = 17 := hn
  replace hk : Γ.k = 0 := hk
  have H : HS (laws_toBox a0) r := h
  clear h; unfold laws_toBox at H
  try simp -implicitDefEqProofs at H
  refine Tr.of_vc (cl := tabC []) (E := E0) [] tab_nil hm (by rw [hn]; decide +kernel) ?_
  try simp -implicitDefEqProofs (maxSteps := 2000000) [-selQ_sel]
  have hr := (HS.some H).symm; subst hr
  refine Hid.mk ⟨_, Wk.refl _, ?_⟩
  try simp -implicitDefEqProofs (maxSteps := 2000000) [-selQ_sel]
end Go.Proofs.Ytoafihhhdnmliaa.Am
