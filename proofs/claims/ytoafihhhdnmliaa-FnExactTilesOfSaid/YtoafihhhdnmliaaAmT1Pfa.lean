import Derived.Test.YtoafihhhdnmliaaAmT1Mo
set_option linter.unusedVariables false
set_option linter.unusedSimpArgs false
set_option linter.unusedSectionVars false
namespace Go.Proofs.Ytoafihhhdnmliaa.Am
open Go Go.Proofs
set_option maxRecDepth 100000
set_option linter.unusedSimpArgs false
set_option linter.unusedVariables false
set_option maxHeartbeats 4000000
theorem spec_TilesOf_ok0 (hm : Try.prog.follows .mixedOrders = true) (k_spec_TileCount : Sound Try.prog 81 spec_TileCount_x) (k_spec_TileBox : Sound Try.prog 83 spec_TileBox_x) (k_spec_MeetBox : Sound Try.prog 85 spec_MeetBox_x) (k_spec_Empty : Sound Try.prog 84 spec_Empty_x) : Sound Try.prog 53 spec_TilesOf_x := by
  refine xOf_sound fun q r h => ?_
  obtain ⟨a0, a1, a2⟩ := q
  refine fn_ok E0 hm Try.func53 rfl (by decide +kernel) (by rfl) fun Γ hn hk => ?_
  dsimp only [spec_TilesOf_e, spec_TilesOf_v]
  replace hn : Γ.n = 47 := hn
  replace hk : Γ.k = 0 := hk
  have H : HS (spec_TilesOf a0 a1 a2) r := h
  clear h; unfold spec_TilesOf at H
  try simp -implicitDefEqProofs at H
  refine Tr.of_vc (cl := tabC [(81, spec_TileCount_x), (83, spec_TileBox_x), (85, spec_MeetBox_x), (84, spec_Empty_x)]) (E := E0) [] (tab_cons k_spec_TileCount (tab_cons k_spec_TileBox (tab_cons k_spec_MeetBox (tab_cons k_spec_Empty tab_nil)))) hm (by rw [hn]; decide +kernel) ?_
  try simp -implicitDefEqProofs +decide (maxSteps := 2000000) [-selQ_sel, hokQ_of]
  obtain ⟨q, h_1, H⟩ := HS.bnd H
  refine Hid.mk (Tr.weak (s' := (spec_TilesOf_l1_S a0 a1 a2) (0, [])) (Wk.ofk [0] hk (by rfl) (by simp -implicitDefEqProofs [spec_TilesOf_l1_S]) (by simp -implicitDefEqProofs [spec_TilesOf_l1_S])) ?_)
  refine wp_loop_of (S := (spec_TilesOf_l1_S a0 a1 a2)) (f := (spec_TilesOf_l1 a0 a1 a2)) (xt := (spec_TilesOf_l1_X a0 a1 a2)) ?_ ?_ h_1 ?_
  · intro q; simp [spec_TilesOf_l1_X]
  · clear H h_1 q
    rintro ⟨x12, x13⟩ o R hf hR
    have H : HS (spec_TilesOf_l1 a0 a1 a2 (x12, x13)) o := hf
    clear hf; unfold spec_TilesOf_l1 at H
    try simp -implicitDefEqProofs at H
    refine Tr.of_vc (cl := tabC [(81, spec_TileCount_x), (83, spec_TileBox_x), (85, spec_MeetBox_x), (84, spec_Empty_x)]) (E := E0) [] (tab_cons k_spec_TileCount (tab_cons k_spec_TileBox (tab_cons k_spec_MeetBox (tab_cons k_spec_Empty tab_nil)))) hm (by rw [hn]; decide +kernel) ?_
    try simp -implicitDefEqProofs +decide (maxSteps := 2000000) [-selQ_sel, hokQ_of, spec_TilesOf_l1_S]
    obtain ⟨v14, h_2, H⟩ := HS.bnd H
    try simp -implicitDefEqProofs +decide (maxSteps := 2000000) [-selQ_sel, hokQ_of, h_2]
    refine Hid.brV (fun h_3 => ?_) (fun h_3 => ?_)
    · replace H := HS.cnd_t h_3 H
      try simp -implicitDefEqProofs +decide (maxSteps := 2000000) [-selQ_sel, hokQ_of, h_2, h_3]
      have hr := (HS.some H).symm; subst hr
      exact Hid.mk ⟨(spec_TilesOf_l1_X a0 a1 a2 x13).2, Wk.ofk [0] hk (by rfl) (by simp -implicitDefEqProofs [spec_TilesOf_l1_X, h_2, h_3]) (by simp -implicitDefEqProofs [spec_TilesOf_l1_X, h_2, h_3]), hR⟩
    · replace H := HS.cnd_f h_3 H
      try simp -implicitDefEqProofs +decide (maxSteps := 2000000) [-selQ_sel, hokQ_of, h_2, h_3]
      obtain ⟨v15, h_4, H⟩ := HS.bnd H
      try simp -implicitDefEqProofs +decide (maxSteps := 2000000) [-selQ_sel, hokQ_of, h_2, h_3, h_4]
      obtain ⟨q, h_5, H⟩ := HS.bnd H
      refine Hid.mk (Tr.weak (s' := (spec_TilesOf_l0_S a0 a1 a2 v15 x12 x13) (false, 0)) (Wk.ofk [0, 1] hk (by rfl) (by simp -implicitDefEqProofs [spec_TilesOf_l0_S, h_2, h_3, h_4]) (by simp -implicitDefEqProofs [spec_TilesOf_l0_S, h_2, h_3, h_4])) ?_)
      refine wp_loop_of (S := (spec_TilesOf_l0_S a0 a1 a2 v15 x12 x13)) (f := (spec_TilesOf_l0 a0 a1 a2 v15 x12 x13)) (xt := (spec_TilesOf_l0_X a0 a1 a2 v15 x12 x13)) ?_ ?_ h_5 ?_
      · intro q; simp [spec_TilesOf_l0_X]
      · clear H h_5 q
        rintro ⟨x19, x20⟩ o R hf hR
        have H : HS (spec_TilesOf_l0 a0 a1 a2 v15 x12 x13 (x19, x20)) o := hf
        clear hf; unfold spec_TilesOf_l0 at H
        try simp -implicitDefEqProofs at H
        refine Tr.of_vc (cl := tabC [(81, spec_TileCount_x), (83, spec_TileBox_x), (85, spec_MeetBox_x), (84, spec_Empty_x)]) (E := E0) [] (tab_cons k_spec_TileCount (tab_cons k_spec_TileBox (tab_cons k_spec_MeetBox (tab_cons k_spec_Empty tab_nil)))) hm (by rw [hn]; decide +kernel) ?_
        try simp -implicitDefEqProofs +decide (maxSteps := 2000000) [-selQ_sel, hokQ_of, spec_TilesOf_l0_S]
        refine Hid.brV (fun h_6 => ?_) (fun h_6 => ?_)
        · replace H := HS.cnd_t h_6 H
          try simp -implicitDefEqProofs +decide (maxSteps := 2000000) [-selQ_sel, hokQ_of, h_6]
          have hr := (HS.some H).symm; subst hr
          exact Hid.mk ⟨(spec_TilesOf_l0_X a0 a1 a2 v15 x12 x13 x19).2, Wk.ofk [0] hk (by rfl) (by simp -implicitDefEqProofs [spec_TilesOf_l0_X, h_6]) (by simp -implicitDefEqProofs [spec_TilesOf_l0_X, h_6]), hR⟩
        · replace H := HS.cnd_f h_6 H
          try simp -implicitDefEqProofs +decide (maxSteps := 2000000) [-selQ_sel, hokQ_of, h_6]
          refine Hid.selQ (fun h_7 => ?_) (fun h_7 => ?_)
          · replace H := HS.cnd_t h_7 H
            try simp -implicitDefEqProofs +decide (maxSteps := 2000000) [-selQ_sel, hokQ_of, h_6, h_7]
            have hr := (HS.some H).symm; subst hr
            exact Hid.mk ⟨spec_TilesOf_l0_S a0 a1 a2 v15 x12 x13 (true, (IntKind.i64.wrap (x20 + 1))), Wk.ofk [0, 1] hk (by rfl) (by simp -implicitDefEqProofs [spec_TilesOf_l0_S, h_6, h_7]) (by simp -implicitDefEqProofs [spec_TilesOf_l0_S, h_6, h_7]), hR⟩
          · replace H := HS.cnd_f h_7 H
            try simp -implicitDefEqProofs +decide (maxSteps := 2000000) [-selQ_sel, hokQ_of, h_6, h_7]
            obtain ⟨v21, h_8, H⟩ := HS.bnd H
            try simp -implicitDefEqProofs +decide (maxSteps := 2000000) [-selQ_sel, hokQ_of, h_6, h_7, h_8]
            obtain ⟨v22, h_9, H⟩ := HS.bnd H
            try simp -implicitDefEqProofs +decide (maxSteps := 2000000) [-selQ_sel, hokQ_of, h_6, h_7, h_8, h_9]
            obtain ⟨v23, h_10, H⟩ := HS.bnd H
            try simp -implicitDefEqProofs +decide (maxSteps := 2000000) [-selQ_sel, hokQ_of, h_6, h_7, h_8, h_9, h_10]
            have hr := (HS.some H).symm; subst hr
            exact Hid.mk ⟨spec_TilesOf_l0_S a0 a1 a2 v15 x12 x13 ((!v23), (IntKind.i64.wrap (x20 + 1))), Wk.ofk [0, 1] hk (by rfl) (by simp -implicitDefEqProofs [spec_TilesOf_l0_S, h_6, h_7, h_8, h_9, h_10]) (by simp -implicitDefEqProofs [spec_TilesOf_l0_S, h_6, h_7, h_8, h_9, h_10]), hR⟩
      · revert H h_5; revert q; intro y24 h_5 H
        try dsimp only at H
        try simp -implicitDefEqProofs +decide (maxSteps := 2000000) [-selQ_sel, hokQ_of, h_2, h_3, h_4, spec_TilesOf_l0_X]
        refine Hid.brV (fun h_11 => ?_) (fun h_11 => ?_)
        · replace H := HS.cnd_t h_11 H
          try simp -implicitDefEqProofs +decide (maxSteps := 2000000) [-selQ_sel, hokQ_of, h_2, h_3, h_4, h_11]
          obtain ⟨h_12, H⟩ := HS.chkP H
          try simp -implicitDefEqProofs +decide (maxSteps := 2000000) [-selQ_sel, hokQ_of, h_2, h_3, h_4, h_11, h_12]
          obtain ⟨l25, h_13, H⟩ := HS.nam H
          have m_14 := congrArg (List.map (AV.int .i64)) h_13
          have q_15 := congrArg List.length h_13
          simp -implicitDefEqProofs at m_14 q_15
          try simp only [q_15] at m_14
          try simp only [q_15] at h_12
          try simp -implicitDefEqProofs +decide (maxSteps := 2000000) [-selQ_sel, hokQ_of, h_2, h_3, h_4, h_11, h_12, m_14, q_15]
          have hr := (HS.some H).symm; subst hr
          exact Hid.mk ⟨spec_TilesOf_l1_S a0 a1 a2 ((IntKind.i64.wrap (x12 + 1)), l25), Wk.ofk [0] hk (by rfl) (by simp -implicitDefEqProofs [spec_TilesOf_l1_S, h_2, h_3, h_4, h_11, h_12, m_14, q_15]) (by simp -implicitDefEqProofs [spec_TilesOf_l1_S, h_2, h_3, h_4, h_11, h_12, m_14, q_15]), hR⟩
        · replace H := HS.cnd_f h_11 H
          try simp -implicitDefEqProofs +decide (maxSteps := 2000000) [-selQ_sel, hokQ_of, h_2, h_3, h_4, h_11]
          have hr := (HS.some H).symm; subst hr
          exact Hid.mk ⟨spec_TilesOf_l1_S a0 a1 a2 ((IntKind.i64.wrap (x12 + 1)), x13), Wk.ofk [0] hk (by rfl) (by simp -implicitDefEqProofs [spec_TilesOf_l1_S, h_2, h_3, h_4, h_11]) (by simp -implicitDefEqProofs [spec_TilesOf_l1_S, h_2, h_3, h_4, h_11]), hR⟩
  · revert H h_1; revert q; intro y26 h_1 H
    try dsimp only at H
    try simp -implicitDefEqProofs +decide (maxSteps := 2000000) [-selQ_sel, hokQ_of, spec_TilesOf_l1_X]
    have hr := (HS.some H).symm; subst hr
    refine Hid.mk ⟨_, Wk.refl _, ?_⟩
    try simp -implicitDefEqProofs +decide (maxSteps := 2000000) [-selQ_sel, hokQ_of]
theorem impl_TilesOf_ok0 (hm : Try.prog.follows .mixedOrders = true) (k_impl_TileCount : Sound Try.prog 138 impl_TileCount_x) (k_impl_TileBox : Sound Try.prog 88 impl_TileBox_x) (k_impl_meetsAny : Sound Try.prog 89 impl_meetsAny_x) : Sound Try.prog 55 impl_TilesOf_x := by
  refine xOf_sound fun q r h => ?_
  obtain ⟨a0, a1, a2⟩ := q
  refine fn_ok E0 hm Try.func55 rfl (by decide +kernel) (by rfl) fun Γ hn hk => ?_
  dsimp only [impl_TilesOf_e, impl_TilesOf_v]
  replace hn : Γ.n = 27 := hn
  replace hk : Γ.k = 0 := hk
  have H : HS (impl_TilesOf a0 a1 a2) r := h
  clear h; unfold impl_TilesOf at H
  try simp -implicitDefEqProofs at H
  refine Tr.of_vc (cl := tabC [(138, impl_TileCount_x), (88, impl_TileBox_x), (89, impl_meetsAny_x)]) (E := E0) [] (tab_cons k_impl_TileCount (tab_cons k_impl_TileBox (tab_cons k_impl_meetsAny tab_nil))) hm (by rw [hn]; decide +kernel) ?_
  try simp -implicitDefEqProofs (maxSteps := 2000000) [-selQ_sel]
  obtain ⟨v1, h_1, H⟩ := HS.bnd H
  try simp -implicitDefEqProofs (maxSteps := 2000000) [-selQ_sel, h_1]
  obtain ⟨q, h_2, H⟩ := HS.bnd H
  refine Hid.mk (Tr.weak (s' := (impl_TilesOf_l0_S a0 a1 a2 v1) ([], 0)) (Wk.ofk [0] hk (by rfl) (by simp -implicitDefEqProofs [impl_TilesOf_l0_S, h_1]) (by simp -implicitDefEqProofs [impl_TilesOf_l0_S, h_1])) ?_)
  refine wp_loop_of (S := (impl_TilesOf_l0_S a0 a1 a2 v1)) (f := (impl_TilesOf_l0 a0 a1 a2 v1)) (xt := (impl_TilesOf_l0_X a0 a1 a2 v1)) ?_ ?_ h_2 ?_
  · intro q; simp [impl_TilesOf_l0_X]
  · clear H h_2 q
    rintro ⟨x4, x5⟩ o R hf hR
    have H : HS (impl_TilesOf_l0 a0 a1 a2 v1 (x4, x5)) o := hf
    clear hf; unfold impl_TilesOf_l0 at H
    try simp -implicitDefEqProofs at H
    refine Tr.of_vc (cl := tabC [(138, impl_TileCount_x), (88, impl_TileBox_x), (89, impl_meetsAny_x)]) (E := E0) [] (tab_cons k_impl_TileCount (tab_cons k_impl_TileBox (tab_cons k_impl_meetsAny tab_nil))) hm (by rw [hn]; decide +kernel) ?_
    try simp -implicitDefEqProofs (maxSteps := 2000000) [-selQ_sel, impl_TilesOf_l0_S]
    refine Hid.brV (fun h_3 => ?_) (fun h_3 => ?_)
    · replace H := HS.cnd_t h_3 H
      try simp -implicitDefEqProofs (maxSteps := 2000000) [-selQ_sel, h_3]
      have hr := (HS.some H).symm; subst hr
      exact Hid.mk ⟨(impl_TilesOf_l0_X a0 a1 a2 v1 x4).2, Wk.ofk [0] hk (by rfl) (by simp -implicitDefEqProofs [impl_TilesOf_l0_X, h_3]) (by simp -implicitDefEqProofs [impl_TilesOf_l0_X, h_3]), hR⟩
    · replace H := HS.cnd_f h_3 H
      try simp -implicitDefEqProofs (maxSteps := 2000000) [-selQ_sel, h_3]
      obtain ⟨v6, h_4, H⟩ := HS.bnd H
      try simp -implicitDefEqProofs (maxSteps := 2000000) [-selQ_sel, h_3, h_4]
      obtain ⟨v7, h_5, H⟩ := HS.bnd H
      try simp -implicitDefEqProofs (maxSteps := 2000000) [-selQ_sel, h_3, h_4, h_5]
      refine Hid.brV (fun h_6 => ?_) (fun h_6 => ?_)
      · replace H := HS.cnd_t h_6 H
        try simp -implicitDefEqProofs (maxSteps := 2000000) [-selQ_sel, h_3, h_4, h_5, h_6]
        obtain ⟨h_7, H⟩ := HS.chkP H
        try simp -implicitDefEqProofs (maxSteps := 2000000) [-selQ_sel, h_3, h_4, h_5, h_6, h_7]
        obtain ⟨l8, h_8, H⟩ := HS.nam H
        have m_9 := congrArg (List.map (AV.int .i64)) h_8
        have q_10 := congrArg List.length h_8
        simp -implicitDefEqProofs at m_9 q_10
        try simp only [q_10] at m_9
        try simp only [q_10] at h_7
        try simp -implicitDefEqProofs (maxSteps := 2000000) [-selQ_sel, h_3, h_4, h_5, h_6, h_7, m_9, q_10]
        have hr := (HS.some H).symm; subst hr
        exact Hid.mk ⟨impl_TilesOf_l0_S a0 a1 a2 v1 (l8, (IntKind.i64.wrap (x5 + 1))), Wk.ofk [0] hk (by rfl) (by simp -implicitDefEqProofs [impl_TilesOf_l0_S, h_3, h_4, h_5, h_6, h_7, m_9, q_10]) (by simp -implicitDefEqProofs [impl_TilesOf_l0_S, h_3, h_4, h_5, h_6, h_7, m_9, q_10]), hR⟩
      · replace H := HS.cnd_f h_6 H
        try simp -implicitDefEqProofs (maxSteps := 2000000) [-selQ_sel, h_3, h_4, h_5, h_6]
        have hr := (HS.some H).symm; subst hr
        exact Hid.mk ⟨impl_TilesOf_l0_S a0 a1 a2 v1 (x4, (IntKind.i64.wrap (x5 + 1))), Wk.ofk [0] hk (by rfl) (by simp -implicitDefEqProofs [impl_TilesOf_l0_S, h_3, h_4, h_5, h_6]) (by simp -implicitDefEqProofs [impl_TilesOf_l0_S, h_3, h_4, h_5, h_6]), hR⟩
  · revert H h_2; revert q; intro y9 h_2 H
    try dsimp only at H
    try simp -implicitDefEqProofs (maxSteps := 2000000) [-selQ_sel, h_1, impl_TilesOf_l0_X]
    have hr := (HS.some H).symm; subst hr
    refine Hid.mk ⟨⟨[(6, AV.osl 0 0 (List.length y9) (List.length y9))], [(0, Ob.arr 1 (List.map (AV.int .i64) y9) false)], 1⟩, Wk.ofk [0] hk (by rfl) (by simp -implicitDefEqProofs [h_1]) (by simp -implicitDefEqProofs [h_1]), ?_⟩
    try simp -implicitDefEqProofs (maxSteps := 2000000) [-selQ_sel, h_1]
theorem laws_eqIntS_ok0 (hm : Try.prog.follows .mixedOrders = true) : Sound Try.prog 56 laws_eqIntS_x := by
  refine xOf_sound fun q r h => ?_
  obtain ⟨a0, a1⟩ := q
  refine fn_ok E0 hm Try.func56 rfl (by decide +kernel) (by rfl) fun Γ hn hk => ?_
  dsimp only [laws_eqIntS_e, laws_eqIntS_v]
  replace hn : Γ.n = 26 := hn
  replace hk : Γ.k = 0 := hk
  have H : HS (laws_eqIntS a0 a1) r := h
  clear h; unfold laws_eqIntS at H
  try simp -implicitDefEqProofs at H
  refine Tr.of_vc (cl := tabC []) (E := E0) [] tab_nil hm (by rw [hn]; decide +kernel) ?_
  try simp -implicitDefEqProofs +decide (maxSteps := 2000000) [-selQ_sel, hokQ_of]
  refine Hid.brV (fun h_1 => ?_) (fun h_1 => ?_)
  · replace H := HS.cnd_t h_1 H
    try simp -implicitDefEqProofs +decide (maxSteps := 2000000) [-selQ_sel, hokQ_of, h_1]
    obtain ⟨q, h_2, H⟩ := HS.bnd H
    refine Hid.mk (Tr.weak (s' := (laws_eqIntS_l0_S a0 a1) 0) (Wk.ofk [] hk (by rfl) (by simp -implicitDefEqProofs [laws_eqIntS_l0_S, h_1]) (by simp -implicitDefEqProofs [laws_eqIntS_l0_S, h_1])) ?_)
    refine wp_loop_of (S := (laws_eqIntS_l0_S a0 a1)) (f := (laws_eqIntS_l0 a0 a1)) (xt := (laws_eqIntS_l0_X a0 a1)) ?_ ?_ h_2 ?_
    · intro q; rcases q with ⟨⟩ | ⟨⟩ <;> simp [laws_eqIntS_l0_X]
    · clear H h_2 q
      rintro x3 o R hf hR
      have H : HS (laws_eqIntS_l0 a0 a1 x3) o := hf
      clear hf; unfold laws_eqIntS_l0 at H
      try simp -implicitDefEqProofs at H
      refine Tr.of_vc (cl := tabC []) (E := E0) [] tab_nil hm (by rw [hn]; decide +kernel) ?_
      try simp -implicitDefEqProofs +decide (maxSteps := 2000000) [-selQ_sel, hokQ_of, laws_eqIntS_l0_S]
      refine Hid.brV (fun h_3 => ?_) (fun h_3 => ?_)
      · replace H := HS.cnd_t h_3 H
        try simp -implicitDefEqProofs +decide (maxSteps := 2000000) [-selQ_sel, hokQ_of, h_3]
        have hr := (HS.some H).symm; subst hr
        exact Hid.mk ⟨(laws_eqIntS_l0_X a0 a1 (.inl ())).2, Wk.ofk [] hk (by rfl) (by simp -implicitDefEqProofs [laws_eqIntS_l0_X, h_3]) (by simp -implicitDefEqProofs [laws_eqIntS_l0_X, h_3]), hR⟩
      · replace H := HS.cnd_f h_3 H
        try simp -implicitDefEqProofs +decide (maxSteps := 2000000) [-selQ_sel, hokQ_of, h_3]
        obtain ⟨v4, h_4, H⟩ := HS.bnd H
        try simp -implicitDefEqProofs +decide (maxSteps := 2000000) [-selQ_sel, hokQ_of, h_3, h_4]
        obtain ⟨v5, h_5, H⟩ := HS.bnd H
        try simp -implicitDefEqProofs +decide (maxSteps := 2000000) [-selQ_sel, hokQ_of, h_3, h_4, h_5]
        refine Hid.brV (fun h_6 => ?_) (fun h_6 => ?_)
        · replace H := HS.cnd_t h_6 H
          try simp -implicitDefEqProofs +decide (maxSteps := 2000000) [-selQ_sel, hokQ_of, h_3, h_4, h_5, h_6]
          have hr := (HS.some H).symm; subst hr
          exact Hid.mk ⟨laws_eqIntS_l0_S a0 a1 (IntKind.i64.wrap (x3 + 1)), Wk.ofk [] hk (by rfl) (by simp -implicitDefEqProofs [laws_eqIntS_l0_S, h_3, h_4, h_5, h_6]) (by simp -implicitDefEqProofs [laws_eqIntS_l0_S, h_3, h_4, h_5, h_6]), hR⟩
        · replace H := HS.cnd_f h_6 H
          try simp -implicitDefEqProofs +decide (maxSteps := 2000000) [-selQ_sel, hokQ_of, h_3, h_4, h_5, h_6]
          have hr := (HS.some H).symm; subst hr
          exact Hid.mk ⟨(laws_eqIntS_l0_X a0 a1 (.inr ())).2, Wk.ofk [] hk (by rfl) (by simp -implicitDefEqProofs [laws_eqIntS_l0_X, h_3, h_4, h_5, h_6]) (by simp -implicitDefEqProofs [laws_eqIntS_l0_X, h_3, h_4, h_5, h_6]), hR⟩
    · rcases q with ⟨⟩ | ⟨⟩
      · dsimp only at H
        try simp -implicitDefEqProofs +decide (maxSteps := 2000000) [-selQ_sel, hokQ_of, h_1, laws_eqIntS_l0_X]
        have hr := (HS.some H).symm; subst hr
        refine Hid.mk ⟨_, Wk.refl _, ?_⟩
        try simp -implicitDefEqProofs +decide (maxSteps := 2000000) [-selQ_sel, hokQ_of, h_1]
      · dsimp only at H
        try simp -implicitDefEqProofs +decide (maxSteps := 2000000) [-selQ_sel, hokQ_of, h_1, laws_eqIntS_l0_X]
        have hr := (HS.some H).symm; subst hr
        refine Hid.mk ⟨_, Wk.refl _, ?_⟩
        try simp -implicitDefEqProofs +decide (maxSteps := 2000000) [-selQ_sel, hokQ_of, h_1]
  · replace H := HS.cnd_f h_1 H
    try simp -implicitDefEqProofs +decide (maxSteps := 2000000) [-selQ_sel, hokQ_of, h_1]
    have hr := (HS.some H).symm; subst hr
    refine Hid.mk ⟨_, Wk.refl _, ?_⟩
    try simp -implicitDefEqProofs +decide (maxSteps := 2000000) [-selQ_sel, hokQ_of, h_1]
theorem impl_meetsAny_ok0 (hm : Try.prog.follows .mixedOrders = true) (k_impl_MeetBox : Sound Try.prog 157 impl_MeetBox_x) (k_impl_Empty : Sound Try.prog 158 impl_Empty_x) : Sound Try.prog 89 impl_meetsAny_x := by
  refine xOf_sound fun q r h => ?_
  obtain ⟨a0, a1⟩ := q
  refine fn_ok E0 hm Try.func89 rfl (by decide +kernel) (by rfl) fun Γ hn hk => ?_
  dsimp only [impl_meetsAny_e, impl_meetsAny_v]
  replace hn : Γ.n = 19 := hn
  replace hk : Γ.k = 0 := hk
  have H : HS (impl_meetsAny a0 a1) r := h
  clear h; unfold impl_meetsAny at H
  try simp -implicitDefEqProofs at H
  refine Tr.of_vc (cl := tabC [(157, impl_MeetBox_x), (158, impl_Empty_x)]) (E := E0) [] (tab_cons k_impl_MeetBox (tab_cons k_impl_Empty tab_nil)) hm (by rw [hn]; decide +kernel) ?_
  try simp -implicitDefEqProofs (maxSteps := 2000000) [-selQ_sel]
  obtain ⟨q, h_1, H⟩ := HS.bnd H
  refine Hid.mk (Tr.weak (s' := (impl_meetsAny_l0_S a0 a1) 0) (Wk.ofk [0] hk (by rfl) (by simp -implicitDefEqProofs [impl_meetsAny_l0_S]) (by simp -implicitDefEqProofs [impl_meetsAny_l0_S])) ?_)
  refine wp_loop_of (S := (impl_meetsAny_l0_S a0 a1)) (f := (impl_meetsAny_l0 a0 a1)) (xt := (impl_meetsAny_l0_X a0 a1)) ?_ ?_ h_1 ?_
  · intro q; rcases q with ⟨⟩ | ⟨⟩ <;> simp [impl_meetsAny_l0_X]
  · clear H h_1 q
    rintro x4 o R hf hR
    have H : HS (impl_meetsAny_l0 a0 a1 x4) o := hf
    clear hf; unfold impl_meetsAny_l0 at H
    try simp -implicitDefEqProofs at H
    refine Tr.of_vc (cl := tabC [(157, impl_MeetBox_x), (158, impl_Empty_x)]) (E := E0) [] (tab_cons k_impl_MeetBox (tab_cons k_impl_Empty tab_nil)) hm (by rw [hn]; decide +kernel) ?_
    try simp -implicitDefEqProofs (maxSteps := 2000000) [-selQ_sel, impl_meetsAny_l0_S]
    refine Hid.brV (fun h_2 => ?_) (fun h_2 => ?_)
    · replace H := HS.cnd_t h_2 H
      try simp -implicitDefEqProofs (maxSteps := 2000000) [-selQ_sel, h_2]
      have hr := (HS.some H).symm; subst hr
      exact Hid.mk ⟨(impl_meetsAny_l0_X a0 a1 (.inl ())).2, Wk.ofk [] hk (by rfl) (by simp -implicitDefEqProofs [impl_meetsAny_l0_X, h_2]) (by simp -implicitDefEqProofs [impl_meetsAny_l0_X, h_2]), hR⟩
    · replace H := HS.cnd_f h_2 H
      try simp -implicitDefEqProofs (maxSteps := 2000000) [-selQ_sel, h_2]
      obtain ⟨v5, h_3, H⟩ := HS.bnd H
      try simp -implicitDefEqProofs (maxSteps := 2000000) [-selQ_sel, h_2, h_3]
      obtain ⟨v6, h_4, H⟩ := HS.bnd H
      try simp -implicitDefEqProofs (maxSteps := 2000000) [-selQ_sel, h_2, h_3, h_4]
      obtain ⟨v7, h_5, H⟩ := HS.bnd H
      try simp -implicitDefEqProofs (maxSteps := 2000000) [-selQ_sel, h_2, h_3, h_4, h_5]
      refine Hid.brV (fun h_6 => ?_) (fun h_6 => ?_)
      · replace H := HS.cnd_t h_6 H
        try simp -implicitDefEqProofs (maxSteps := 2000000) [-selQ_sel, h_2, h_3, h_4, h_5, h_6]
        have hr := (HS.some H).symm; subst hr
        exact Hid.mk ⟨impl_meetsAny_l0_S a0 a1 (IntKind.i64.wrap (x4 + 1)), Wk.ofk [0] hk (by rfl) (by simp -implicitDefEqProofs [impl_meetsAny_l0_S, h_2, h_3, h_4, h_5, h_6]) (by simp -implicitDefEqProofs [impl_meetsAny_l0_S, h_2, h_3, h_4, h_5, h_6]), hR⟩
      · replace H := HS.cnd_f h_6 H
        try simp -implicitDefEqProofs (maxSteps := 2000000) [-selQ_sel, h_2, h_3, h_4, h_5, h_6]
        have hr := (HS.some H).symm; subst hr
        exact Hid.mk ⟨(impl_meetsAny_l0_X a0 a1 (.inr ())).2, Wk.ofk [] hk (by rfl) (by simp -implicitDefEqProofs [impl_meetsAny_l0_X, h_2, h_3, h_4, h_5, h_6]) (by simp -implicitDefEqProofs [impl_meetsAny_l0_X, h_2, h_3, h_4, h_5, h_6]), hR⟩
  · rcases q with ⟨⟩ | ⟨⟩
    · dsimp only at H
      try simp -implicitDefEqProofs (maxSteps := 2000000) [-selQ_sel, impl_meetsAny_l0_X]
      have hr := (HS.some H).symm; subst hr
      refine Hid.mk ⟨_, Wk.refl _, ?_⟩
      try simp -implicitDefEqProofs (maxSteps := 2000000) [-selQ_sel]
    · dsimp only at H
      try simp -implicitDefEqProofs (maxSteps := 2000000) [-selQ_sel, impl_meetsAny_l0_X]
      have hr := (HS.some H).symm; subst hr
      refine Hid.mk ⟨_, Wk.refl _, ?_⟩
      try simp -implicitDefEqProofs (maxSteps := 2000000) [-selQ_sel]
theorem laws_markIntS_ok0 (hm : Try.prog.follows .mixedOrders = true) : Sound Try.prog 59 laws_markIntS_x := by
  refine xOf_sound fun q r h => ?_
  obtain ⟨a0, a1⟩ := q
  refine fn_ok E0 hm Try.func59 rfl (by decide +kernel) (by rfl) fun Γ hn hk => ?_
  dsimp only [laws_markIntS_e, laws_markIntS_v]
  replace hn : Γ.n = 19 := hn
  replace hk : Γ.k = 1 := hk
  have H : HS (laws_markIntS a0 a1) r := h
  clear h; unfold laws_markIntS at H
  try simp -implicitDefEqProofs at H
  refine Tr.of_vc (cl := tabC []) (E := E0) [] tab_nil hm (by rw [hn]; decide +kernel) ?_
  try simp -implicitDefEqProofs (maxSteps := 2000000) [-selQ_sel]
  obtain ⟨q, h_1, H⟩ := HS.bnd H
  refine Hid.mk (Tr.weak (s' := laws_markIntS_l0_S (a0, 0, a1)) (Wk.ofk [0] hk (by rfl) (by simp -implicitDefEqProofs [laws_markIntS_l0_S]) (by simp -implicitDefEqProofs [laws_markIntS_l0_S])) ?_)
  refine wp_loop_of (S := laws_markIntS_l0_S) (f := laws_markIntS_l0) (xt := laws_markIntS_l0_X) ?_ ?_ h_1 ?_
  · intro q; rcases q with ⟨y8, y9⟩ <;> simp [laws_markIntS_l0_X]
  · clear H h_1 q
    rintro ⟨x3, x4, x5⟩ o R hf hR
    have H : HS (laws_markIntS_l0 (x3, x4, x5)) o := hf
    clear hf; unfold laws_markIntS_l0 at H
    try simp -implicitDefEqProofs at H
    refine Tr.of_vc (cl := tabC []) (E := E0) [] tab_nil hm (by rw [hn]; decide +kernel) ?_
    try simp -implicitDefEqProofs (maxSteps := 2000000) [-selQ_sel, laws_markIntS_l0_S]
    refine Hid.brV (fun h_2 => ?_) (fun h_2 => ?_)
    · replace H := HS.cnd_t h_2 H
      try simp -implicitDefEqProofs (maxSteps := 2000000) [-selQ_sel, h_2]
      have hr := (HS.some H).symm; subst hr
      exact Hid.mk ⟨(laws_markIntS_l0_X (x5, x3)).2, Wk.ofk [0] hk (by rfl) (by simp -implicitDefEqProofs [laws_markIntS_l0_X, h_2]) (by simp -implicitDefEqProofs [laws_markIntS_l0_X, h_2]), hR⟩
    · replace H := HS.cnd_f h_2 H
      try simp -implicitDefEqProofs (maxSteps := 2000000) [-selQ_sel, h_2]
      obtain ⟨v6, h_3, H⟩ := HS.bnd H
      have g_4 := idx_get h_3
      try simp -implicitDefEqProofs (maxSteps := 2000000) [-selQ_sel, h_2, h_3, g_4]
      obtain ⟨l7, h_5, H⟩ := HS.nam H
      have m_6 := congrArg (List.map (AV.int .i64)) h_5
      have q_7 := congrArg List.length h_5
      simp -implicitDefEqProofs at m_6 q_7
      try simp only [q_7] at m_6
      try simp only [q_7] at g_4
      try simp -implicitDefEqProofs (maxSteps := 2000000) [-selQ_sel, h_2, h_3, g_4, m_6, q_7]
      have hr := (HS.some H).symm; subst hr
      exact Hid.mk ⟨laws_markIntS_l0_S ((IntKind.i64.wrap (x3 + 1)), (IntKind.i64.wrap (x4 + 1)), l7), Wk.ofk [0] hk (by rfl) (by simp -implicitDefEqProofs [laws_markIntS_l0_S, h_2, h_3, g_4, m_6, q_7]) (by simp -implicitDefEqProofs [laws_markIntS_l0_S, h_2, h_3, g_4, m_6, q_7]), hR⟩
  · obtain ⟨y8, y9⟩ := q
    try dsimp only at H
    try simp -implicitDefEqProofs (maxSteps := 2000000) [-selQ_sel, laws_markIntS_l0_X]
    have hr := (HS.some H).symm; subst hr
    refine Hid.mk ⟨_, Wk.refl _, ?_⟩
    try simp -implicitDefEqProofs (maxSteps := 2000000) [-selQ_sel]
theorem impl_TileBox_ok0 (hm : Try.prog.follows .mixedOrders = true) (k_impl_TileCount : Sound Try.prog 138 impl_TileCount_x) (k_impl_inRange : Sound Try.prog 76 impl_inRange_x) (k_impl_tilesAlong : Sound Try.prog 156 impl_tilesAlong_x) (k_impl_MeetBox : Sound Try.prog 157 impl_MeetBox_x) : Sound Try.prog 88 impl_TileBox_x := by
  refine xOf_sound fun q r h => ?_
  obtain ⟨a0, a1, a2⟩ := q
  refine fn_ok E0 hm Try.func88 rfl (by decide +kernel) (by rfl) fun Γ hn hk => ?_
  dsimp only [impl_TileBox_e, impl_TileBox_v]
  replace hn : Γ.n = 38 := hn
  replace hk : Γ.k = 0 := hk
  have H : HS (impl_TileBox a0 a1 a2) r := h
  clear h; unfold impl_TileBox at H
  try simp -implicitDefEqProofs at H
  refine Tr.of_vc (cl := tabC [(138, impl_TileCount_x), (76, impl_inRange_x), (156, impl_tilesAlong_x), (157, impl_MeetBox_x)]) (E := E0) [] (tab_cons k_impl_TileCount (tab_cons k_impl_inRange (tab_cons k_impl_tilesAlong (tab_cons k_impl_MeetBox tab_nil)))) hm (by rw [hn]; decide +kernel) ?_
  try simp -implicitDefEqProofs +decide (maxSteps := 2000000) [-selQ_sel, hokQ_of]
  obtain ⟨v1, h_1, H⟩ := HS.bnd H
  try simp -implicitDefEqProofs +decide (maxSteps := 2000000) [-selQ_sel, hokQ_of, h_1]
  obtain ⟨v2, h_2, H⟩ := HS.bnd H
  try simp -implicitDefEqProofs +decide (maxSteps := 2000000) [-selQ_sel, hokQ_of, h_1, h_2]
  refine Hid.brV (fun h_3 => ?_) (fun h_3 => ?_)
  · replace H := HS.cnd_t h_3 H
    try simp -implicitDefEqProofs +decide (maxSteps := 2000000) [-selQ_sel, hokQ_of, h_1, h_2, h_3]
    obtain ⟨v3, h_4, H⟩ := HS.bnd H
    try simp -implicitDefEqProofs +decide (maxSteps := 2000000) [-selQ_sel, hokQ_of, h_1, h_2, h_3, h_4]
    obtain ⟨h_5, H⟩ := HS.chkP H
    try simp -implicitDefEqProofs +decide (maxSteps := 2000000) [-selQ_sel, hokQ_of, h_1, h_2, h_3, h_4, h_5]
    obtain ⟨v4, h_6, H⟩ := HS.bnd H
    try simp -implicitDefEqProofs +decide (maxSteps := 2000000) [-selQ_sel, hokQ_of, h_1, h_2, h_3, h_4, h_5, h_6]
    have hr := (HS.some H).symm; subst hr
    refine Hid.mk ⟨_, Wk.refl _, ?_⟩
    try simp -implicitDefEqProofs +decide (maxSteps := 2000000) [-selQ_sel, hokQ_of, h_1, h_2, h_3, h_4, h_5, h_6]
  · replace H := HS.cnd_f h_3 H
    try simp -implicitDefEqProofs +decide (maxSteps := 2000000) [-selQ_sel, hokQ_of, h_1, h_2, h_3]
    have hr := (HS.some H).symm; subst hr
    refine Hid.mk ⟨_, Wk.refl _, ?_⟩
    try simp -implicitDefEqProofs +decide (maxSteps := 2000000) [-selQ_sel, hokQ_of, h_1, h_2, h_3]
theorem impl_TileCount_ok0 (hm : Try.prog.follows .mixedOrders = true) (k_impl_isSide : Sound Try.prog 102 impl_isSide_x) (k_impl_tilesAlong : Sound Try.prog 156 impl_tilesAlong_x) : Sound Try.prog 138 impl_TileCount_x := by
  refine xOf_sound fun q r h => ?_
  obtain ⟨a0, a1⟩ := q
  refine fn_ok E0 hm Try.func138 rfl (by decide +kernel) (by rfl) fun Γ hn hk => ?_
  dsimp only [impl_TileCount_e, impl_TileCount_v]
  replace hn : Γ.n = 18 := hn
  replace hk : Γ.k = 0 := hk
  have H : HS (impl_TileCount a0 a1) r := h
  clear h; unfold impl_TileCount at H
  try simp -implicitDefEqProofs at H
  refine Tr.of_vc (cl := tabC [(102, impl_isSide_x), (156, impl_tilesAlong_x)]) (E := E0) [] (tab_cons k_impl_isSide (tab_cons k_impl_tilesAlong tab_nil)) hm (by rw [hn]; decide +kernel) ?_
  try simp -implicitDefEqProofs (maxSteps := 2000000) [-selQ_sel]
  obtain ⟨v1, h_1, H⟩ := HS.bnd H
  try simp -implicitDefEqProofs (maxSteps := 2000000) [-selQ_sel, h_1]
  refine Hid.selQ (fun h_2 => ?_) (fun h_2 => ?_)
  · replace H := HS.cnd_t h_2 H
    try simp -implicitDefEqProofs (maxSteps := 2000000) [-selQ_sel, h_1, h_2]
    obtain ⟨v2, h_3, H⟩ := HS.bnd H
    try simp -implicitDefEqProofs (maxSteps := 2000000) [-selQ_sel, h_1, h_2, h_3]
    refine Hid.brV (fun h_4 => ?_) (fun h_4 => ?_)
    · replace H := HS.cnd_t h_4 H
      try simp -implicitDefEqProofs (maxSteps := 2000000) [-selQ_sel, h_1, h_2, h_3, h_4]
      obtain ⟨v3, h_5, H⟩ := HS.bnd H
      try simp -implicitDefEqProofs (maxSteps := 2000000) [-selQ_sel, h_1, h_2, h_3, h_4, h_5]
      obtain ⟨v4, h_6, H⟩ := HS.bnd H
      try simp -implicitDefEqProofs (maxSteps := 2000000) [-selQ_sel, h_1, h_2, h_3, h_4, h_5, h_6]
      have hr := (HS.some H).symm; subst hr
      refine Hid.mk ⟨_, Wk.refl _, ?_⟩
      try simp -implicitDefEqProofs (maxSteps := 2000000) [-selQ_sel, h_1, h_2, h_3, h_4, h_5, h_6]
    · replace H := HS.cnd_f h_4 H
      try simp -implicitDefEqProofs (maxSteps := 2000000) [-selQ_sel, h_1, h_2, h_3, h_4]
      have hr := (HS.some H).symm; subst hr
      refine Hid.mk ⟨_, Wk.refl _, ?_⟩
      try simp -implicitDefEqProofs (maxSteps := 2000000) [-selQ_sel, h_1, h_2, h_3, h_4]
  · replace H := HS.cnd_f h_2 H
    try simp -implicitDefEqProofs (maxSteps := 2000000) [-selQ_sel, h_1, h_2]
    have hr := (HS.some H).symm; subst hr
    refine Hid.mk ⟨_, Wk.refl _, ?_⟩
    try simp -implicitDefEqProofs (maxSteps := 2000000) [-selQ_sel, h_1, h_2]
theorem spec_TileBox_ok0 (hm : Try.prog.follows .mixedOrders = true) (k_spec_TileCount : Sound Try.prog 81 spec_TileCount_x) (k_spec_l01In : Sound Try.prog 73 spec_l01In_x) (k_spec_MeetBox : Sound Try.prog 85 spec_MeetBox_x) : Sound Try.prog 83 spec_TileBox_x := by
  refine xOf_sound fun q r h => ?_
  obtain ⟨a0, a1, a2⟩ := q
  refine fn_ok E0 hm Try.func83 rfl (by decide +kernel) (by rfl) fun Γ hn hk => ?_
  dsimp only [spec_TileBox_e, spec_TileBox_v]
  replace hn : Γ.n = 40 := hn
  replace hk : Γ.k = 0 := hk
  have H : HS (spec_TileBox a0 a1 a2) r := h
  clear h; unfold spec_TileBox at H
  try simp -implicitDefEqProofs at H
  refine Tr.of_vc (cl := tabC [(81, spec_TileCount_x), (73, spec_l01In_x), (85, spec_MeetBox_x)]) (E := E0) [] (tab_cons k_spec_TileCount (tab_cons k_spec_l01In (tab_cons k_spec_MeetBox tab_nil))) hm (by rw [hn]; decide +kernel) ?_
  try simp -implicitDefEqProofs (maxSteps := 2000000) [-selQ_sel]
  obtain ⟨v1, h_1, H⟩ := HS.bnd H
  try simp -implicitDefEqProofs (maxSteps := 2000000) [-selQ_sel, h_1]
  obtain ⟨v2, h_2, H⟩ := HS.bnd H
  try simp -implicitDefEqProofs (maxSteps := 2000000) [-selQ_sel, h_1, h_2]
  refine Hid.brV (fun h_3 => ?_) (fun h_3 => ?_)
  · replace H := HS.cnd_t h_3 H
    try simp -implicitDefEqProofs (maxSteps := 2000000) [-selQ_sel, h_1, h_2, h_3]
    obtain ⟨h_4, H⟩ := HS.chkP H
    try simp -implicitDefEqProofs (maxSteps := 2000000) [-selQ_sel, h_1, h_2, h_3, h_4]
    obtain ⟨v3, h_5, H⟩ := HS.bnd H
    try simp -implicitDefEqProofs (maxSteps := 2000000) [-selQ_sel, h_1, h_2, h_3, h_4, h_5]
    have hr := (HS.some H).symm; subst hr
    refine Hid.mk ⟨_, Wk.refl _, ?_⟩
    try simp -implicitDefEqProofs (maxSteps := 2000000) [-selQ_sel, h_1, h_2, h_3, h_4, h_5]
  · replace H := HS.cnd_f h_3 H
    try simp -implicitDefEqProofs (maxSteps := 2000000) [-selQ_sel, h_1, h_2, h_3]
    have hr := (HS.some H).symm; subst hr
    refine Hid.mk ⟨_, Wk.refl _, ?_⟩
    try simp -implicitDefEqProofs (maxSteps := 2000000) [-selQ_sel, h_1, h_2, h_3]
theorem impl_Empty_ok0 (hm : Try.prog.follows .mixedOrders = true) : Sound Try.prog 158 impl_Empty_x := by
  refine xOf_sound fun q r h => ?_
  revert h; revert r; revert q; intro a0 r h
  refine fn_ok E0 hm Try.func158 rfl (by decide +kernel) (by rfl) fun Γ hn hk => ?_
  dsimp only [impl_Empty_e, impl_Empty_v]
  replace hn : Γ.n = 15 := hn
  replace hk : Γ.k = 0 := hk
  have H : HS (impl_Empty a0) r := h
  clear h; unfold impl_Empty at H
  try simp -implicitDefEqProofs at H
  refine Tr.of_vc (cl := tabC []) (E := E0) [] tab_nil hm (by rw [hn]; decide +kernel) ?_
  try simp -implicitDefEqProofs (maxSteps := 2000000) [-selQ_sel]
  refine Hid.selQ (fun h_1 => ?_) (fun h_1 => ?_)
  · replace H := HS.cnd_t h_1 H
    try simp -implicitDefEqProofs (maxSteps := 2000000) [-selQ_sel, h_1]
    have hr := (HS.some H).symm; subst hr
    refine Hid.mk ⟨_, Wk.refl _, ?_⟩
    try simp -implicitDefEqProofs (maxSteps := 2000000) [-selQ_sel, h_1]
  · replace H := HS.cnd_f h_1 H
    try simp -implicitDefEqProofs (maxSteps := 2000000) [-selQ_sel, h_1]
    have hr := (HS.some H).symm; subst hr
    refine Hid.mk ⟨_, Wk.refl _, ?_⟩
    try simp -implicitDefEqProofs (maxSteps := 2000000) [-selQ_sel, h_1]
theorem spec_l05Least_ok0 (hm : Try.prog.follows .mixedOrders = true) : Sound Try.prog 155 spec_l05Least_x := by
  refine xOf_sound fun q r h => ?_
  obtain ⟨a0, a1⟩ := q
  refine fn_ok E0 hm Try.func155 rfl (by decide +kernel) (by rfl) fun Γ hn hk => ?_
  dsimp only [spec_l05Least_e, spec_l05Least_v]
  replace hn : Γ.n = 10 := hn
  replace hk : Γ.k = 0 := hk
  have H : HS (spec_l05Least a0 a1) r := h
  clear h; unfold spec_l05Least at H
  try simp -implicitDefEqProofs at H
  refine Tr.of_vc (cl := tabC []) (E := E0) [] tab_nil hm (by rw [hn]; decide +kernel) ?_
  try simp -implicitDefEqProofs (maxSteps := 2000000) [-selQ_sel]
  refine Hid.brV (fun h_1 => ?_) (fun h_1 => ?_)
  · replace H := HS.cnd_t h_1 H
    try simp -implicitDefEqProofs (maxSteps := 2000000) [-selQ_sel, h_1]
    have hr := (HS.some H).symm; subst hr
    refine Hid.mk ⟨_, Wk.refl _, ?_⟩
    try simp -implicitDefEqProofs (maxSteps := 2000000) [-selQ_sel, h_1]
  · replace H := HS.cnd_f h_1 H
    try simp -implicitDefEqProofs (maxSteps := 2000000) [-selQ_sel, h_1]
    have hr := (HS.some H).symm; subst hr
    refine Hid.mk ⟨_, Wk.refl _, ?_⟩
    try simp -implicitDefEqProofs (maxSteps := 2000000) [-selQ_sel, h_1]
theorem impl_inRange_ok0 (hm : Try.prog.follows .mixedOrders = true) : Sound Try.prog 76 impl_inRange_x := by
  refine xOf_sound fun q r h => ?_
  obtain ⟨a0, a1, a2⟩ := q
  refine fn_ok E0 hm Try.func76 rfl (by decide +kernel) (by rfl) fun Γ hn hk => ?_
  dsimp only [impl_inRange_e, impl_inRange_v]
  replace hn : Γ.n = 15 := hn
  replace hk : Γ.k = 0 := hk
  have H : HS (impl_inRange a0 a1 a2) r := h
  clear h; unfold impl_inRange at H
  try simp -implicitDefEqProofs at H
  refine Tr.of_vc (cl := tabC []) (E := E0) [] tab_nil hm (by rw [hn]; decide +kernel) ?_
  try simp -implicitDefEqProofs (maxSteps := 2000000) [-selQ_sel]
  refine Hid.selQ (fun h_1 => ?_) (fun h_1 => ?_)
  · replace H := HS.cnd_t h_1 H
    try simp -implicitDefEqProofs (maxSteps := 2000000) [-selQ_sel, h_1]
    have hr := (HS.some H).symm; subst hr
    refine Hid.mk ⟨_, Wk.refl _, ?_⟩
    try simp -implicitDefEqProofs (maxSteps := 2000000) [-selQ_sel, h_1]
  · replace H := HS.cnd_f h_1 H
    try simp -implicitDefEqProofs (maxSteps := 2000000) [-selQ_sel, h_1]
    have hr := (HS.some H).symm; subst hr
    refine Hid.mk ⟨_, Wk.refl _, ?_⟩
    try simp -implicitDefEqProofs (maxSteps := 2000000) [-selQ_sel, h_1]
theorem spec_l01In_ok0 (hm : Try.prog.follows .mixedOrders = true) : Sound Try.prog 73 spec_l01In_x := by
  refine xOf_sound fun q r h => ?_
  obtain ⟨a0, a1, a2⟩ := q
  refine fn_ok E0 hm Try.func73 rfl (by decide +kernel) (by rfl) fun Γ hn hk => ?_
  dsimp only [spec_l01In_e, spec_l01In_v]
  replace hn : Γ.n = 15 := hn
  replace hk : Γ.k = 0 := hk
  have H : HS (spec_l01In a0 a1 a2) r := h
  clear h; unfold spec_l01In at H
  try simp -implicitDefEqProofs at H
  refine Tr.of_vc (cl := tabC []) (E := E0) [] tab_nil hm (by rw [hn]; decide +kernel) ?_
  try simp -implicitDefEqProofs (maxSteps := 2000000) [-selQ_sel]
  refine Hid.selQ (fun h_1 => ?_) (fun h_1 => ?_)
  · replace H := HS.cnd_t h_1 H
    try simp -implicitDefEqProofs (maxSteps := 2000000) [-selQ_sel, h_1]
    have hr := (HS.some H).symm; subst hr
    refine Hid.mk ⟨_, Wk.refl _, ?_⟩
    try simp -implicitDefEqProofs (maxSteps := 2000000) [-selQ_sel, h_1]
  · replace H := HS.cnd_f h_1 H
    try simp -implicitDefEqProofs (maxSteps := 2000000) [-selQ_sel, h_1]
    have hr := (HS.some H).symm; subst hr
    refine Hid.mk ⟨_, Wk.refl _, ?_⟩
    try simp -implicitDefEqProofs (maxSteps := 2000000) [-selQ_sel, h_1]
theorem impl_isSide_ok0 (hm : Try.prog.follows .mixedOrders = true) (k_impl_inRange : Sound Try.prog 76 impl_inRange_x) : Sound Try.prog 102 impl_isSide_x := by
  refine xOf_sound fun q r h => ?_
  revert h; revert r; revert q; intro a0 r h
  refine fn_ok E0 hm Try.func102 rfl (by decide +kernel) (by rfl) fun Γ hn hk => ?_
  dsimp only [impl_isSide_e, impl_isSide_v]
  replace hn : Γ.n = 5 := hn
  replace hk : Γ.k = 0 := hk
  have H : HS (impl_isSide a0) r := h
  clear h; unfold impl_isSide at H
  try simp -implicitDefEqProofs at H
  refine Tr.of_vc (cl := tabC [(76, impl_inRange_x)]) (E := E0) [] (tab_cons k_impl_inRange tab_nil) hm (by rw [hn]; decide +kernel) ?_
  try simp -implicitDefEqProofs (maxSteps := 2000000) [-selQ_sel]
  obtain ⟨v1, h_1, H⟩ := HS.bnd H
  try simp -implicitDefEqProofs (maxSteps := 2000000) [-selQ_sel, h_1]
  have hr := (HS.some H).symm; subst hr
  refine Hid.mk ⟨_, Wk.refl _, ?_⟩
  try simp -implicitDefEqProofs (maxSteps := 2000000) [-selQ_sel, h_1]
end Go.Proofs.Ytoafihhhdnmliaa.Am
