import Derived.Test.YtoafihhhdnmliaaAmP1Mo
set_option linter.unusedVariables false
set_option linter.unusedSimpArgs false
set_option linter.unusedSectionVars false
namespace Go.Proofs.Ytoafihhhdnmliaa.Am
open Go Go.Proofs
set_option maxRecDepth 100000
set_option linter.unusedSimpArgs false
set_option linter.unusedVariables false
set_option maxHeartbeats 4000000
theorem impl_Surface_paint_PaintMask_1_ok0 (hm : Try.prog.follows .mixedOrders = true) (k_impl_Surface_box : Sound Try.prog 105 impl_Surface_box_x) (k_impl_MeetBox : Sound Try.prog 157 impl_MeetBox_x) (k_impl_PaintMask_1 : Sound Try.prog 117 impl_PaintMask_1_x) : Sound Try.prog 104 impl_Surface_paint_PaintMask_1_x := by
  refine xOf_sound fun q r h => ?_
  obtain ⟨a0, a1, a2, a3, a4, a5, a6, a7⟩ := q
  refine fn_ok E0 hm Try.func104 rfl (by decide +kernel) (by rfl) fun Γ hn hk => ?_
  dsimp only [impl_Surface_paint_PaintMask_1_e, impl_Surface_paint_PaintMask_1_v]
  replace hn : Γ.n = 51 := hn
  replace hk : Γ.k = 6 := hk
  have H : HS (impl_Surface_paint_PaintMask_1 a0 a1 a2 a3 a4 a5 a6 a7) r := h
  clear h; unfold impl_Surface_paint_PaintMask_1 at H
  try simp -implicitDefEqProofs at H
  refine Tr.of_vc (cl := tabC [(105, impl_Surface_box_x), (157, impl_MeetBox_x), (117, impl_PaintMask_1_x)]) (E := E0) [] (tab_cons k_impl_Surface_box (tab_cons k_impl_MeetBox (tab_cons k_impl_PaintMask_1 tab_nil))) hm (by rw [hn]; decide +kernel) ?_
  try simp -implicitDefEqProofs +decide (maxSteps := 2000000) [-selQ_sel, hokQ_of]
  obtain ⟨v1, h_1, H⟩ := HS.bnd H
  have k_2 := impl_Surface_box_k ((TSurface.mk a1 a2 a7).w) ((TSurface.mk a1 a2 a7).h) ((TSurface.mk a1 a2 a7).pix)
  simp -implicitDefEqProofs [-impl_Surface_box_k] at k_2
  try simp -implicitDefEqProofs +decide (maxSteps := 2000000) [-selQ_sel, hokQ_of, h_1, k_2]
  obtain ⟨v2, h_3, H⟩ := HS.bnd H
  try simp -implicitDefEqProofs +decide (maxSteps := 2000000) [-selQ_sel, hokQ_of, h_1, k_2, h_3]
  obtain ⟨q, h_4, H⟩ := HS.bnd H
  refine Hid.mk (Tr.weak (s' := (impl_Surface_paint_PaintMask_1_l1_S a1 a2 a3 a4 a5 a6 v2) (v2.y0, a7)) (Wk.ofk [0, 1, 2, 3, 4, 5, 6] hk (by rfl) (by simp -implicitDefEqProofs [impl_Surface_paint_PaintMask_1_l1_S, h_1, k_2, h_3]) (by simp -implicitDefEqProofs [impl_Surface_paint_PaintMask_1_l1_S, h_1, k_2, h_3])) ?_)
  refine wp_loop_of (S := (impl_Surface_paint_PaintMask_1_l1_S a1 a2 a3 a4 a5 a6 v2)) (f := (impl_Surface_paint_PaintMask_1_l1 a1 a2 a3 a4 a5 a6 v2)) (xt := (impl_Surface_paint_PaintMask_1_l1_X a1 a2 a3 a4 a5 a6 v2)) ?_ ?_ h_4 ?_
  · intro q; simp [impl_Surface_paint_PaintMask_1_l1_X]
  · clear H h_4 q
    rintro ⟨x12, x13⟩ o R hf hR
    have H : HS (impl_Surface_paint_PaintMask_1_l1 a1 a2 a3 a4 a5 a6 v2 (x12, x13)) o := hf
    clear hf; unfold impl_Surface_paint_PaintMask_1_l1 at H
    try simp -implicitDefEqProofs at H
    refine Tr.of_vc (cl := tabC [(105, impl_Surface_box_x), (157, impl_MeetBox_x), (117, impl_PaintMask_1_x)]) (E := E0) [] (tab_cons k_impl_Surface_box (tab_cons k_impl_MeetBox (tab_cons k_impl_PaintMask_1 tab_nil))) hm (by rw [hn]; decide +kernel) ?_
    try simp -implicitDefEqProofs +decide (maxSteps := 2000000) [-selQ_sel, hokQ_of, impl_Surface_paint_PaintMask_1_l1_S]
    refine Hid.brV (fun h_5 => ?_) (fun h_5 => ?_)
    · replace H := HS.cnd_t h_5 H
      try simp -implicitDefEqProofs +decide (maxSteps := 2000000) [-selQ_sel, hokQ_of, h_5]
      have hr := (HS.some H).symm; subst hr
      exact Hid.mk ⟨(impl_Surface_paint_PaintMask_1_l1_X a1 a2 a3 a4 a5 a6 v2 x13).2, Wk.ofk [0, 1, 2, 3, 4, 5] hk (by rfl) (by simp -implicitDefEqProofs [impl_Surface_paint_PaintMask_1_l1_X, h_5]) (by simp -implicitDefEqProofs [impl_Surface_paint_PaintMask_1_l1_X, h_5]), hR⟩
    · replace H := HS.cnd_f h_5 H
      try simp -implicitDefEqProofs +decide (maxSteps := 2000000) [-selQ_sel, hokQ_of, h_5]
      obtain ⟨q, h_6, H⟩ := HS.bnd H
      refine Hid.mk (Tr.weak (s' := (impl_Surface_paint_PaintMask_1_l0_S a1 a2 a3 a4 a5 a6 v2 x12) (v2.x0, x13)) (Wk.ofk [0, 1, 2, 3, 4, 5, 6] hk (by rfl) (by simp -implicitDefEqProofs [impl_Surface_paint_PaintMask_1_l0_S, h_5]) (by simp -implicitDefEqProofs [impl_Surface_paint_PaintMask_1_l0_S, h_5])) ?_)
      refine wp_loop_of (S := (impl_Surface_paint_PaintMask_1_l0_S a1 a2 a3 a4 a5 a6 v2 x12)) (f := (impl_Surface_paint_PaintMask_1_l0 a1 a2 a3 a4 a5 a6 v2 x12)) (xt := (impl_Surface_paint_PaintMask_1_l0_X a1 a2 a3 a4 a5 a6 v2 x12)) ?_ ?_ h_6 ?_
      · intro q; simp [impl_Surface_paint_PaintMask_1_l0_X]
      · clear H h_6 q
        rintro ⟨x17, x18⟩ o R hf hR
        have H : HS (impl_Surface_paint_PaintMask_1_l0 a1 a2 a3 a4 a5 a6 v2 x12 (x17, x18)) o := hf
        clear hf; unfold impl_Surface_paint_PaintMask_1_l0 at H
        try simp -implicitDefEqProofs at H
        refine Tr.of_vc (cl := tabC [(105, impl_Surface_box_x), (157, impl_MeetBox_x), (117, impl_PaintMask_1_x)]) (E := E0) [] (tab_cons k_impl_Surface_box (tab_cons k_impl_MeetBox (tab_cons k_impl_PaintMask_1 tab_nil))) hm (by rw [hn]; decide +kernel) ?_
        try simp -implicitDefEqProofs +decide (maxSteps := 2000000) [-selQ_sel, hokQ_of, impl_Surface_paint_PaintMask_1_l0_S]
        refine Hid.brV (fun h_7 => ?_) (fun h_7 => ?_)
        · replace H := HS.cnd_t h_7 H
          try simp -implicitDefEqProofs +decide (maxSteps := 2000000) [-selQ_sel, hokQ_of, h_7]
          have hr := (HS.some H).symm; subst hr
          exact Hid.mk ⟨(impl_Surface_paint_PaintMask_1_l0_X a1 a2 a3 a4 a5 a6 v2 x12 x18).2, Wk.ofk [0, 1, 2, 3, 4, 5, 6] hk (by rfl) (by simp -implicitDefEqProofs [impl_Surface_paint_PaintMask_1_l0_X, h_7]) (by simp -implicitDefEqProofs [impl_Surface_paint_PaintMask_1_l0_X, h_7]), hR⟩
        · replace H := HS.cnd_f h_7 H
          try simp -implicitDefEqProofs +decide (maxSteps := 2000000) [-selQ_sel, hokQ_of, h_7]
          obtain ⟨v19, h_8, H⟩ := HS.bnd H
          have g_9 := idx_get h_8
          try simp -implicitDefEqProofs +decide (maxSteps := 2000000) [-selQ_sel, hokQ_of, h_7, h_8, g_9]
          obtain ⟨v20, h_10, H⟩ := HS.bnd H
          try simp -implicitDefEqProofs +decide (maxSteps := 2000000) [-selQ_sel, hokQ_of, h_7, h_8, g_9, h_10]
          obtain ⟨l21, h_11, H⟩ := HS.nam H
          have m_12 := congrArg (List.map eColor) h_11
          have q_13 := congrArg List.length h_11
          simp -implicitDefEqProofs at m_12 q_13
          try simp only [q_13] at m_12
          try simp only [q_13] at h_10
          try simp -implicitDefEqProofs +decide (maxSteps := 2000000) [-selQ_sel, hokQ_of, h_7, h_8, g_9, h_10, m_12, q_13]
          have hr := (HS.some H).symm; subst hr
          exact Hid.mk ⟨impl_Surface_paint_PaintMask_1_l0_S a1 a2 a3 a4 a5 a6 v2 x12 ((IntKind.i64.wrap (x17 + 1)), l21), Wk.ofk [0, 1, 2, 3, 4, 5, 6] hk (by rfl) (by simp -implicitDefEqProofs [impl_Surface_paint_PaintMask_1_l0_S, h_7, h_8, g_9, h_10, m_12, q_13]) (by simp -implicitDefEqProofs [impl_Surface_paint_PaintMask_1_l0_S, h_7, h_8, g_9, h_10, m_12, q_13]), hR⟩
      · revert H h_6; revert q; intro y22 h_6 H
        try dsimp only at H
        try simp -implicitDefEqProofs +decide (maxSteps := 2000000) [-selQ_sel, hokQ_of, h_5, impl_Surface_paint_PaintMask_1_l0_X]
        have hr := (HS.some H).symm; subst hr
        exact Hid.mk ⟨impl_Surface_paint_PaintMask_1_l1_S a1 a2 a3 a4 a5 a6 v2 ((IntKind.i64.wrap (x12 + 1)), y22), Wk.ofk [0, 1, 2, 3, 4, 5, 6] hk (by rfl) (by simp -implicitDefEqProofs [impl_Surface_paint_PaintMask_1_l1_S, h_5]) (by simp -implicitDefEqProofs [impl_Surface_paint_PaintMask_1_l1_S, h_5]), hR⟩
  · revert H h_4; revert q; intro y23 h_4 H
    try dsimp only at H
    try simp -implicitDefEqProofs +decide (maxSteps := 2000000) [-selQ_sel, hokQ_of, h_1, k_2, h_3, impl_Surface_paint_PaintMask_1_l1_X]
    have hr := (HS.some H).symm; subst hr
    refine Hid.mk ⟨_, Wk.refl _, ?_⟩
    try simp -implicitDefEqProofs +decide (maxSteps := 2000000) [-selQ_sel, hokQ_of, h_1, k_2, h_3]
theorem spec_l13Part_ok0 (hm : Try.prog.follows .mixedOrders = true) (k_spec_Times255 : Sound Try.prog 123 spec_Times255_x) (k_spec_RoundDiv : Sound Try.prog 124 spec_RoundDiv_x) : Sound Try.prog 122 spec_l13Part_x := by
  refine xOf_sound fun q r h => ?_
  obtain ⟨a0, a1, a2, a3, a4⟩ := q
  refine fn_ok E0 hm Try.func122 rfl (by decide +kernel) (by rfl) fun Γ hn hk => ?_
  dsimp only [spec_l13Part_e, spec_l13Part_v]
  replace hn : Γ.n = 62 := hn
  replace hk : Γ.k = 0 := hk
  have H : HS (spec_l13Part a0 a1 a2 a3 a4) r := h
  clear h; unfold spec_l13Part at H
  try simp -implicitDefEqProofs at H
  refine Tr.of_vc (cl := tabC [(123, spec_Times255_x), (124, spec_RoundDiv_x)]) (E := E0) [] (tab_cons k_spec_Times255 (tab_cons k_spec_RoundDiv tab_nil)) hm (by rw [hn]; decide +kernel) ?_
  try simp -implicitDefEqProofs (maxSteps := 2000000) [-selQ_sel]
  refine Hid.brV (fun h_1 => ?_) (fun h_1 => ?_)
  · replace H := HS.cnd_t h_1 H
    try simp -implicitDefEqProofs (maxSteps := 2000000) [-selQ_sel, h_1]
    obtain ⟨v1, h_2, H⟩ := HS.bnd H
    try simp -implicitDefEqProofs (maxSteps := 2000000) [-selQ_sel, h_1, h_2]
    refine Hid.brV (fun h_3 => ?_) (fun h_3 => ?_)
    · replace H := HS.cnd_t h_3 H
      try simp -implicitDefEqProofs (maxSteps := 2000000) [-selQ_sel, h_1, h_2, h_3]
      have hr := (HS.some H).symm; subst hr
      refine Hid.mk ⟨_, Wk.refl _, ?_⟩
      try simp -implicitDefEqProofs (maxSteps := 2000000) [-selQ_sel, h_1, h_2, h_3]
    · replace H := HS.cnd_f h_3 H
      try simp -implicitDefEqProofs (maxSteps := 2000000) [-selQ_sel, h_1, h_2, h_3]
      have hr := (HS.some H).symm; subst hr
      refine Hid.mk ⟨_, Wk.refl _, ?_⟩
      try simp -implicitDefEqProofs (maxSteps := 2000000) [-selQ_sel, h_1, h_2, h_3]
  · replace H := HS.cnd_f h_1 H
    try simp -implicitDefEqProofs (maxSteps := 2000000) [-selQ_sel, h_1]
    refine Hid.brV (fun h_4 => ?_) (fun h_4 => ?_)
    · replace H := HS.cnd_t h_4 H
      try simp -implicitDefEqProofs (maxSteps := 2000000) [-selQ_sel, h_1, h_4]
      obtain ⟨v2, h_5, H⟩ := HS.bnd H
      try simp -implicitDefEqProofs (maxSteps := 2000000) [-selQ_sel, h_1, h_4, h_5]
      refine Hid.brV (fun h_6 => ?_) (fun h_6 => ?_)
      · replace H := HS.cnd_t h_6 H
        try simp -implicitDefEqProofs (maxSteps := 2000000) [-selQ_sel, h_1, h_4, h_5, h_6]
        have hr := (HS.some H).symm; subst hr
        refine Hid.mk ⟨_, Wk.refl _, ?_⟩
        try simp -implicitDefEqProofs (maxSteps := 2000000) [-selQ_sel, h_1, h_4, h_5, h_6]
      · replace H := HS.cnd_f h_6 H
        try simp -implicitDefEqProofs (maxSteps := 2000000) [-selQ_sel, h_1, h_4, h_5, h_6]
        have hr := (HS.some H).symm; subst hr
        refine Hid.mk ⟨_, Wk.refl _, ?_⟩
        try simp -implicitDefEqProofs (maxSteps := 2000000) [-selQ_sel, h_1, h_4, h_5, h_6]
    · replace H := HS.cnd_f h_4 H
      try simp -implicitDefEqProofs (maxSteps := 2000000) [-selQ_sel, h_1, h_4]
      refine Hid.brV (fun h_7 => ?_) (fun h_7 => ?_)
      · replace H := HS.cnd_t h_7 H
        try simp -implicitDefEqProofs (maxSteps := 2000000) [-selQ_sel, h_1, h_4, h_7]
        obtain ⟨v3, h_8, H⟩ := HS.bnd H
        try simp -implicitDefEqProofs (maxSteps := 2000000) [-selQ_sel, h_1, h_4, h_7, h_8]
        refine Hid.brV (fun h_9 => ?_) (fun h_9 => ?_)
        · replace H := HS.cnd_t h_9 H
          try simp -implicitDefEqProofs (maxSteps := 2000000) [-selQ_sel, h_1, h_4, h_7, h_8, h_9]
          have hr := (HS.some H).symm; subst hr
          refine Hid.mk ⟨_, Wk.refl _, ?_⟩
          try simp -implicitDefEqProofs (maxSteps := 2000000) [-selQ_sel, h_1, h_4, h_7, h_8, h_9]
        · replace H := HS.cnd_f h_9 H
          try simp -implicitDefEqProofs (maxSteps := 2000000) [-selQ_sel, h_1, h_4, h_7, h_8, h_9]
          have hr := (HS.some H).symm; subst hr
          refine Hid.mk ⟨_, Wk.refl _, ?_⟩
          try simp -implicitDefEqProofs (maxSteps := 2000000) [-selQ_sel, h_1, h_4, h_7, h_8, h_9]
      · replace H := HS.cnd_f h_7 H
        try simp -implicitDefEqProofs (maxSteps := 2000000) [-selQ_sel, h_1, h_4, h_7]
        refine Hid.brV (fun h_10 => ?_) (fun h_10 => ?_)
        · replace H := HS.cnd_t h_10 H
          try simp -implicitDefEqProofs (maxSteps := 2000000) [-selQ_sel, h_1, h_4, h_7, h_10]
          refine Hid.brV (fun h_11 => ?_) (fun h_11 => ?_)
          · replace H := HS.cnd_t h_11 H
            try simp -implicitDefEqProofs (maxSteps := 2000000) [-selQ_sel, h_1, h_4, h_7, h_10, h_11]
            have hr := (HS.some H).symm; subst hr
            refine Hid.mk ⟨_, Wk.refl _, ?_⟩
            try simp -implicitDefEqProofs (maxSteps := 2000000) [-selQ_sel, h_1, h_4, h_7, h_10, h_11]
          · replace H := HS.cnd_f h_11 H
            try simp -implicitDefEqProofs (maxSteps := 2000000) [-selQ_sel, h_1, h_4, h_7, h_10, h_11]
            have hr := (HS.some H).symm; subst hr
            refine Hid.mk ⟨_, Wk.refl _, ?_⟩
            try simp -implicitDefEqProofs (maxSteps := 2000000) [-selQ_sel, h_1, h_4, h_7, h_10, h_11]
        · replace H := HS.cnd_f h_10 H
          try simp -implicitDefEqProofs (maxSteps := 2000000) [-selQ_sel, h_1, h_4, h_7, h_10]
          refine Hid.brV (fun h_12 => ?_) (fun h_12 => ?_)
          · replace H := HS.cnd_t h_12 H
            try simp -implicitDefEqProofs (maxSteps := 2000000) [-selQ_sel, h_1, h_4, h_7, h_10, h_12]
            obtain ⟨v4, h_13, H⟩ := HS.bnd H
            try simp -implicitDefEqProofs (maxSteps := 2000000) [-selQ_sel, h_1, h_4, h_7, h_10, h_12, h_13]
            refine Hid.brV (fun h_14 => ?_) (fun h_14 => ?_)
            · replace H := HS.cnd_t h_14 H
              try simp -implicitDefEqProofs (maxSteps := 2000000) [-selQ_sel, h_1, h_4, h_7, h_10, h_12, h_13, h_14]
              have hr := (HS.some H).symm; subst hr
              refine Hid.mk ⟨_, Wk.refl _, ?_⟩
              try simp -implicitDefEqProofs (maxSteps := 2000000) [-selQ_sel, h_1, h_4, h_7, h_10, h_12, h_13, h_14]
            · replace H := HS.cnd_f h_14 H
              try simp -implicitDefEqProofs (maxSteps := 2000000) [-selQ_sel, h_1, h_4, h_7, h_10, h_12, h_13, h_14]
              have hr := (HS.some H).symm; subst hr
              refine Hid.mk ⟨_, Wk.refl _, ?_⟩
              try simp -implicitDefEqProofs (maxSteps := 2000000) [-selQ_sel, h_1, h_4, h_7, h_10, h_12, h_13, h_14]
          · replace H := HS.cnd_f h_12 H
            try simp -implicitDefEqProofs (maxSteps := 2000000) [-selQ_sel, h_1, h_4, h_7, h_10, h_12]
            refine Hid.brV (fun h_15 => ?_) (fun h_15 => ?_)
            · replace H := HS.cnd_t h_15 H
              try simp -implicitDefEqProofs (maxSteps := 2000000) [-selQ_sel, h_1, h_4, h_7, h_10, h_12, h_15]
              have hr := (HS.some H).symm; subst hr
              refine Hid.mk ⟨_, Wk.refl _, ?_⟩
              try simp -implicitDefEqProofs (maxSteps := 2000000) [-selQ_sel, h_1, h_4, h_7, h_10, h_12, h_15]
            · replace H := HS.cnd_f h_15 H
              try simp -implicitDefEqProofs (maxSteps := 2000000) [-selQ_sel, h_1, h_4, h_7, h_10, h_12, h_15]
              have hr := (HS.some H).symm; subst hr
              refine Hid.mk ⟨_, Wk.refl _, ?_⟩
              try simp -implicitDefEqProofs (maxSteps := 2000000) [-selQ_sel, h_1, h_4, h_7, h_10, h_12, h_15]
theorem spec_PaintOk_ok0 (hm : Try.prog.follows .mixedOrders = true) (k_spec_ColorOk : Sound Try.prog 193 spec_ColorOk_x) (k_spec_PointOk : Sound Try.prog 196 spec_PointOk_x) : Sound Try.prog 125 spec_PaintOk_x := by
  refine xOf_sound fun q r h => ?_
  revert h; revert r; revert q; intro a0 r h
  refine fn_ok E0 hm Try.func125 rfl (by decide +kernel) (by rfl) fun Γ hn hk => ?_
  dsimp only [spec_PaintOk_e, spec_PaintOk_v]
  replace hn : Γ.n = 55 := hn
  replace hk : Γ.k = 0 := hk
  have H : HS (spec_PaintOk a0) r := h
  clear h; unfold spec_PaintOk at H
  try simp -implicitDefEqProofs at H
  refine Tr.of_vc (cl := tabC [(193, spec_ColorOk_x), (196, spec_PointOk_x)]) (E := E0) [] (tab_cons k_spec_ColorOk (tab_cons k_spec_PointOk tab_nil)) hm (by rw [hn]; decide +kernel) ?_
  try simp -implicitDefEqProofs (maxSteps := 2000000) [-selQ_sel]
  obtain ⟨v1, h_1, H⟩ := HS.bnd H
  try simp -implicitDefEqProofs (maxSteps := 2000000) [-selQ_sel, h_1]
  refine Hid.brV (fun h_2 => ?_) (fun h_2 => ?_)
  · replace H := HS.cnd_t h_2 H
    try simp -implicitDefEqProofs (maxSteps := 2000000) [-selQ_sel, h_1, h_2]
    refine Hid.brV (fun h_3 => ?_) (fun h_3 => ?_)
    · replace H := HS.cnd_t h_3 H
      try simp -implicitDefEqProofs (maxSteps := 2000000) [-selQ_sel, h_1, h_2, h_3]
      refine Hid.selQ (fun h_4 => ?_) (fun h_4 => ?_)
      · replace H := HS.cnd_t h_4 H
        try simp -implicitDefEqProofs (maxSteps := 2000000) [-selQ_sel, h_1, h_2, h_3, h_4]
        refine Hid.selQ (fun h_5 => ?_) (fun h_5 => ?_)
        · replace H := HS.cnd_t h_5 H
          try simp -implicitDefEqProofs (maxSteps := 2000000) [-selQ_sel, h_1, h_2, h_3, h_4, h_5]
          have hr := (HS.some H).symm; subst hr
          refine Hid.mk ⟨_, Wk.refl _, ?_⟩
          try simp -implicitDefEqProofs (maxSteps := 2000000) [-selQ_sel, h_1, h_2, h_3, h_4, h_5]
        · replace H := HS.cnd_f h_5 H
          try simp -implicitDefEqProofs (maxSteps := 2000000) [-selQ_sel, h_1, h_2, h_3, h_4, h_5]
          have hr := (HS.some H).symm; subst hr
          refine Hid.mk ⟨_, Wk.refl _, ?_⟩
          try simp -implicitDefEqProofs (maxSteps := 2000000) [-selQ_sel, h_1, h_2, h_3, h_4, h_5]
      · replace H := HS.cnd_f h_4 H
        try simp -implicitDefEqProofs (maxSteps := 2000000) [-selQ_sel, h_1, h_2, h_3, h_4]
        have hr := (HS.some H).symm; subst hr
        refine Hid.mk ⟨_, Wk.refl _, ?_⟩
        try simp -implicitDefEqProofs (maxSteps := 2000000) [-selQ_sel, h_1, h_2, h_3, h_4]
    · replace H := HS.cnd_f h_3 H
      try simp -implicitDefEqProofs (maxSteps := 2000000) [-selQ_sel, h_1, h_2, h_3]
      refine Hid.selQ (fun h_6 => ?_) (fun h_6 => ?_)
      · replace H := HS.cnd_t h_6 H
        try simp -implicitDefEqProofs (maxSteps := 2000000) [-selQ_sel, h_1, h_2, h_3, h_6]
        obtain ⟨v2, h_7, H⟩ := HS.bnd H
        try simp -implicitDefEqProofs (maxSteps := 2000000) [-selQ_sel, h_1, h_2, h_3, h_6, h_7]
        refine Hid.selQ (fun h_8 => ?_) (fun h_8 => ?_)
        · replace H := HS.cnd_t h_8 H
          try simp -implicitDefEqProofs (maxSteps := 2000000) [-selQ_sel, h_1, h_2, h_3, h_6, h_7, h_8]
          obtain ⟨v3, h_9, H⟩ := HS.bnd H
          try simp -implicitDefEqProofs (maxSteps := 2000000) [-selQ_sel, h_1, h_2, h_3, h_6, h_7, h_8, h_9]
          refine Hid.selQ (fun h_10 => ?_) (fun h_10 => ?_)
          · replace H := HS.cnd_t h_10 H
            try simp -implicitDefEqProofs (maxSteps := 2000000) [-selQ_sel, h_1, h_2, h_3, h_6, h_7, h_8, h_9, h_10]
            obtain ⟨v4, h_11, H⟩ := HS.bnd H
            try simp -implicitDefEqProofs (maxSteps := 2000000) [-selQ_sel, h_1, h_2, h_3, h_6, h_7, h_8, h_9, h_10, h_11]
            refine Hid.selQ (fun h_12 => ?_) (fun h_12 => ?_)
            · replace H := HS.cnd_t h_12 H
              try simp -implicitDefEqProofs (maxSteps := 2000000) [-selQ_sel, h_1, h_2, h_3, h_6, h_7, h_8, h_9, h_10, h_11, h_12]
              have hr := (HS.some H).symm; subst hr
              refine Hid.mk ⟨_, Wk.refl _, ?_⟩
              try simp -implicitDefEqProofs (maxSteps := 2000000) [-selQ_sel, h_1, h_2, h_3, h_6, h_7, h_8, h_9, h_10, h_11, h_12]
            · replace H := HS.cnd_f h_12 H
              try simp -implicitDefEqProofs (maxSteps := 2000000) [-selQ_sel, h_1, h_2, h_3, h_6, h_7, h_8, h_9, h_10, h_11, h_12]
              have hr := (HS.some H).symm; subst hr
              refine Hid.mk ⟨_, Wk.refl _, ?_⟩
              try simp -implicitDefEqProofs (maxSteps := 2000000) [-selQ_sel, h_1, h_2, h_3, h_6, h_7, h_8, h_9, h_10, h_11, h_12]
          · replace H := HS.cnd_f h_10 H
            try simp -implicitDefEqProofs (maxSteps := 2000000) [-selQ_sel, h_1, h_2, h_3, h_6, h_7, h_8, h_9, h_10]
            have hr := (HS.some H).symm; subst hr
            refine Hid.mk ⟨_, Wk.refl _, ?_⟩
            try simp -implicitDefEqProofs (maxSteps := 2000000) [-selQ_sel, h_1, h_2, h_3, h_6, h_7, h_8, h_9, h_10]
        · replace H := HS.cnd_f h_8 H
          try simp -implicitDefEqProofs (maxSteps := 2000000) [-selQ_sel, h_1, h_2, h_3, h_6, h_7, h_8]
          have hr := (HS.some H).symm; subst hr
          refine Hid.mk ⟨_, Wk.refl _, ?_⟩
          try simp -implicitDefEqProofs (maxSteps := 2000000) [-selQ_sel, h_1, h_2, h_3, h_6, h_7, h_8]
      · replace H := HS.cnd_f h_6 H
        try simp -implicitDefEqProofs (maxSteps := 2000000) [-selQ_sel, h_1, h_2, h_3, h_6]
        have hr := (HS.some H).symm; subst hr
        refine Hid.mk ⟨_, Wk.refl _, ?_⟩
        try simp -implicitDefEqProofs (maxSteps := 2000000) [-selQ_sel, h_1, h_2, h_3, h_6]
  · replace H := HS.cnd_f h_2 H
    try simp -implicitDefEqProofs (maxSteps := 2000000) [-selQ_sel, h_1, h_2]
    have hr := (HS.some H).symm; subst hr
    refine Hid.mk ⟨_, Wk.refl _, ?_⟩
    try simp -implicitDefEqProofs (maxSteps := 2000000) [-selQ_sel, h_1, h_2]
theorem laws_heldColorS_ok0 (hm : Try.prog.follows .mixedOrders = true) : Sound Try.prog 144 laws_heldColorS_x := by
  refine xOf_sound fun q r h => ?_
  obtain ⟨a0, a1⟩ := q
  refine fn_ok E0 hm Try.func144 rfl (by decide +kernel) (by rfl) fun Γ hn hk => ?_
  dsimp only [laws_heldColorS_e, laws_heldColorS_v]
  replace hn : Γ.n = 49 := hn
  replace hk : Γ.k = 0 := hk
  have H : HS (laws_heldColorS a0 a1) r := h
  clear h; unfold laws_heldColorS at H
  try simp -implicitDefEqProofs at H
  refine Tr.of_vc (cl := tabC []) (E := E0) [] tab_nil hm (by rw [hn]; decide +kernel) ?_
  try simp -implicitDefEqProofs (maxSteps := 2000000) [-selQ_sel]
  obtain ⟨q, h_1, H⟩ := HS.bnd H
  refine Hid.mk (Tr.weak (s' := (laws_heldColorS_l0_S a0) (a1, 0)) (Wk.ofk [] hk (by rfl) (by simp -implicitDefEqProofs [laws_heldColorS_l0_S]) (by simp -implicitDefEqProofs [laws_heldColorS_l0_S])) ?_)
  refine wp_loop_of (S := (laws_heldColorS_l0_S a0)) (f := (laws_heldColorS_l0 a0)) (xt := (laws_heldColorS_l0_X a0)) ?_ ?_ h_1 ?_
  · intro q; rcases q with y5 | ⟨⟩ <;> simp [laws_heldColorS_l0_X]
  · clear H h_1 q
    rintro ⟨x2, x3⟩ o R hf hR
    have H : HS (laws_heldColorS_l0 a0 (x2, x3)) o := hf
    clear hf; unfold laws_heldColorS_l0 at H
    try simp -implicitDefEqProofs at H
    refine Tr.of_vc (cl := tabC []) (E := E0) [] tab_nil hm (by rw [hn]; decide +kernel) ?_
    try simp -implicitDefEqProofs (maxSteps := 2000000) [-selQ_sel, laws_heldColorS_l0_S]
    refine Hid.brV (fun h_2 => ?_) (fun h_2 => ?_)
    · replace H := HS.cnd_t h_2 H
      try simp -implicitDefEqProofs (maxSteps := 2000000) [-selQ_sel, h_2]
      have hr := (HS.some H).symm; subst hr
      exact Hid.mk ⟨(laws_heldColorS_l0_X a0 (.inl x2)).2, Wk.ofk [] hk (by rfl) (by simp -implicitDefEqProofs [laws_heldColorS_l0_X, h_2]) (by simp -implicitDefEqProofs [laws_heldColorS_l0_X, h_2]), hR⟩
    · replace H := HS.cnd_f h_2 H
      try simp -implicitDefEqProofs (maxSteps := 2000000) [-selQ_sel, h_2]
      obtain ⟨v4, h_3, H⟩ := HS.bnd H
      try simp -implicitDefEqProofs (maxSteps := 2000000) [-selQ_sel, h_2, h_3]
      refine Hid.brV (fun h_4 => ?_) (fun h_4 => ?_)
      · replace H := HS.cnd_t h_4 H
        try simp -implicitDefEqProofs (maxSteps := 2000000) [-selQ_sel, h_2, h_3, h_4]
        refine Hid.brV (fun h_5 => ?_) (fun h_5 => ?_)
        · replace H := HS.cnd_t h_5 H
          try simp -implicitDefEqProofs (maxSteps := 2000000) [-selQ_sel, h_2, h_3, h_4, h_5]
          refine Hid.brV (fun h_6 => ?_) (fun h_6 => ?_)
          · replace H := HS.cnd_t h_6 H
            try simp -implicitDefEqProofs (maxSteps := 2000000) [-selQ_sel, h_2, h_3, h_4, h_5, h_6]
            refine Hid.brV (fun h_7 => ?_) (fun h_7 => ?_)
            · replace H := HS.cnd_t h_7 H
              try simp -implicitDefEqProofs (maxSteps := 2000000) [-selQ_sel, h_2, h_3, h_4, h_5, h_6, h_7]
              have hr := (HS.some H).symm; subst hr
              exact Hid.mk ⟨laws_heldColorS_l0_S a0 ((IntKind.i64.wrap ((IntKind.i64.wrap ((IntKind.i64.wrap ((IntKind.i64.wrap (x2 + 1)) + 1)) + 1)) + 1)), (IntKind.i64.wrap (x3 + 1))), Wk.ofk [] hk (by rfl) (by simp -implicitDefEqProofs [laws_heldColorS_l0_S, h_2, h_3, h_4, h_5, h_6, h_7]) (by simp -implicitDefEqProofs [laws_heldColorS_l0_S, h_2, h_3, h_4, h_5, h_6, h_7]), hR⟩
            · replace H := HS.cnd_f h_7 H
              try simp -implicitDefEqProofs (maxSteps := 2000000) [-selQ_sel, h_2, h_3, h_4, h_5, h_6, h_7]
              have hr := (HS.some H).symm; subst hr
              exact Hid.mk ⟨(laws_heldColorS_l0_X a0 (.inr ())).2, Wk.ofk [] hk (by rfl) (by simp -implicitDefEqProofs [laws_heldColorS_l0_X, h_2, h_3, h_4, h_5, h_6, h_7]) (by simp -implicitDefEqProofs [laws_heldColorS_l0_X, h_2, h_3, h_4, h_5, h_6, h_7]), hR⟩
          · replace H := HS.cnd_f h_6 H
            try simp -implicitDefEqProofs (maxSteps := 2000000) [-selQ_sel, h_2, h_3, h_4, h_5, h_6]
            have hr := (HS.some H).symm; subst hr
            exact Hid.mk ⟨(laws_heldColorS_l0_X a0 (.inr ())).2, Wk.ofk [] hk (by rfl) (by simp -implicitDefEqProofs [laws_heldColorS_l0_X, h_2, h_3, h_4, h_5, h_6]) (by simp -implicitDefEqProofs [laws_heldColorS_l0_X, h_2, h_3, h_4, h_5, h_6]), hR⟩
        · replace H := HS.cnd_f h_5 H
          try simp -implicitDefEqProofs (maxSteps := 2000000) [-selQ_sel, h_2, h_3, h_4, h_5]
          have hr := (HS.some H).symm; subst hr
          exact Hid.mk ⟨(laws_heldColorS_l0_X a0 (.inr ())).2, Wk.ofk [] hk (by rfl) (by simp -implicitDefEqProofs [laws_heldColorS_l0_X, h_2, h_3, h_4, h_5]) (by simp -implicitDefEqProofs [laws_heldColorS_l0_X, h_2, h_3, h_4, h_5]), hR⟩
      · replace H := HS.cnd_f h_4 H
        try simp -implicitDefEqProofs (maxSteps := 2000000) [-selQ_sel, h_2, h_3, h_4]
        have hr := (HS.some H).symm; subst hr
        exact Hid.mk ⟨(laws_heldColorS_l0_X a0 (.inr ())).2, Wk.ofk [] hk (by rfl) (by simp -implicitDefEqProofs [laws_heldColorS_l0_X, h_2, h_3, h_4]) (by simp -implicitDefEqProofs [laws_heldColorS_l0_X, h_2, h_3, h_4]), hR⟩
  · rcases q with y5 | ⟨⟩
    · dsimp only at H
      try simp -implicitDefEqProofs (maxSteps := 2000000) [-selQ_sel, laws_heldColorS_l0_X]
      have hr := (HS.some H).symm; subst hr
      refine Hid.mk ⟨_, Wk.refl _, ?_⟩
      try simp -implicitDefEqProofs (maxSteps := 2000000) [-selQ_sel]
    · dsimp only at H
      try simp -implicitDefEqProofs (maxSteps := 2000000) [-selQ_sel, laws_heldColorS_l0_X]
      have hr := (HS.some H).symm; subst hr
      refine Hid.mk ⟨_, Wk.refl _, ?_⟩
      try simp -implicitDefEqProofs (maxSteps := 2000000) [-selQ_sel]
theorem spec_l11Box_ok0 (hm : Try.prog.follows .mixedOrders = true) (k_spec_Empty : Sound Try.prog 84 spec_Empty_x) (k_spec_l01In : Sound Try.prog 73 spec_l01In_x) : Sound Try.prog 148 spec_l11Box_x := by
  refine xOf_sound fun q r h => ?_
  revert h; revert r; revert q; intro a0 r h
  refine fn_ok E0 hm Try.func148 rfl (by decide +kernel) (by rfl) fun Γ hn hk => ?_
  dsimp only [spec_l11Box_e, spec_l11Box_v]
  replace hn : Γ.n = 42 := hn
  replace hk : Γ.k = 0 := hk
  have H : HS (spec_l11Box a0) r := h
  clear h; unfold spec_l11Box at H
  try simp -implicitDefEqProofs at H
  refine Tr.of_vc (cl := tabC [(84, spec_Empty_x), (73, spec_l01In_x)]) (E := E0) [] (tab_cons k_spec_Empty (tab_cons k_spec_l01In tab_nil)) hm (by rw [hn]; decide +kernel) ?_
  try simp -implicitDefEqProofs (maxSteps := 2000000) [-selQ_sel]
  obtain ⟨v1, h_1, H⟩ := HS.bnd H
  try simp -implicitDefEqProofs (maxSteps := 2000000) [-selQ_sel, h_1]
  refine Hid.selQ (fun h_2 => ?_) (fun h_2 => ?_)
  · replace H := HS.cnd_t h_2 H
    try simp -implicitDefEqProofs (maxSteps := 2000000) [-selQ_sel, h_1, h_2]
    have hr := (HS.some H).symm; subst hr
    refine Hid.mk ⟨_, Wk.refl _, ?_⟩
    try simp -implicitDefEqProofs (maxSteps := 2000000) [-selQ_sel, h_1, h_2]
  · replace H := HS.cnd_f h_2 H
    try simp -implicitDefEqProofs (maxSteps := 2000000) [-selQ_sel, h_1, h_2]
    obtain ⟨v2, h_3, H⟩ := HS.bnd H
    try simp -implicitDefEqProofs (maxSteps := 2000000) [-selQ_sel, h_1, h_2, h_3]
    refine Hid.selQ (fun h_4 => ?_) (fun h_4 => ?_)
    · replace H := HS.cnd_t h_4 H
      try simp -implicitDefEqProofs (maxSteps := 2000000) [-selQ_sel, h_1, h_2, h_3, h_4]
      obtain ⟨v3, h_5, H⟩ := HS.bnd H
      try simp -implicitDefEqProofs (maxSteps := 2000000) [-selQ_sel, h_1, h_2, h_3, h_4, h_5]
      refine Hid.selQ (fun h_6 => ?_) (fun h_6 => ?_)
      · replace H := HS.cnd_t h_6 H
        try simp -implicitDefEqProofs (maxSteps := 2000000) [-selQ_sel, h_1, h_2, h_3, h_4, h_5, h_6]
        obtain ⟨v4, h_7, H⟩ := HS.bnd H
        try simp -implicitDefEqProofs (maxSteps := 2000000) [-selQ_sel, h_1, h_2, h_3, h_4, h_5, h_6, h_7]
        refine Hid.selQ (fun h_8 => ?_) (fun h_8 => ?_)
        · replace H := HS.cnd_t h_8 H
          try simp -implicitDefEqProofs (maxSteps := 2000000) [-selQ_sel, h_1, h_2, h_3, h_4, h_5, h_6, h_7, h_8]
          obtain ⟨v5, h_9, H⟩ := HS.bnd H
          try simp -implicitDefEqProofs (maxSteps := 2000000) [-selQ_sel, h_1, h_2, h_3, h_4, h_5, h_6, h_7, h_8, h_9]
          refine Hid.selQ (fun h_10 => ?_) (fun h_10 => ?_)
          · replace H := HS.cnd_t h_10 H
            try simp -implicitDefEqProofs (maxSteps := 2000000) [-selQ_sel, h_1, h_2, h_3, h_4, h_5, h_6, h_7, h_8, h_9, h_10]
            refine Hid.selQ (fun h_11 => ?_) (fun h_11 => ?_)
            · replace H := HS.cnd_t h_11 H
              try simp -implicitDefEqProofs (maxSteps := 2000000) [-selQ_sel, h_1, h_2, h_3, h_4, h_5, h_6, h_7, h_8, h_9, h_10, h_11]
              have hr := (HS.some H).symm; subst hr
              refine Hid.mk ⟨_, Wk.refl _, ?_⟩
              try simp -implicitDefEqProofs (maxSteps := 2000000) [-selQ_sel, h_1, h_2, h_3, h_4, h_5, h_6, h_7, h_8, h_9, h_10, h_11]
            · replace H := HS.cnd_f h_11 H
              try simp -implicitDefEqProofs (maxSteps := 2000000) [-selQ_sel, h_1, h_2, h_3, h_4, h_5, h_6, h_7, h_8, h_9, h_10, h_11]
              have hr := (HS.some H).symm; subst hr
              refine Hid.mk ⟨_, Wk.refl _, ?_⟩
              try simp -implicitDefEqProofs (maxSteps := 2000000) [-selQ_sel, h_1, h_2, h_3, h_4, h_5, h_6, h_7, h_8, h_9, h_10, h_11]
          · replace H := HS.cnd_f h_10 H
            try simp -implicitDefEqProofs (maxSteps := 2000000) [-selQ_sel, h_1, h_2, h_3, h_4, h_5, h_6, h_7, h_8, h_9, h_10]
            have hr := (HS.some H).symm; subst hr
            refine Hid.mk ⟨_, Wk.refl _, ?_⟩
            try simp -implicitDefEqProofs (maxSteps := 2000000) [-selQ_sel, h_1, h_2, h_3, h_4, h_5, h_6, h_7, h_8, h_9, h_10]
        · replace H := HS.cnd_f h_8 H
          try simp -implicitDefEqProofs (maxSteps := 2000000) [-selQ_sel, h_1, h_2, h_3, h_4, h_5, h_6, h_7, h_8]
          have hr := (HS.some H).symm; subst hr
          refine Hid.mk ⟨_, Wk.refl _, ?_⟩
          try simp -implicitDefEqProofs (maxSteps := 2000000) [-selQ_sel, h_1, h_2, h_3, h_4, h_5, h_6, h_7, h_8]
      · replace H := HS.cnd_f h_6 H
        try simp -implicitDefEqProofs (maxSteps := 2000000) [-selQ_sel, h_1, h_2, h_3, h_4, h_5, h_6]
        have hr := (HS.some H).symm; subst hr
        refine Hid.mk ⟨_, Wk.refl _, ?_⟩
        try simp -implicitDefEqProofs (maxSteps := 2000000) [-selQ_sel, h_1, h_2, h_3, h_4, h_5, h_6]
    · replace H := HS.cnd_f h_4 H
      try simp -implicitDefEqProofs (maxSteps := 2000000) [-selQ_sel, h_1, h_2, h_3, h_4]
      have hr := (HS.some H).symm; subst hr
      refine Hid.mk ⟨_, Wk.refl _, ?_⟩
      try simp -implicitDefEqProofs (maxSteps := 2000000) [-selQ_sel, h_1, h_2, h_3, h_4]
theorem laws_eqIntS_ok0 (hm : Try.prog.follows .mixedOrders = true) : Sound Try.prog 56 laws_eqIntS_x := by
  refine xOf_sound fun q r h => ?_
  obtain ⟨a0, a1⟩ := q
  refine fn_ok E0 hm Try.func56 rfl (by decide +kernel) (by rfl) fun Γ hn hk => ?_
  dsimp only [laws_eqIntS_e, laws_eqIntS_v]
  replace hn : Γ.n = 26 := hn
  replace hk : Γ.k = 0 := hk
  have H : HS (laws_eqIntS a0 a1) r := h
  clear h; unfold laws_eqIntS at H
  try simp -implicitDefEqProofs at H
  refine Tr.of_vc (cl := tabC []) (E := E0) [] tab_nil hm (by rw [hn]; decide +kernel) ?_
  try simp -implicitDefEqProofs +decide (maxSteps := 2000000) [-selQ_sel, hokQ_of]
  refine Hid.brV (fun h_1 => ?_) (fun h_1 => ?_)
  · replace H := HS.cnd_t h_1 H
    try simp -implicitDefEqProofs +decide (maxSteps := 2000000) [-selQ_sel, hokQ_of, h_1]
    obtain ⟨q, h_2, H⟩ := HS.bnd H
    refine Hid.mk (Tr.weak (s' := (laws_eqIntS_l0_S a0 a1) 0) (Wk.ofk [] hk (by rfl) (by simp -implicitDefEqProofs [laws_eqIntS_l0_S, h_1]) (by simp -implicitDefEqProofs [laws_eqIntS_l0_S, h_1])) ?_)
    refine wp_loop_of (S := (laws_eqIntS_l0_S a0 a1)) (f := (laws_eqIntS_l0 a0 a1)) (xt := (laws_eqIntS_l0_X a0 a1)) ?_ ?_ h_2 ?_
    · intro q; rcases q with ⟨⟩ | ⟨⟩ <;> simp [laws_eqIntS_l0_X]
    · clear H h_2 q
      rintro x3 o R hf hR
      have H : HS (laws_eqIntS_l0 a0 a1 x3) o := hf
      clear hf; unfold laws_eqIntS_l0 at H
      try simp -implicitDefEqProofs at H
      refine Tr.of_vc (cl := tabC []) (E := E0) [] tab_nil hm (by rw [hn]; decide +kernel) ?_
      try simp -implicitDefEqProofs +decide (maxSteps := 2000000) [-selQ_sel, hokQ_of, laws_eqIntS_l0_S]
      refine Hid.brV (fun h_3 => ?_) (fun h_3 => ?_)
      · replace H := HS.cnd_t h_3 H
        try simp -implicitDefEqProofs +decide (maxSteps := 2000000) [-selQ_sel, hokQ_of, h_3]
        have hr := (HS.some H).symm; subst hr
        exact Hid.mk ⟨(laws_eqIntS_l0_X a0 a1 (.inl ())).2, Wk.ofk [] hk (by rfl) (by simp -implicitDefEqProofs [laws_eqIntS_l0_X, h_3]) (by simp -implicitDefEqProofs [laws_eqIntS_l0_X, h_3]), hR⟩
      · replace H := HS.cnd_f h_3 H
        try simp -implicitDefEqProofs +decide (maxSteps := 2000000) [-selQ_sel, hokQ_of, h_3]
        obtain ⟨v4, h_4, H⟩ := HS.bnd H
        try simp -implicitDefEqProofs +decide (maxSteps := 2000000) [-selQ_sel, hokQ_of, h_3, h_4]
        obtain ⟨v5, h_5, H⟩ := HS.bnd H
        try simp -implicitDefEqProofs +decide (maxSteps := 2000000) [-selQ_sel, hokQ_of, h_3, h_4, h_5]
        refine Hid.brV (fun h_6 => ?_) (fun h_6 => ?_)
        · replace H := HS.cnd_t h_6 H
          try simp -implicitDefEqProofs +decide (maxSteps := 2000000) [-selQ_sel, hokQ_of, h_3, h_4, h_5, h_6]
          have hr := (HS.some H).symm; subst hr
          exact Hid.mk ⟨laws_eqIntS_l0_S a0 a1 (IntKind.i64.wrap (x3 + 1)), Wk.ofk [] hk (by rfl) (by simp -implicitDefEqProofs [laws_eqIntS_l0_S, h_3, h_4, h_5, h_6]) (by simp -implicitDefEqProofs [laws_eqIntS_l0_S, h_3, h_4, h_5, h_6]), hR⟩
        · replace H := HS.cnd_f h_6 H
          try simp -implicitDefEqProofs +decide (maxSteps := 2000000) [-selQ_sel, hokQ_of, h_3, h_4, h_5, h_6]
          have hr := (HS.some H).symm; subst hr
          exact Hid.mk ⟨(laws_eqIntS_l0_X a0 a1 (.inr ())).2, Wk.ofk [] hk (by rfl) (by simp -implicitDefEqProofs [laws_eqIntS_l0_X, h_3, h_4, h_5, h_6]) (by simp -implicitDefEqProofs [laws_eqIntS_l0_X, h_3, h_4, h_5, h_6]), hR⟩
    · rcases q with ⟨⟩ | ⟨⟩
      · dsimp only at H
        try simp -implicitDefEqProofs +decide (maxSteps := 2000000) [-selQ_sel, hokQ_of, h_1, laws_eqIntS_l0_X]
        have hr := (HS.some H).symm; subst hr
        refine Hid.mk ⟨_, Wk.refl _, ?_⟩
        try simp -implicitDefEqProofs +decide (maxSteps := 2000000) [-selQ_sel, hokQ_of, h_1]
      · dsimp only at H
        try simp -implicitDefEqProofs +decide (maxSteps := 2000000) [-selQ_sel, hokQ_of, h_1, laws_eqIntS_l0_X]
        have hr := (HS.some H).symm; subst hr
        refine Hid.mk ⟨_, Wk.refl _, ?_⟩
        try simp -implicitDefEqProofs +decide (maxSteps := 2000000) [-selQ_sel, hokQ_of, h_1]
  · replace H := HS.cnd_f h_1 H
    try simp -implicitDefEqProofs +decide (maxSteps := 2000000) [-selQ_sel, hokQ_of, h_1]
    have hr := (HS.some H).symm; subst hr
    refine Hid.mk ⟨_, Wk.refl _, ?_⟩
    try simp -implicitDefEqProofs +decide (maxSteps := 2000000) [-selQ_sel, hokQ_of, h_1]
theorem impl_isMaskBox_ok0 (hm : Try.prog.follows .mixedOrders = true) (k_impl_Empty : Sound Try.prog 158 impl_Empty_x) : Sound Try.prog 152 impl_isMaskBox_x := by
  refine xOf_sound fun q r h => ?_
  revert h; revert r; revert q; intro a0 r h
  refine fn_ok E0 hm Try.func152 rfl (by decide +kernel) (by rfl) fun Γ hn hk => ?_
  dsimp only [impl_isMaskBox_e, impl_isMaskBox_v]
  replace hn : Γ.n = 39 := hn
  replace hk : Γ.k = 0 := hk
  have H : HS (impl_isMaskBox a0) r := h
  clear h; unfold impl_isMaskBox at H
  try simp -implicitDefEqProofs at H
  refine Tr.of_vc (cl := tabC [(158, impl_Empty_x)]) (E := E0) [] (tab_cons k_impl_Empty tab_nil) hm (by rw [hn]; decide +kernel) ?_
  try simp -implicitDefEqProofs (maxSteps := 2000000) [-selQ_sel]
  obtain ⟨v1, h_1, H⟩ := HS.bnd H
  try simp -implicitDefEqProofs (maxSteps := 2000000) [-selQ_sel, h_1]
  refine Hid.selQ (fun h_2 => ?_) (fun h_2 => ?_)
  · replace H := HS.cnd_t h_2 H
    try simp -implicitDefEqProofs (maxSteps := 2000000) [-selQ_sel, h_1, h_2]
    have hr := (HS.some H).symm; subst hr
    refine Hid.mk ⟨_, Wk.refl _, ?_⟩
    try simp -implicitDefEqProofs (maxSteps := 2000000) [-selQ_sel, h_1, h_2]
  · replace H := HS.cnd_f h_2 H
    try simp -implicitDefEqProofs (maxSteps := 2000000) [-selQ_sel, h_1, h_2]
    refine Hid.selQ (fun h_3 => ?_) (fun h_3 => ?_)
    · replace H := HS.cnd_t h_3 H
      try simp -implicitDefEqProofs (maxSteps := 2000000) [-selQ_sel, h_1, h_2, h_3]
      refine Hid.selQ (fun h_4 => ?_) (fun h_4 => ?_)
      · replace H := HS.cnd_t h_4 H
        try simp -implicitDefEqProofs (maxSteps := 2000000) [-selQ_sel, h_1, h_2, h_3, h_4]
        refine Hid.selQ (fun h_5 => ?_) (fun h_5 => ?_)
        · replace H := HS.cnd_t h_5 H
          try simp -implicitDefEqProofs (maxSteps := 2000000) [-selQ_sel, h_1, h_2, h_3, h_4, h_5]
          refine Hid.brV (fun h_6 => ?_) (fun h_6 => ?_)
          · replace H := HS.cnd_t h_6 H
            try simp -implicitDefEqProofs (maxSteps := 2000000) [-selQ_sel, h_1, h_2, h_3, h_4, h_5, h_6]
            refine Hid.selQ (fun h_7 => ?_) (fun h_7 => ?_)
            · replace H := HS.cnd_t h_7 H
              try simp -implicitDefEqProofs (maxSteps := 2000000) [-selQ_sel, h_1, h_2, h_3, h_4, h_5, h_6, h_7]
              have hr := (HS.some H).symm; subst hr
              refine Hid.mk ⟨_, Wk.refl _, ?_⟩
              try simp -implicitDefEqProofs (maxSteps := 2000000) [-selQ_sel, h_1, h_2, h_3, h_4, h_5, h_6, h_7]
            · replace H := HS.cnd_f h_7 H
              try simp -implicitDefEqProofs (maxSteps := 2000000) [-selQ_sel, h_1, h_2, h_3, h_4, h_5, h_6, h_7]
              have hr := (HS.some H).symm; subst hr
              refine Hid.mk ⟨_, Wk.refl _, ?_⟩
              try simp -implicitDefEqProofs (maxSteps := 2000000) [-selQ_sel, h_1, h_2, h_3, h_4, h_5, h_6, h_7]
          · replace H := HS.cnd_f h_6 H
            try simp -implicitDefEqProofs (maxSteps := 2000000) [-selQ_sel, h_1, h_2, h_3, h_4, h_5, h_6]
            have hr := (HS.some H).symm; subst hr
            refine Hid.mk ⟨_, Wk.refl _, ?_⟩
            try simp -implicitDefEqProofs (maxSteps := 2000000) [-selQ_sel, h_1, h_2, h_3, h_4, h_5, h_6]
        · replace H := HS.cnd_f h_5 H
          try simp -implicitDefEqProofs (maxSteps := 2000000) [-selQ_sel, h_1, h_2, h_3, h_4, h_5]
          have hr := (HS.some H).symm; subst hr
          refine Hid.mk ⟨_, Wk.refl _, ?_⟩
          try simp -implicitDefEqProofs (maxSteps := 2000000) [-selQ_sel, h_1, h_2, h_3, h_4, h_5]
      · replace H := HS.cnd_f h_4 H
        try simp -implicitDefEqProofs (maxSteps := 2000000) [-selQ_sel, h_1, h_2, h_3, h_4]
        have hr := (HS.some H).symm; subst hr
        refine Hid.mk ⟨_, Wk.refl _, ?_⟩
        try simp -implicitDefEqProofs (maxSteps := 2000000) [-selQ_sel, h_1, h_2, h_3, h_4]
    · replace H := HS.cnd_f h_3 H
      try simp -implicitDefEqProofs (maxSteps := 2000000) [-selQ_sel, h_1, h_2, h_3]
      have hr := (HS.some H).symm; subst hr
      refine Hid.mk ⟨_, Wk.refl _, ?_⟩
      try simp -implicitDefEqProofs (maxSteps := 2000000) [-selQ_sel, h_1, h_2, h_3]
theorem impl_Blend_ok0 (hm : Try.prog.follows .mixedOrders = true) (k_impl_isMode : Sound Try.prog 173 impl_isMode_x) (k_impl_LaidOk : Sound Try.prog 112 impl_LaidOk_x) (k_impl_each_Blend_1 : Sound Try.prog 174 impl_each_Blend_1_x) : Sound Try.prog 107 impl_Blend_x := by
  refine xOf_sound fun q r h => ?_
  obtain ⟨a0, a1, a2⟩ := q
  refine fn_ok E0 hm Try.func107 rfl (by decide +kernel) (by rfl) fun Γ hn hk => ?_
  dsimp only [impl_Blend_e, impl_Blend_v]
  replace hn : Γ.n = 33 := hn
  replace hk : Γ.k = 0 := hk
  have H : HS (impl_Blend a0 a1 a2) r := h
  clear h; unfold impl_Blend at H
  try simp -implicitDefEqProofs at H
  refine Tr.of_vc (cl := tabC [(173, impl_isMode_x), (112, impl_LaidOk_x), (174, impl_each_Blend_1_x)]) (E := E0) [] (tab_cons k_impl_isMode (tab_cons k_impl_LaidOk (tab_cons k_impl_each_Blend_1 tab_nil))) hm (by rw [hn]; decide +kernel) ?_
  try simp -implicitDefEqProofs +decide (maxSteps := 2000000) [-selQ_sel, hokQ_of]
  obtain ⟨v1, h_1, H⟩ := HS.bnd H
  try simp -implicitDefEqProofs +decide (maxSteps := 2000000) [-selQ_sel, hokQ_of, h_1]
  refine Hid.selQ (fun h_2 => ?_) (fun h_2 => ?_)
  · replace H := HS.cnd_t h_2 H
    try simp -implicitDefEqProofs +decide (maxSteps := 2000000) [-selQ_sel, hokQ_of, h_1, h_2]
    obtain ⟨v2, h_3, H⟩ := HS.bnd H
    try simp -implicitDefEqProofs +decide (maxSteps := 2000000) [-selQ_sel, hokQ_of, h_1, h_2, h_3]
    refine Hid.selQ (fun h_4 => ?_) (fun h_4 => ?_)
    · replace H := HS.cnd_t h_4 H
      try simp -implicitDefEqProofs +decide (maxSteps := 2000000) [-selQ_sel, hokQ_of, h_1, h_2, h_3, h_4]
      obtain ⟨v3, h_5, H⟩ := HS.bnd H
      try simp -implicitDefEqProofs +decide (maxSteps := 2000000) [-selQ_sel, hokQ_of, h_1, h_2, h_3, h_4, h_5]
      refine Hid.brV (fun h_6 => ?_) (fun h_6 => ?_)
      · replace H := HS.cnd_t h_6 H
        try simp -implicitDefEqProofs +decide (maxSteps := 2000000) [-selQ_sel, hokQ_of, h_1, h_2, h_3, h_4, h_5, h_6]
        obtain ⟨v4, h_7, H⟩ := HS.bnd H
        try simp -implicitDefEqProofs +decide (maxSteps := 2000000) [-selQ_sel, hokQ_of, h_1, h_2, h_3, h_4, h_5, h_6, h_7]
        have hr := (HS.some H).symm; subst hr
        refine Hid.mk ⟨_, Wk.refl _, ?_⟩
        try simp -implicitDefEqProofs +decide (maxSteps := 2000000) [-selQ_sel, hokQ_of, h_1, h_2, h_3, h_4, h_5, h_6, h_7]
      · replace H := HS.cnd_f h_6 H
        try simp -implicitDefEqProofs +decide (maxSteps := 2000000) [-selQ_sel, hokQ_of, h_1, h_2, h_3, h_4, h_5, h_6]
        have hr := (HS.some H).symm; subst hr
        refine Hid.mk ⟨_, Wk.refl _, ?_⟩
        try simp -implicitDefEqProofs +decide (maxSteps := 2000000) [-selQ_sel, hokQ_of, h_1, h_2, h_3, h_4, h_5, h_6]
    · replace H := HS.cnd_f h_4 H
      try simp -implicitDefEqProofs +decide (maxSteps := 2000000) [-selQ_sel, hokQ_of, h_1, h_2, h_3, h_4]
      have hr := (HS.some H).symm; subst hr
      refine Hid.mk ⟨_, Wk.refl _, ?_⟩
      try simp -implicitDefEqProofs +decide (maxSteps := 2000000) [-selQ_sel, hokQ_of, h_1, h_2, h_3, h_4]
  · replace H := HS.cnd_f h_2 H
    try simp -implicitDefEqProofs +decide (maxSteps := 2000000) [-selQ_sel, hokQ_of, h_1, h_2]
    have hr := (HS.some H).symm; subst hr
    refine Hid.mk ⟨_, Wk.refl _, ?_⟩
    try simp -implicitDefEqProofs +decide (maxSteps := 2000000) [-selQ_sel, hokQ_of, h_1, h_2]
theorem laws_markIntS_ok0 (hm : Try.prog.follows .mixedOrders = true) : Sound Try.prog 59 laws_markIntS_x := by
  refine xOf_sound fun q r h => ?_
  obtain ⟨a0, a1⟩ := q
  refine fn_ok E0 hm Try.func59 rfl (by decide +kernel) (by rfl) fun Γ hn hk => ?_
  dsimp only [laws_markIntS_e, laws_markIntS_v]
  replace hn : Γ.n = 19 := hn
  replace hk : Γ.k = 1 := hk
  have H : HS (laws_markIntS a0 a1) r := h
  clear h; unfold laws_markIntS at H
  try simp -implicitDefEqProofs at H
  refine Tr.of_vc (cl := tabC []) (E := E0) [] tab_nil hm (by rw [hn]; decide +kernel) ?_
  try simp -implicitDefEqProofs (maxSteps := 2000000) [-selQ_sel]
  obtain ⟨q, h_1, H⟩ := HS.bnd H
  refine Hid.mk (Tr.weak (s' := laws_markIntS_l0_S (a0, 0, a1)) (Wk.ofk [0] hk (by rfl) (by simp -implicitDefEqProofs [laws_markIntS_l0_S]) (by simp -implicitDefEqProofs [laws_markIntS_l0_S])) ?_)
  refine wp_loop_of (S := laws_markIntS_l0_S) (f := laws_markIntS_l0) (xt := laws_markIntS_l0_X) ?_ ?_ h_1 ?_
  · intro q; rcases q with ⟨y8, y9⟩ <;> simp [laws_markIntS_l0_X]
  · clear H h_1 q
    rintro ⟨x3, x4, x5⟩ o R hf hR
    have H : HS (laws_markIntS_l0 (x3, x4, x5)) o := hf
    clear hf; unfold laws_markIntS_l0 at H
    try simp -implicitDefEqProofs at H
    refine Tr.of_vc (cl := tabC []) (E := E0) [] tab_nil hm (by rw [hn]; decide +kernel) ?_
    try simp -implicitDefEqProofs (maxSteps := 2000000) [-selQ_sel, laws_markIntS_l0_S]
    refine Hid.brV (fun h_2 => ?_) (fun h_2 => ?_)
    · replace H := HS.cnd_t h_2 H
      try simp -implicitDefEqProofs (maxSteps := 2000000) [-selQ_sel, h_2]
      have hr := (HS.some H).symm; subst hr
      exact Hid.mk ⟨(laws_markIntS_l0_X (x5, x3)).2, Wk.ofk [0] hk (by rfl) (by simp -implicitDefEqProofs [laws_markIntS_l0_X, h_2]) (by simp -implicitDefEqProofs [laws_markIntS_l0_X, h_2]), hR⟩
    · replace H := HS.cnd_f h_2 H
      try simp -implicitDefEqProofs (maxSteps := 2000000) [-selQ_sel, h_2]
      obtain ⟨v6, h_3, H⟩ := HS.bnd H
      have g_4 := idx_get h_3
      try simp -implicitDefEqProofs (maxSteps := 2000000) [-selQ_sel, h_2, h_3, g_4]
      obtain ⟨l7, h_5, H⟩ := HS.nam H
      have m_6 := congrArg (List.map (AV.int .i64)) h_5
      have q_7 := congrArg List.length h_5
      simp -implicitDefEqProofs at m_6 q_7
      try simp only [q_7] at m_6
      try simp only [q_7] at g_4
      try simp -implicitDefEqProofs (maxSteps := 2000000) [-selQ_sel, h_2, h_3, g_4, m_6, q_7]
      have hr := (HS.some H).symm; subst hr
      exact Hid.mk ⟨laws_markIntS_l0_S ((IntKind.i64.wrap (x3 + 1)), (IntKind.i64.wrap (x4 + 1)), l7), Wk.ofk [0] hk (by rfl) (by simp -implicitDefEqProofs [laws_markIntS_l0_S, h_2, h_3, g_4, m_6, q_7]) (by simp -implicitDefEqProofs [laws_markIntS_l0_S, h_2, h_3, g_4, m_6, q_7]), hR⟩
  · obtain ⟨y8, y9⟩ := q
    try dsimp only at H
    try simp -implicitDefEqProofs (maxSteps := 2000000) [-selQ_sel, laws_markIntS_l0_X]
    have hr := (HS.some H).symm; subst hr
    refine Hid.mk ⟨_, Wk.refl _, ?_⟩
    try simp -implicitDefEqProofs (maxSteps := 2000000) [-selQ_sel]
theorem spec_ColorOk_ok0 (hm : Try.prog.follows .mixedOrders = true) (k_spec_l01In : Sound Try.prog 73 spec_l01In_x) : Sound Try.prog 193 spec_ColorOk_x := by
  refine xOf_sound fun q r h => ?_
  revert h; revert r; revert q; intro a0 r h
  refine fn_ok E0 hm Try.func193 rfl (by decide +kernel) (by rfl) fun Γ hn hk => ?_
  dsimp only [spec_ColorOk_e, spec_ColorOk_v]
  replace hn : Γ.n = 21 := hn
  replace hk : Γ.k = 0 := hk
  have H : HS (spec_ColorOk a0) r := h
  clear h; unfold spec_ColorOk at H
  try simp -implicitDefEqProofs at H
  refine Tr.of_vc (cl := tabC [(73, spec_l01In_x)]) (E := E0) [] (tab_cons k_spec_l01In tab_nil) hm (by rw [hn]; decide +kernel) ?_
  try simp -implicitDefEqProofs (maxSteps := 2000000) [-selQ_sel]
  obtain ⟨v1, h_1, H⟩ := HS.bnd H
  try simp -implicitDefEqProofs (maxSteps := 2000000) [-selQ_sel, h_1]
  refine Hid.selQ (fun h_2 => ?_) (fun h_2 => ?_)
  · replace H := HS.cnd_t h_2 H
    try simp -implicitDefEqProofs (maxSteps := 2000000) [-selQ_sel, h_1, h_2]
    obtain ⟨v2, h_3, H⟩ := HS.bnd H
    try simp -implicitDefEqProofs (maxSteps := 2000000) [-selQ_sel, h_1, h_2, h_3]
    refine Hid.selQ (fun h_4 => ?_) (fun h_4 => ?_)
    · replace H := HS.cnd_t h_4 H
      try simp -implicitDefEqProofs (maxSteps := 2000000) [-selQ_sel, h_1, h_2, h_3, h_4]
      obtain ⟨v3, h_5, H⟩ := HS.bnd H
      try simp -implicitDefEqProofs (maxSteps := 2000000) [-selQ_sel, h_1, h_2, h_3, h_4, h_5]
      refine Hid.selQ (fun h_6 => ?_) (fun h_6 => ?_)
      · replace H := HS.cnd_t h_6 H
        try simp -implicitDefEqProofs (maxSteps := 2000000) [-selQ_sel, h_1, h_2, h_3, h_4, h_5, h_6]
        obtain ⟨v4, h_7, H⟩ := HS.bnd H
        try simp -implicitDefEqProofs (maxSteps := 2000000) [-selQ_sel, h_1, h_2, h_3, h_4, h_5, h_6, h_7]
        have hr := (HS.some H).symm; subst hr
        refine Hid.mk ⟨_, Wk.refl _, ?_⟩
        try simp -implicitDefEqProofs (maxSteps := 2000000) [-selQ_sel, h_1, h_2, h_3, h_4, h_5, h_6, h_7]
      · replace H := HS.cnd_f h_6 H
        try simp -implicitDefEqProofs (maxSteps := 2000000) [-selQ_sel, h_1, h_2, h_3, h_4, h_5, h_6]
        have hr := (HS.some H).symm; subst hr
        refine Hid.mk ⟨_, Wk.refl _, ?_⟩
        try simp -implicitDefEqProofs (maxSteps := 2000000) [-selQ_sel, h_1, h_2, h_3, h_4, h_5, h_6]
    · replace H := HS.cnd_f h_4 H
      try simp -implicitDefEqProofs (maxSteps := 2000000) [-selQ_sel, h_1, h_2, h_3, h_4]
      have hr := (HS.some H).symm; subst hr
      refine Hid.mk ⟨_, Wk.refl _, ?_⟩
      try simp -implicitDefEqProofs (maxSteps := 2000000) [-selQ_sel, h_1, h_2, h_3, h_4]
  · replace H := HS.cnd_f h_2 H
    try simp -implicitDefEqProofs (maxSteps := 2000000) [-selQ_sel, h_1, h_2]
    have hr := (HS.some H).symm; subst hr
    refine Hid.mk ⟨_, Wk.refl _, ?_⟩
    try simp -implicitDefEqProofs (maxSteps := 2000000) [-selQ_sel, h_1, h_2]
theorem laws_eqColor_ok0 (hm : Try.prog.follows .mixedOrders = true) : Sound Try.prog 202 laws_eqColor_x := by
  refine xOf_sound fun q r h => ?_
  obtain ⟨a0, a1⟩ := q
  refine fn_ok E0 hm Try.func202 rfl (by decide +kernel) (by rfl) fun Γ hn hk => ?_
  dsimp only [laws_eqColor_e, laws_eqColor_v]
  replace hn : Γ.n = 25 := hn
  replace hk : Γ.k = 0 := hk
  have H : HS (laws_eqColor a0 a1) r := h
  clear h; unfold laws_eqColor at H
  try simp -implicitDefEqProofs at H
  refine Tr.of_vc (cl := tabC []) (E := E0) [] tab_nil hm (by rw [hn]; decide +kernel) ?_
  try simp -implicitDefEqProofs (maxSteps := 2000000) [-selQ_sel]
  refine Hid.brV (fun h_1 => ?_) (fun h_1 => ?_)
  · replace H := HS.cnd_t h_1 H
    try simp -implicitDefEqProofs (maxSteps := 2000000) [-selQ_sel, h_1]
    refine Hid.brV (fun h_2 => ?_) (fun h_2 => ?_)
    · replace H := HS.cnd_t h_2 H
      try simp -implicitDefEqProofs (maxSteps := 2000000) [-selQ_sel, h_1, h_2]
      refine Hid.brV (fun h_3 => ?_) (fun h_3 => ?_)
      · replace H := HS.cnd_t h_3 H
        try simp -implicitDefEqProofs (maxSteps := 2000000) [-selQ_sel, h_1, h_2, h_3]
        refine Hid.brV (fun h_4 => ?_) (fun h_4 => ?_)
        · replace H := HS.cnd_t h_4 H
          try simp -implicitDefEqProofs (maxSteps := 2000000) [-selQ_sel, h_1, h_2, h_3, h_4]
          have hr := (HS.some H).symm; subst hr
          refine Hid.mk ⟨_, Wk.refl _, ?_⟩
          try simp -implicitDefEqProofs (maxSteps := 2000000) [-selQ_sel, h_1, h_2, h_3, h_4]
        · replace H := HS.cnd_f h_4 H
          try simp -implicitDefEqProofs (maxSteps := 2000000) [-selQ_sel, h_1, h_2, h_3, h_4]
          have hr := (HS.some H).symm; subst hr
          refine Hid.mk ⟨_, Wk.refl _, ?_⟩
          try simp -implicitDefEqProofs (maxSteps := 2000000) [-selQ_sel, h_1, h_2, h_3, h_4]
      · replace H := HS.cnd_f h_3 H
        try simp -implicitDefEqProofs (maxSteps := 2000000) [-selQ_sel, h_1, h_2, h_3]
        have hr := (HS.some H).symm; subst hr
        refine Hid.mk ⟨_, Wk.refl _, ?_⟩
        try simp -implicitDefEqProofs (maxSteps := 2000000) [-selQ_sel, h_1, h_2, h_3]
    · replace H := HS.cnd_f h_2 H
      try simp -implicitDefEqProofs (maxSteps := 2000000) [-selQ_sel, h_1, h_2]
      have hr := (HS.some H).symm; subst hr
      refine Hid.mk ⟨_, Wk.refl _, ?_⟩
      try simp -implicitDefEqProofs (maxSteps := 2000000) [-selQ_sel, h_1, h_2]
  · replace H := HS.cnd_f h_1 H
    try simp -implicitDefEqProofs (maxSteps := 2000000) [-selQ_sel, h_1]
    have hr := (HS.some H).symm; subst hr
    refine Hid.mk ⟨_, Wk.refl _, ?_⟩
    try simp -implicitDefEqProofs (maxSteps := 2000000) [-selQ_sel, h_1]
theorem impl_LaidOk_ok0 (hm : Try.prog.follows .mixedOrders = true) (k_impl_ColorOk : Sound Try.prog 180 impl_ColorOk_x) : Sound Try.prog 112 impl_LaidOk_x := by
  refine xOf_sound fun q r h => ?_
  revert h; revert r; revert q; intro a0 r h
  refine fn_ok E0 hm Try.func112 rfl (by decide +kernel) (by rfl) fun Γ hn hk => ?_
  dsimp only [impl_LaidOk_e, impl_LaidOk_v]
  replace hn : Γ.n = 26 := hn
  replace hk : Γ.k = 0 := hk
  have H : HS (impl_LaidOk a0) r := h
  clear h; unfold impl_LaidOk at H
  try simp -implicitDefEqProofs at H
  refine Tr.of_vc (cl := tabC [(180, impl_ColorOk_x)]) (E := E0) [] (tab_cons k_impl_ColorOk tab_nil) hm (by rw [hn]; decide +kernel) ?_
  try simp -implicitDefEqProofs (maxSteps := 2000000) [-selQ_sel]
  obtain ⟨v1, h_1, H⟩ := HS.bnd H
  try simp -implicitDefEqProofs (maxSteps := 2000000) [-selQ_sel, h_1]
  refine Hid.selQ (fun h_2 => ?_) (fun h_2 => ?_)
  · replace H := HS.cnd_t h_2 H
    try simp -implicitDefEqProofs (maxSteps := 2000000) [-selQ_sel, h_1, h_2]
    refine Hid.selQ (fun h_3 => ?_) (fun h_3 => ?_)
    · replace H := HS.cnd_t h_3 H
      try simp -implicitDefEqProofs (maxSteps := 2000000) [-selQ_sel, h_1, h_2, h_3]
      refine Hid.selQ (fun h_4 => ?_) (fun h_4 => ?_)
      · replace H := HS.cnd_t h_4 H
        try simp -implicitDefEqProofs (maxSteps := 2000000) [-selQ_sel, h_1, h_2, h_3, h_4]
        have hr := (HS.some H).symm; subst hr
        refine Hid.mk ⟨_, Wk.refl _, ?_⟩
        try simp -implicitDefEqProofs (maxSteps := 2000000) [-selQ_sel, h_1, h_2, h_3, h_4]
      · replace H := HS.cnd_f h_4 H
        try simp -implicitDefEqProofs (maxSteps := 2000000) [-selQ_sel, h_1, h_2, h_3, h_4]
        have hr := (HS.some H).symm; subst hr
        refine Hid.mk ⟨_, Wk.refl _, ?_⟩
        try simp -implicitDefEqProofs (maxSteps := 2000000) [-selQ_sel, h_1, h_2, h_3, h_4]
    · replace H := HS.cnd_f h_3 H
      try simp -implicitDefEqProofs (maxSteps := 2000000) [-selQ_sel, h_1, h_2, h_3]
      have hr := (HS.some H).symm; subst hr
      refine Hid.mk ⟨_, Wk.refl _, ?_⟩
      try simp -implicitDefEqProofs (maxSteps := 2000000) [-selQ_sel, h_1, h_2, h_3]
  · replace H := HS.cnd_f h_2 H
    try simp -implicitDefEqProofs (maxSteps := 2000000) [-selQ_sel, h_1, h_2]
    have hr := (HS.some H).symm; subst hr
    refine Hid.mk ⟨_, Wk.refl _, ?_⟩
    try simp -implicitDefEqProofs (maxSteps := 2000000) [-selQ_sel, h_1, h_2]
theorem impl_Fade_ok0 (hm : Try.prog.follows .mixedOrders = true) (k_impl_isByte : Sound Try.prog 178 impl_isByte_x) (k_impl_LaidOk : Sound Try.prog 112 impl_LaidOk_x) (k_impl_each_Fade_1 : Sound Try.prog 174 impl_each_Fade_1_x) : Sound Try.prog 108 impl_Fade_x := by
  refine xOf_sound fun q r h => ?_
  obtain ⟨a0, a1⟩ := q
  refine fn_ok E0 hm Try.func108 rfl (by decide +kernel) (by rfl) fun Γ hn hk => ?_
  dsimp only [impl_Fade_e, impl_Fade_v]
  replace hn : Γ.n = 18 := hn
  replace hk : Γ.k = 0 := hk
  have H : HS (impl_Fade a0 a1) r := h
  clear h; unfold impl_Fade at H
  try simp -implicitDefEqProofs at H
  refine Tr.of_vc (cl := tabC [(178, impl_isByte_x), (112, impl_LaidOk_x), (174, impl_each_Fade_1_x)]) (E := E0) [] (tab_cons k_impl_isByte (tab_cons k_impl_LaidOk (tab_cons k_impl_each_Fade_1 tab_nil))) hm (by rw [hn]; decide +kernel) ?_
  try simp -implicitDefEqProofs (maxSteps := 2000000) [-selQ_sel]
  obtain ⟨v1, h_1, H⟩ := HS.bnd H
  try simp -implicitDefEqProofs (maxSteps := 2000000) [-selQ_sel, h_1]
  refine Hid.selQ (fun h_2 => ?_) (fun h_2 => ?_)
  · replace H := HS.cnd_t h_2 H
    try simp -implicitDefEqProofs (maxSteps := 2000000) [-selQ_sel, h_1, h_2]
    obtain ⟨v2, h_3, H⟩ := HS.bnd H
    try simp -implicitDefEqProofs (maxSteps := 2000000) [-selQ_sel, h_1, h_2, h_3]
    refine Hid.brV (fun h_4 => ?_) (fun h_4 => ?_)
    · replace H := HS.cnd_t h_4 H
      try simp -implicitDefEqProofs (maxSteps := 2000000) [-selQ_sel, h_1, h_2, h_3, h_4]
      obtain ⟨v3, h_5, H⟩ := HS.bnd H
      try simp -implicitDefEqProofs (maxSteps := 2000000) [-selQ_sel, h_1, h_2, h_3, h_4, h_5]
      have hr := (HS.some H).symm; subst hr
      refine Hid.mk ⟨_, Wk.refl _, ?_⟩
      try simp -implicitDefEqProofs (maxSteps := 2000000) [-selQ_sel, h_1, h_2, h_3, h_4, h_5]
    · replace H := HS.cnd_f h_4 H
      try simp -implicitDefEqProofs (maxSteps := 2000000) [-selQ_sel, h_1, h_2, h_3, h_4]
      have hr := (HS.some H).symm; subst hr
      refine Hid.mk ⟨_, Wk.refl _, ?_⟩
      try simp -implicitDefEqProofs (maxSteps := 2000000) [-selQ_sel, h_1, h_2, h_3, h_4]
  · replace H := HS.cnd_f h_2 H
    try simp -implicitDefEqProofs (maxSteps := 2000000) [-selQ_sel, h_1, h_2]
    have hr := (HS.some H).symm; subst hr
    refine Hid.mk ⟨_, Wk.refl _, ?_⟩
    try simp -implicitDefEqProofs (maxSteps := 2000000) [-selQ_sel, h_1, h_2]
theorem laws_eqMask_ok0 (hm : Try.prog.follows .mixedOrders = true) (k_laws_eqBox : Sound Try.prog 139 laws_eqBox_x) (k_laws_eqIntS : Sound Try.prog 56 laws_eqIntS_x) : Sound Try.prog 70 laws_eqMask_x := by
  refine xOf_sound fun q r h => ?_
  obtain ⟨a0, a1⟩ := q
  refine fn_ok E0 hm Try.func70 rfl (by decide +kernel) (by rfl) fun Γ hn hk => ?_
  dsimp only [laws_eqMask_e, laws_eqMask_v]
  replace hn : Γ.n = 17 := hn
  replace hk : Γ.k = 0 := hk
  have H : HS (laws_eqMask a0 a1) r := h
  clear h; unfold laws_eqMask at H
  try simp -implicitDefEqProofs at H
  refine Tr.of_vc (cl := tabC [(139, laws_eqBox_x), (56, laws_eqIntS_x)]) (E := E0) [] (tab_cons k_laws_eqBox (tab_cons k_laws_eqIntS tab_nil)) hm (by rw [hn]; decide +kernel) ?_
  try simp -implicitDefEqProofs (maxSteps := 2000000) [-selQ_sel]
  obtain ⟨v1, h_1, H⟩ := HS.bnd H
  try simp -implicitDefEqProofs (maxSteps := 2000000) [-selQ_sel, h_1]
  refine Hid.brV (fun h_2 => ?_) (fun h_2 => ?_)
  · replace H := HS.cnd_t h_2 H
    try simp -implicitDefEqProofs (maxSteps := 2000000) [-selQ_sel, h_1, h_2]
    obtain ⟨v2, h_3, H⟩ := HS.bnd H
    try simp -implicitDefEqProofs (maxSteps := 2000000) [-selQ_sel, h_1, h_2, h_3]
    refine Hid.brV (fun h_4 => ?_) (fun h_4 => ?_)
    · replace H := HS.cnd_t h_4 H
      try simp -implicitDefEqProofs (maxSteps := 2000000) [-selQ_sel, h_1, h_2, h_3, h_4]
      have hr := (HS.some H).symm; subst hr
      refine Hid.mk ⟨_, Wk.refl _, ?_⟩
      try simp -implicitDefEqProofs (maxSteps := 2000000) [-selQ_sel, h_1, h_2, h_3, h_4]
    · replace H := HS.cnd_f h_4 H
      try simp -implicitDefEqProofs (maxSteps := 2000000) [-selQ_sel, h_1, h_2, h_3, h_4]
      have hr := (HS.some H).symm; subst hr
      refine Hid.mk ⟨_, Wk.refl _, ?_⟩
      try simp -implicitDefEqProofs (maxSteps := 2000000) [-selQ_sel, h_1, h_2, h_3, h_4]
  · replace H := HS.cnd_f h_2 H
    try simp -implicitDefEqProofs (maxSteps := 2000000) [-selQ_sel, h_1, h_2]
    have hr := (HS.some H).symm; subst hr
    refine Hid.mk ⟨_, Wk.refl _, ?_⟩
    try simp -implicitDefEqProofs (maxSteps := 2000000) [-selQ_sel, h_1, h_2]
theorem impl_Laid_ok0 (hm : Try.prog.follows .mixedOrders = true) (k_impl_ColorOk : Sound Try.prog 180 impl_ColorOk_x) (k_impl_Times255 : Sound Try.prog 176 impl_Times255_x) : Sound Try.prog 228 impl_Laid_x := by
  refine xOf_sound fun q r h => ?_
  revert h; revert r; revert q; intro a0 r h
  refine fn_ok E0 hm Try.func228 rfl (by decide +kernel) (by rfl) fun Γ hn hk => ?_
  dsimp only [impl_Laid_e, impl_Laid_v]
  replace hn : Γ.n = 25 := hn
  replace hk : Γ.k = 0 := hk
  have H : HS (impl_Laid a0) r := h
  clear h; unfold impl_Laid at H
  try simp -implicitDefEqProofs at H
  refine Tr.of_vc (cl := tabC [(180, impl_ColorOk_x), (176, impl_Times255_x)]) (E := E0) [] (tab_cons k_impl_ColorOk (tab_cons k_impl_Times255 tab_nil)) hm (by rw [hn]; decide +kernel) ?_
  try simp -implicitDefEqProofs +decide (maxSteps := 2000000) [-selQ_sel, hokQ_of]
  obtain ⟨v1, h_1, H⟩ := HS.bnd H
  try simp -implicitDefEqProofs +decide (maxSteps := 2000000) [-selQ_sel, hokQ_of, h_1]
  refine Hid.brV (fun h_2 => ?_) (fun h_2 => ?_)
  · replace H := HS.cnd_t h_2 H
    try simp -implicitDefEqProofs +decide (maxSteps := 2000000) [-selQ_sel, hokQ_of, h_1, h_2]
    obtain ⟨v2, h_3, H⟩ := HS.bnd H
    try simp -implicitDefEqProofs +decide (maxSteps := 2000000) [-selQ_sel, hokQ_of, h_1, h_2, h_3]
    obtain ⟨v3, h_4, H⟩ := HS.bnd H
    try simp -implicitDefEqProofs +decide (maxSteps := 2000000) [-selQ_sel, hokQ_of, h_1, h_2, h_3, h_4]
    obtain ⟨v4, h_5, H⟩ := HS.bnd H
    try simp -implicitDefEqProofs +decide (maxSteps := 2000000) [-selQ_sel, hokQ_of, h_1, h_2, h_3, h_4, h_5]
    have hr := (HS.some H).symm; subst hr
    refine Hid.mk ⟨_, Wk.refl _, ?_⟩
    try simp -implicitDefEqProofs +decide (maxSteps := 2000000) [-selQ_sel, hokQ_of, h_1, h_2, h_3, h_4, h_5]
  · replace H := HS.cnd_f h_2 H
    try simp -implicitDefEqProofs +decide (maxSteps := 2000000) [-selQ_sel, hokQ_of, h_1, h_2]
    have hr := (HS.some H).symm; subst hr
    refine Hid.mk ⟨_, Wk.refl _, ?_⟩
    try simp -implicitDefEqProofs +decide (maxSteps := 2000000) [-selQ_sel, hokQ_of, h_1, h_2]
theorem slices_Clone_Color_ok0 (hm : Try.prog.follows .mixedOrders = true) : Sound Try.prog 172 slices_Clone_Color_x := by
  refine xOf_sound fun q r h => ?_
  revert h; revert r; revert q; intro a0 r h
  refine fn_ok E0 hm Try.func172 rfl (by decide +kernel) (by rfl) fun Γ hn hk => ?_
  dsimp only [slices_Clone_Color_e, slices_Clone_Color_v]
  replace hn : Γ.n = 8 := hn
  replace hk : Γ.k = 0 := hk
  have H : HS (slices_Clone_Color a0) r := h
  clear h; unfold slices_Clone_Color at H
  obtain ⟨h_1, H⟩ := HS.chkP H
  have hr := (HS.some H).symm; subst hr
  refine Tr.of_vc (cl := tabC []) (E := E0) [1] tab_nil hm (by rw [hn]; decide +kernel) ?_
  simp -implicitDefEqProofs [-selQ_sel]
  refine Hid.mk (Tr_nil (E := E0) tab_nil (h1 := rfl) (hd1 := fun d h => by cases h; rw [hn]; decide) (ho := rfl) (hg := rfl) (hd := rfl) (hdn := by rw [hn]; decide) (hu := elt_48) (hx := rfl) fun b hb => ?_)
  refine Tr.of_vc (cl := tabC []) (E := E0) [] tab_nil hm (by rw [hn]; decide +kernel) ?_
  simp -implicitDefEqProofs [-selQ_sel, aft, putT]
  refine Hid.brV (fun h_2 => ?_) (fun h_2 => ?_)
  · simp -implicitDefEqProofs [-selQ_sel]
    have h_3 := hb h_2; simp at h_3; subst h_3
    refine Hid.mk ⟨_, Wk.refl _, ?_⟩
    simp -implicitDefEqProofs [-selQ_sel, h_1]
    refine ⟨⟨[(2, AV.osl 0 0 0 0)], [(0, Ob.arr 4 (List.map eColor []) false)], 1⟩, Wk.ofk [0] hk (by rfl) (by simp -implicitDefEqProofs) (by simp -implicitDefEqProofs), ?_⟩
    simp -implicitDefEqProofs [-selQ_sel, h_1]
  · simp -implicitDefEqProofs [-selQ_sel]
    refine Hid.mk ⟨_, Wk.refl _, ?_⟩
    simp -implicitDefEqProofs [-selQ_sel, h_1]
    refine ⟨⟨[(2, AV.osl 0 0 (List.length a0) (List.length a0))], [(0, Ob.arr 4 (List.map eColor a0) false)], 1⟩, Wk.ofk [0] hk (by rfl) (by simp -implicitDefEqProofs) (by simp -implicitDefEqProofs), ?_⟩
    simp -implicitDefEqProofs [-selQ_sel, h_1]
theorem impl_Mask_bitsAt_ok0 (hm : Try.prog.follows .mixedOrders = true) (k_impl_InBox : Sound Try.prog 188 impl_InBox_x) : Sound Try.prog 118 impl_Mask_bitsAt_x := by
  refine xOf_sound fun q r h => ?_
  obtain ⟨a0, a1, a2⟩ := q
  refine fn_ok E0 hm Try.func118 rfl (by decide +kernel) (by rfl) fun Γ hn hk => ?_
  dsimp only [impl_Mask_bitsAt_e, impl_Mask_bitsAt_v]
  replace hn : Γ.n = 49 := hn
  replace hk : Γ.k = 0 := hk
  have H : HS (impl_Mask_bitsAt a0 a1 a2) r := h
  clear h; unfold impl_Mask_bitsAt at H
  try simp -implicitDefEqProofs at H
  refine Tr.of_vc (cl := tabC [(188, impl_InBox_x)]) (E := E0) [] (tab_cons k_impl_InBox tab_nil) hm (by rw [hn]; decide +kernel) ?_
  try simp -implicitDefEqProofs +decide (maxSteps := 2000000) [-selQ_sel, hokQ_of]
  obtain ⟨v1, h_1, H⟩ := HS.bnd H
  try simp -implicitDefEqProofs +decide (maxSteps := 2000000) [-selQ_sel, hokQ_of, h_1]
  refine Hid.brV (fun h_2 => ?_) (fun h_2 => ?_)
  · replace H := HS.cnd_t h_2 H
    try simp -implicitDefEqProofs +decide (maxSteps := 2000000) [-selQ_sel, hokQ_of, h_1, h_2]
    obtain ⟨v2, h_3, H⟩ := HS.bnd H
    try simp -implicitDefEqProofs +decide (maxSteps := 2000000) [-selQ_sel, hokQ_of, h_1, h_2, h_3]
    have hr := (HS.some H).symm; subst hr
    refine Hid.mk ⟨_, Wk.refl _, ?_⟩
    try simp -implicitDefEqProofs +decide (maxSteps := 2000000) [-selQ_sel, hokQ_of, h_1, h_2, h_3]
  · replace H := HS.cnd_f h_2 H
    try simp -implicitDefEqProofs +decide (maxSteps := 2000000) [-selQ_sel, hokQ_of, h_1, h_2]
    have hr := (HS.some H).symm; subst hr
    refine Hid.mk ⟨_, Wk.refl _, ?_⟩
    try simp -implicitDefEqProofs +decide (maxSteps := 2000000) [-selQ_sel, hokQ_of, h_1, h_2]
theorem impl_Clamp_ok0 (hm : Try.prog.follows .mixedOrders = true) : Sound Try.prog 219 impl_Clamp_x := by
  refine xOf_sound fun q r h => ?_
  obtain ⟨a0, a1, a2⟩ := q
  refine fn_ok E0 hm Try.func219 rfl (by decide +kernel) (by rfl) fun Γ hn hk => ?_
  dsimp only [impl_Clamp_e, impl_Clamp_v]
  replace hn : Γ.n = 18 := hn
  replace hk : Γ.k = 0 := hk
  have H : HS (impl_Clamp a0 a1 a2) r := h
  clear h; unfold impl_Clamp at H
  try simp -implicitDefEqProofs at H
  refine Tr.of_vc (cl := tabC []) (E := E0) [] tab_nil hm (by rw [hn]; decide +kernel) ?_
  try simp -implicitDefEqProofs (maxSteps := 2000000) [-selQ_sel]
  refine Hid.brV (fun h_1 => ?_) (fun h_1 => ?_)
  · replace H := HS.cnd_t h_1 H
    try simp -implicitDefEqProofs (maxSteps := 2000000) [-selQ_sel, h_1]
    refine Hid.brV (fun h_2 => ?_) (fun h_2 => ?_)
    · replace H := HS.cnd_t h_2 H
      try simp -implicitDefEqProofs (maxSteps := 2000000) [-selQ_sel, h_1, h_2]
      have hr := (HS.some H).symm; subst hr
      refine Hid.mk ⟨_, Wk.refl _, ?_⟩
      try simp -implicitDefEqProofs (maxSteps := 2000000) [-selQ_sel, h_1, h_2]
    · replace H := HS.cnd_f h_2 H
      try simp -implicitDefEqProofs (maxSteps := 2000000) [-selQ_sel, h_1, h_2]
      have hr := (HS.some H).symm; subst hr
      refine Hid.mk ⟨_, Wk.refl _, ?_⟩
      try simp -implicitDefEqProofs (maxSteps := 2000000) [-selQ_sel, h_1, h_2]
  · replace H := HS.cnd_f h_1 H
    try simp -implicitDefEqProofs (maxSteps := 2000000) [-selQ_sel, h_1]
    have hr := (HS.some H).symm; subst hr
    refine Hid.mk ⟨_, Wk.refl _, ?_⟩
    try simp -implicitDefEqProofs (maxSteps := 2000000) [-selQ_sel, h_1]
theorem spec_PointOk_ok0 (hm : Try.prog.follows .mixedOrders = true) (k_spec_l01In : Sound Try.prog 73 spec_l01In_x) : Sound Try.prog 196 spec_PointOk_x := by
  refine xOf_sound fun q r h => ?_
  revert h; revert r; revert q; intro a0 r h
  refine fn_ok E0 hm Try.func196 rfl (by decide +kernel) (by rfl) fun Γ hn hk => ?_
  dsimp only [spec_PointOk_e, spec_PointOk_v]
  replace hn : Γ.n = 11 := hn
  replace hk : Γ.k = 0 := hk
  have H : HS (spec_PointOk a0) r := h
  clear h; unfold spec_PointOk at H
  try simp -implicitDefEqProofs at H
  refine Tr.of_vc (cl := tabC [(73, spec_l01In_x)]) (E := E0) [] (tab_cons k_spec_l01In tab_nil) hm (by rw [hn]; decide +kernel) ?_
  try simp -implicitDefEqProofs (maxSteps := 2000000) [-selQ_sel]
  obtain ⟨v1, h_1, H⟩ := HS.bnd H
  try simp -implicitDefEqProofs (maxSteps := 2000000) [-selQ_sel, h_1]
  refine Hid.selQ (fun h_2 => ?_) (fun h_2 => ?_)
  · replace H := HS.cnd_t h_2 H
    try simp -implicitDefEqProofs (maxSteps := 2000000) [-selQ_sel, h_1, h_2]
    obtain ⟨v2, h_3, H⟩ := HS.bnd H
    try simp -implicitDefEqProofs (maxSteps := 2000000) [-selQ_sel, h_1, h_2, h_3]
    have hr := (HS.some H).symm; subst hr
    refine Hid.mk ⟨_, Wk.refl _, ?_⟩
    try simp -implicitDefEqProofs (maxSteps := 2000000) [-selQ_sel, h_1, h_2, h_3]
  · replace H := HS.cnd_f h_2 H
    try simp -implicitDefEqProofs (maxSteps := 2000000) [-selQ_sel, h_1, h_2]
    have hr := (HS.some H).symm; subst hr
    refine Hid.mk ⟨_, Wk.refl _, ?_⟩
    try simp -implicitDefEqProofs (maxSteps := 2000000) [-selQ_sel, h_1, h_2]
theorem laws_toMask_ok0 (hm : Try.prog.follows .mixedOrders = true) (k_laws_toBox : Sound Try.prog 137 laws_toBox_x) (k_laws_toIntS : Sound Try.prog 86 laws_toIntS_x) : Sound Try.prog 68 laws_toMask_x := by
  refine xOf_sound fun q r h => ?_
  revert h; revert r; revert q; intro a0 r h
  refine fn_ok E0 hm Try.func68 rfl (by decide +kernel) (by rfl) fun Γ hn hk => ?_
  dsimp only [laws_toMask_e, laws_toMask_v]
  replace hn : Γ.n = 13 := hn
  replace hk : Γ.k = 0 := hk
  have H : HS (laws_toMask a0) r := h
  clear h; unfold laws_toMask at H
  try simp -implicitDefEqProofs at H
  refine Tr.of_vc (cl := tabC [(137, laws_toBox_x), (86, laws_toIntS_x)]) (E := E0) [] (tab_cons k_laws_toBox (tab_cons k_laws_toIntS tab_nil)) hm (by rw [hn]; decide +kernel) ?_
  try simp -implicitDefEqProofs (maxSteps := 2000000) [-selQ_sel]
  obtain ⟨v1, h_1, H⟩ := HS.bnd H
  try simp -implicitDefEqProofs (maxSteps := 2000000) [-selQ_sel, h_1]
  obtain ⟨v2, h_2, H⟩ := HS.bnd H
  try simp -implicitDefEqProofs (maxSteps := 2000000) [-selQ_sel, h_1, h_2]
  have hr := (HS.some H).symm; subst hr
  refine Hid.mk ⟨⟨[(2, AV.optr 0 0 5)], [(0, Ob.box [AV.int .i64 v1.x0, AV.int .i64 v1.y0, AV.int .i64 v1.x1, AV.int .i64 v1.y1, AV.osl 1 0 (List.length v2) (List.length v2)]), (1, Ob.arr 1 (List.map (AV.int .i64) v2) false)], 2⟩, Wk.ofk [1, 3] hk (by rfl) (by simp -implicitDefEqProofs [h_1, h_2]) (by simp -implicitDefEqProofs [h_1, h_2]), ?_⟩
  try simp -implicitDefEqProofs (maxSteps := 2000000) [-selQ_sel, h_1, h_2]
theorem impl_each_Thin_1_ok0 (hm : Try.prog.follows .mixedOrders = true) (k_impl_Thin_1 : Sound Try.prog 227 impl_Thin_1_x) : Sound Try.prog 174 impl_each_Thin_1_x := by
  refine xOf_sound fun q r h => ?_
  obtain ⟨a0, a1, a2⟩ := q
  refine fn_ok E0 hm Try.func174 rfl (by decide +kernel) (by rfl) fun Γ hn hk => ?_
  dsimp only [impl_each_Thin_1_e, impl_each_Thin_1_v]
  replace hn : Γ.n = 32 := hn
  replace hk : Γ.k = 0 := hk
  have H : HS (impl_each_Thin_1 a0 a1 a2) r := h
  clear h; unfold impl_each_Thin_1 at H
  try simp -implicitDefEqProofs at H
  refine Tr.of_vc (cl := tabC [(227, impl_Thin_1_x)]) (E := E0) [] (tab_cons k_impl_Thin_1 tab_nil) hm (by rw [hn]; decide +kernel) ?_
  try simp -implicitDefEqProofs +decide (maxSteps := 2000000) [-selQ_sel, hokQ_of]
  obtain ⟨v1, h_1, H⟩ := HS.bnd H
  try simp -implicitDefEqProofs +decide (maxSteps := 2000000) [-selQ_sel, hokQ_of, h_1]
  obtain ⟨v2, h_2, H⟩ := HS.bnd H
  try simp -implicitDefEqProofs +decide (maxSteps := 2000000) [-selQ_sel, hokQ_of, h_1, h_2]
  obtain ⟨v3, h_3, H⟩ := HS.bnd H
  try simp -implicitDefEqProofs +decide (maxSteps := 2000000) [-selQ_sel, hokQ_of, h_1, h_2, h_3]
  obtain ⟨v4, h_4, H⟩ := HS.bnd H
  try simp -implicitDefEqProofs +decide (maxSteps := 2000000) [-selQ_sel, hokQ_of, h_1, h_2, h_3, h_4]
  have hr := (HS.some H).symm; subst hr
  refine Hid.mk ⟨_, Wk.refl _, ?_⟩
  try simp -implicitDefEqProofs +decide (maxSteps := 2000000) [-selQ_sel, hokQ_of, h_1, h_2, h_3, h_4]
theorem laws_heldSurface_ok0 (hm : Try.prog.follows .mixedOrders = true) (k_laws_heldColorS : Sound Try.prog 144 laws_heldColorS_x) : Sound Try.prog 65 laws_heldSurface_x := by
  refine xOf_sound fun q r h => ?_
  obtain ⟨a0, a1⟩ := q
  refine fn_ok E0 hm Try.func65 rfl (by decide +kernel) (by rfl) fun Γ hn hk => ?_
  dsimp only [laws_heldSurface_e, laws_heldSurface_v]
  replace hn : Γ.n = 12 := hn
  replace hk : Γ.k = 0 := hk
  have H : HS (laws_heldSurface a0 a1) r := h
  clear h; unfold laws_heldSurface at H
  try simp -implicitDefEqProofs at H
  refine Tr.of_vc (cl := tabC [(144, laws_heldColorS_x)]) (E := E0) [] (tab_cons k_laws_heldColorS tab_nil) hm (by rw [hn]; decide +kernel) ?_
  try simp -implicitDefEqProofs (maxSteps := 2000000) [-selQ_sel]
  obtain ⟨v1, h_1, H⟩ := HS.bnd H
  try simp -implicitDefEqProofs (maxSteps := 2000000) [-selQ_sel, h_1]
  refine Hid.brV (fun h_2 => ?_) (fun h_2 => ?_)
  · replace H := HS.cnd_t h_2 H
    try simp -implicitDefEqProofs (maxSteps := 2000000) [-selQ_sel, h_1, h_2]
    have hr := (HS.some H).symm; subst hr
    refine Hid.mk ⟨_, Wk.refl _, ?_⟩
    try simp -implicitDefEqProofs (maxSteps := 2000000) [-selQ_sel, h_1, h_2]
  · replace H := HS.cnd_f h_2 H
    try simp -implicitDefEqProofs (maxSteps := 2000000) [-selQ_sel, h_1, h_2]
    have hr := (HS.some H).symm; subst hr
    refine Hid.mk ⟨_, Wk.refl _, ?_⟩
    try simp -implicitDefEqProofs (maxSteps := 2000000) [-selQ_sel, h_1, h_2]
theorem spec_CountOf_ok0 (hm : Try.prog.follows .mixedOrders = true) (k_spec_l01In : Sound Try.prog 73 spec_l01In_x) : Sound Try.prog 46 spec_CountOf_x := by
  refine xOf_sound fun q r h => ?_
  revert h; revert r; revert q; intro a0 r h
  refine fn_ok E0 hm Try.func46 rfl (by decide +kernel) (by rfl) fun Γ hn hk => ?_
  dsimp only [spec_CountOf_e, spec_CountOf_v]
  replace hn : Γ.n = 19 := hn
  replace hk : Γ.k = 0 := hk
  have H : HS (spec_CountOf a0) r := h
  clear h; unfold spec_CountOf at H
  try simp -implicitDefEqProofs at H
  refine Tr.of_vc (cl := tabC [(73, spec_l01In_x)]) (E := E0) [] (tab_cons k_spec_l01In tab_nil) hm (by rw [hn]; decide +kernel) ?_
  try simp -implicitDefEqProofs (maxSteps := 2000000) [-selQ_sel]
  obtain ⟨v1, h_1, H⟩ := HS.bnd H
  try simp -implicitDefEqProofs (maxSteps := 2000000) [-selQ_sel, h_1]
  refine Hid.brV (fun h_2 => ?_) (fun h_2 => ?_)
  · replace H := HS.cnd_t h_2 H
    try simp -implicitDefEqProofs (maxSteps := 2000000) [-selQ_sel, h_1, h_2]
    have hr := (HS.some H).symm; subst hr
    refine Hid.mk ⟨_, Wk.refl _, ?_⟩
    try simp -implicitDefEqProofs (maxSteps := 2000000) [-selQ_sel, h_1, h_2]
  · replace H := HS.cnd_f h_2 H
    try simp -implicitDefEqProofs (maxSteps := 2000000) [-selQ_sel, h_1, h_2]
    have hr := (HS.some H).symm; subst hr
    refine Hid.mk ⟨_, Wk.refl _, ?_⟩
    try simp -implicitDefEqProofs (maxSteps := 2000000) [-selQ_sel, h_1, h_2]
theorem spec_Times255_ok0 (hm : Try.prog.follows .mixedOrders = true) (k_spec_Clamp : Sound Try.prog 194 spec_Clamp_x) (k_spec_RoundDiv : Sound Try.prog 124 spec_RoundDiv_x) : Sound Try.prog 123 spec_Times255_x := by
  refine xOf_sound fun q r h => ?_
  obtain ⟨a0, a1⟩ := q
  refine fn_ok E0 hm Try.func123 rfl (by decide +kernel) (by rfl) fun Γ hn hk => ?_
  dsimp only [spec_Times255_e, spec_Times255_v]
  replace hn : Γ.n = 11 := hn
  replace hk : Γ.k = 0 := hk
  have H : HS (spec_Times255 a0 a1) r := h
  clear h; unfold spec_Times255 at H
  try simp -implicitDefEqProofs at H
  refine Tr.of_vc (cl := tabC [(194, spec_Clamp_x), (124, spec_RoundDiv_x)]) (E := E0) [] (tab_cons k_spec_Clamp (tab_cons k_spec_RoundDiv tab_nil)) hm (by rw [hn]; decide +kernel) ?_
  try simp -implicitDefEqProofs (maxSteps := 2000000) [-selQ_sel]
  obtain ⟨v1, h_1, H⟩ := HS.bnd H
  try simp -implicitDefEqProofs (maxSteps := 2000000) [-selQ_sel, h_1]
  obtain ⟨v2, h_2, H⟩ := HS.bnd H
  try simp -implicitDefEqProofs (maxSteps := 2000000) [-selQ_sel, h_1, h_2]
  obtain ⟨v3, h_3, H⟩ := HS.bnd H
  try simp -implicitDefEqProofs (maxSteps := 2000000) [-selQ_sel, h_1, h_2, h_3]
  have hr := (HS.some H).symm; subst hr
  refine Hid.mk ⟨_, Wk.refl _, ?_⟩
  try simp -implicitDefEqProofs (maxSteps := 2000000) [-selQ_sel, h_1, h_2, h_3]
theorem impl_copySurface_ok0 (hm : Try.prog.follows .mixedOrders = true) (k_slices_Clone_Color : Sound Try.prog 172 slices_Clone_Color_x) : Sound Try.prog 103 impl_copySurface_x := by
  refine xOf_sound fun q r h => ?_
  revert h; revert r; revert q; intro a0 r h
  refine fn_ok E0 hm Try.func103 rfl (by decide +kernel) (by rfl) fun Γ hn hk => ?_
  dsimp only [impl_copySurface_e, impl_copySurface_v]
  replace hn : Γ.n = 8 := hn
  replace hk : Γ.k = 0 := hk
  have H : HS (impl_copySurface a0) r := h
  clear h; unfold impl_copySurface at H
  try simp -implicitDefEqProofs at H
  refine Tr.of_vc (cl := tabC [(172, slices_Clone_Color_x)]) (E := E0) [] (tab_cons k_slices_Clone_Color tab_nil) hm (by rw [hn]; decide +kernel) ?_
  try simp -implicitDefEqProofs (maxSteps := 2000000) [-selQ_sel]
  obtain ⟨v1, h_1, H⟩ := HS.bnd H
  try simp -implicitDefEqProofs (maxSteps := 2000000) [-selQ_sel, h_1]
  have hr := (HS.some H).symm; subst hr
  refine Hid.mk ⟨⟨[(2, AV.optr 0 0 3)], [(0, Ob.box [AV.int .i64 a0.w, AV.int .i64 a0.h, AV.osl 1 0 (List.length v1) (List.length v1)]), (1, Ob.arr 4 (List.map eColor v1) false)], 2⟩, Wk.ofk [1, 2] hk (by rfl) (by simp -implicitDefEqProofs [h_1]) (by simp -implicitDefEqProofs [h_1]), ?_⟩
  try simp -implicitDefEqProofs (maxSteps := 2000000) [-selQ_sel, h_1]
theorem laws_szColorS_ok0 (hm : Try.prog.follows .mixedOrders = true) : Sound Try.prog 140 laws_szColorS_x := by
  refine xOf_sound fun q r h => ?_
  obtain ⟨a0, a1⟩ := q
  refine fn_ok E0 hm Try.func140 rfl (by decide +kernel) (by rfl) fun Γ hn hk => ?_
  dsimp only [laws_szColorS_e, laws_szColorS_v]
  replace hn : Γ.n = 12 := hn
  replace hk : Γ.k = 0 := hk
  have H : HS (laws_szColorS a0 a1) r := h
  clear h; unfold laws_szColorS at H
  try simp -implicitDefEqProofs at H
  refine Tr.of_vc (cl := tabC []) (E := E0) [] tab_nil hm (by rw [hn]; decide +kernel) ?_
  try simp -implicitDefEqProofs (maxSteps := 2000000) [-selQ_sel]
  refine Hid.brV (fun h_1 => ?_) (fun h_1 => ?_)
  · replace H := HS.cnd_t h_1 H
    try simp -implicitDefEqProofs (maxSteps := 2000000) [-selQ_sel, h_1]
    have hr := (HS.some H).symm; subst hr
    refine Hid.mk ⟨_, Wk.refl _, ?_⟩
    try simp -implicitDefEqProofs (maxSteps := 2000000) [-selQ_sel, h_1]
  · replace H := HS.cnd_f h_1 H
    try simp -implicitDefEqProofs (maxSteps := 2000000) [-selQ_sel, h_1]
    have hr := (HS.some H).symm; subst hr
    refine Hid.mk ⟨_, Wk.refl _, ?_⟩
    try simp -implicitDefEqProofs (maxSteps := 2000000) [-selQ_sel, h_1]
theorem spec_l01In_ok0 (hm : Try.prog.follows .mixedOrders = true) : Sound Try.prog 73 spec_l01In_x := by
  refine xOf_sound fun q r h => ?_
  obtain ⟨a0, a1, a2⟩ := q
  refine fn_ok E0 hm Try.func73 rfl (by decide +kernel) (by rfl) fun Γ hn hk => ?_
  dsimp only [spec_l01In_e, spec_l01In_v]
  replace hn : Γ.n = 15 := hn
  replace hk : Γ.k = 0 := hk
  have H : HS (spec_l01In a0 a1 a2) r := h
  clear h; unfold spec_l01In at H
  try simp -implicitDefEqProofs at H
  refine Tr.of_vc (cl := tabC []) (E := E0) [] tab_nil hm (by rw [hn]; decide +kernel) ?_
  try simp -implicitDefEqProofs (maxSteps := 2000000) [-selQ_sel]
  refine Hid.selQ (fun h_1 => ?_) (fun h_1 => ?_)
  · replace H := HS.cnd_t h_1 H
    try simp -implicitDefEqProofs (maxSteps := 2000000) [-selQ_sel, h_1]
    have hr := (HS.some H).symm; subst hr
    refine Hid.mk ⟨_, Wk.refl _, ?_⟩
    try simp -implicitDefEqProofs (maxSteps := 2000000) [-selQ_sel, h_1]
  · replace H := HS.cnd_f h_1 H
    try simp -implicitDefEqProofs (maxSteps := 2000000) [-selQ_sel, h_1]
    have hr := (HS.some H).symm; subst hr
    refine Hid.mk ⟨_, Wk.refl _, ?_⟩
    try simp -implicitDefEqProofs (maxSteps := 2000000) [-selQ_sel, h_1]
theorem laws_markMask_ok0 (hm : Try.prog.follows .mixedOrders = true) (k_laws_markIntS : Sound Try.prog 59 laws_markIntS_x) : Sound Try.prog 71 laws_markMask_x := by
  refine xOf_sound fun q r h => ?_
  obtain ⟨a0, a1, a2⟩ := q
  refine fn_ok E0 hm Try.func71 rfl (by decide +kernel) (by rfl) fun Γ hn hk => ?_
  dsimp only [laws_markMask_e, laws_markMask_v]
  replace hn : Γ.n = 10 := hn
  replace hk : Γ.k = 1 := hk
  have H : HS (laws_markMask a0 a1 a2) r := h
  clear h; unfold laws_markMask at H
  try simp -implicitDefEqProofs at H
  refine Tr.of_vc (cl := tabC [(59, laws_markIntS_x)]) (E := E0) [] (tab_cons k_laws_markIntS tab_nil) hm (by rw [hn]; decide +kernel) ?_
  try simp -implicitDefEqProofs (maxSteps := 2000000) [-selQ_sel]
  obtain ⟨⟨w2, w3⟩, h_1, H⟩ := HS.bnd H
  dsimp only at H
  have g_2 := laws_markIntS_n h_1
  try simp -implicitDefEqProofs (maxSteps := 2000000) [-selQ_sel, h_1, g_2]
  have hr := (HS.some H).symm; subst hr
  refine Hid.mk ⟨_, Wk.refl _, ?_⟩
  try simp -implicitDefEqProofs (maxSteps := 2000000) [-selQ_sel, h_1, g_2]
theorem impl_isMode_ok0 (hm : Try.prog.follows .mixedOrders = true) (k_impl_inRange : Sound Try.prog 76 impl_inRange_x) : Sound Try.prog 173 impl_isMode_x := by
  refine xOf_sound fun q r h => ?_
  revert h; revert r; revert q; intro a0 r h
  refine fn_ok E0 hm Try.func173 rfl (by decide +kernel) (by rfl) fun Γ hn hk => ?_
  dsimp only [impl_isMode_e, impl_isMode_v]
  replace hn : Γ.n = 5 := hn
  replace hk : Γ.k = 0 := hk
  have H : HS (impl_isMode a0) r := h
  clear h; unfold impl_isMode at H
  try simp -implicitDefEqProofs at H
  refine Tr.of_vc (cl := tabC [(76, impl_inRange_x)]) (E := E0) [] (tab_cons k_impl_inRange tab_nil) hm (by rw [hn]; decide +kernel) ?_
  try simp -implicitDefEqProofs (maxSteps := 2000000) [-selQ_sel]
  obtain ⟨v1, h_1, H⟩ := HS.bnd H
  try simp -implicitDefEqProofs (maxSteps := 2000000) [-selQ_sel, h_1]
  have hr := (HS.some H).symm; subst hr
  refine Hid.mk ⟨_, Wk.refl _, ?_⟩
  try simp -implicitDefEqProofs (maxSteps := 2000000) [-selQ_sel, h_1]
theorem impl_isFar_ok0 (hm : Try.prog.follows .mixedOrders = true) (k_impl_inRange : Sound Try.prog 76 impl_inRange_x) : Sound Try.prog 226 impl_isFar_x := by
  refine xOf_sound fun q r h => ?_
  revert h; revert r; revert q; intro a0 r h
  refine fn_ok E0 hm Try.func226 rfl (by decide +kernel) (by rfl) fun Γ hn hk => ?_
  dsimp only [impl_isFar_e, impl_isFar_v]
  replace hn : Γ.n = 5 := hn
  replace hk : Γ.k = 0 := hk
  have H : HS (impl_isFar a0) r := h
  clear h; unfold impl_isFar at H
  try simp -implicitDefEqProofs at H
  refine Tr.of_vc (cl := tabC [(76, impl_inRange_x)]) (E := E0) [] (tab_cons k_impl_inRange tab_nil) hm (by rw [hn]; decide +kernel) ?_
  try simp -implicitDefEqProofs (maxSteps := 2000000) [-selQ_sel]
  obtain ⟨v1, h_1, H⟩ := HS.bnd H
  try simp -implicitDefEqProofs (maxSteps := 2000000) [-selQ_sel, h_1]
  have hr := (HS.some H).symm; subst hr
  refine Hid.mk ⟨_, Wk.refl _, ?_⟩
  try simp -implicitDefEqProofs (maxSteps := 2000000) [-selQ_sel, h_1]
theorem impl_Surface_box_ok0 (hm : Try.prog.follows .mixedOrders = true) : Sound Try.prog 105 impl_Surface_box_x := by
  refine xOf_sound fun q r h => ?_
  revert h; revert r; revert q; intro a0 r h
  refine fn_ok E0 hm Try.func105 rfl (by decide +kernel) (by rfl) fun Γ hn hk => ?_
  dsimp only [impl_Surface_box_e, impl_Surface_box_v]
  replace hn : Γ.n = 12 := hn
  replace hk : Γ.k = 0 := hk
  have H : HS (impl_Surface_box a0) r := h
  clear h; unfold impl_Surface_box at H
  try simp -implicitDefEqProofs at H
  refine Tr.of_vc (cl := tabC []) (E := E0) [] tab_nil hm (by rw [hn]; decide +kernel) ?_
  try simp -implicitDefEqProofs +decide (maxSteps := 2000000) [-selQ_sel, hokQ_of]
  have hr := (HS.some H).symm; subst hr
  refine Hid.mk ⟨_, Wk.refl _, ?_⟩
  try simp -implicitDefEqProofs +decide (maxSteps := 2000000) [-selQ_sel, hokQ_of]
theorem laws_toColor_ok0 (hm : Try.prog.follows .mixedOrders = true) : Sound Try.prog 145 laws_toColor_x := by
  refine xOf_sound fun q r h => ?_
  revert h; revert r; revert q; intro a0 r h
  refine fn_ok E0 hm Try.func145 rfl (by decide +kernel) (by rfl) fun Γ hn hk => ?_
  dsimp only [laws_toColor_e, laws_toColor_v]
  replace hn : Γ.n = 17 := hn
  replace hk : Γ.k = 0 := hk
  have H : HS (laws_toColor a0) r := h
  clear h; unfold laws_toColor at H
  try simp -implicitDefEqProofs at H
  refine Tr.of_vc (cl := tabC []) (E := E0) [] tab_nil hm (by rw [hn]; decide +kernel) ?_
  try simp -implicitDefEqProofs (maxSteps := 2000000) [-selQ_sel]
  have hr := (HS.some H).symm; subst hr
  refine Hid.mk ⟨_, Wk.refl _, ?_⟩
  try simp -implicitDefEqProofs (maxSteps := 2000000) [-selQ_sel]
end Go.Proofs.Ytoafihhhdnmliaa.Am
