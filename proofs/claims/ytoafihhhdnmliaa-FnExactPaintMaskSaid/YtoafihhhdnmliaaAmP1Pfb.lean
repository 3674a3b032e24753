import Derived.Test.YtoafihhhdnmliaaAmP1Mo
set_option linter.unusedVariables false
set_option linter.unusedSimpArgs false
set_option linter.unusedSectionVars false
namespace Go.Proofs.Ytoafihhhdnmliaa.Am
open Go Go.Proofs
set_option maxRecDepth 100000
set_option linter.unusedSimpArgs false
set_option linter.unusedVariables false
set_option maxHeartbeats 4000000
theorem spec_PaintMask_ok0 (hm : Try.prog.follows .mixedOrders = true) (k_spec_l14Copy : Sound Try.prog 113 spec_l14Copy_x) (k_spec_SurfaceOk : Sound Try.prog 82 spec_SurfaceOk_x) (k_spec_MaskOk : Sound Try.prog 74 spec_MaskOk_x) (k_spec_PaintOk : Sound Try.prog 125 spec_PaintOk_x) (k_spec_l11Bits : Sound Try.prog 120 spec_l11Bits_x) (k_spec_ColorAt : Sound Try.prog 45 spec_ColorAt_x) (k_spec_CountOf : Sound Try.prog 46 spec_CountOf_x) (k_spec_Thin : Sound Try.prog 44 spec_Thin_x) (k_spec_Fade : Sound Try.prog 43 spec_Fade_x) (k_spec_Blend : Sound Try.prog 42 spec_Blend_x) : Sound Try.prog 67 spec_PaintMask_x := by
  refine xOf_sound fun q r h => ?_
  obtain ⟨a0, a1, a2, a3, a4⟩ := q
  refine fn_ok E0 hm Try.func67 rfl (by decide +kernel) (by rfl) fun Γ hn hk => ?_
  dsimp only [spec_PaintMask_e, spec_PaintMask_v]
  replace hn : Γ.n = 82 := hn
  replace hk : Γ.k = 0 := hk
  have H : HS (spec_PaintMask a0 a1 a2 a3 a4) r := h
  clear h; unfold spec_PaintMask at H
  try simp -implicitDefEqProofs at H
  refine Tr.of_vc (cl := tabC [(113, spec_l14Copy_x), (82, spec_SurfaceOk_x), (74, spec_MaskOk_x), (125, spec_PaintOk_x), (120, spec_l11Bits_x), (45, spec_ColorAt_x), (46, spec_CountOf_x), (44, spec_Thin_x), (43, spec_Fade_x), (42, spec_Blend_x)]) (E := E0) [] (tab_cons k_spec_l14Copy (tab_cons k_spec_SurfaceOk (tab_cons k_spec_MaskOk (tab_cons k_spec_PaintOk (tab_cons k_spec_l11Bits (tab_cons k_spec_ColorAt (tab_cons k_spec_CountOf (tab_cons k_spec_Thin (tab_cons k_spec_Fade (tab_cons k_spec_Blend tab_nil)))))))))) hm (by rw [hn]; decide +kernel) ?_
  try simp -implicitDefEqProofs +decide (maxSteps := 2000000) [-selQ_sel, hokQ_of]
  obtain ⟨⟨w2, w3, w4⟩, h_1, H⟩ := HS.bnd H
  dsimp only at H
  try simp -implicitDefEqProofs +decide (maxSteps := 2000000) [-selQ_sel, hokQ_of, h_1]
  obtain ⟨v5, h_2, H⟩ := HS.bnd H
  try simp -implicitDefEqProofs +decide (maxSteps := 2000000) [-selQ_sel, hokQ_of, h_1, h_2]
  refine Hid.selQ (fun h_3 => ?_) (fun h_3 => ?_)
  · replace H := HS.cnd_t h_3 H
    try simp -implicitDefEqProofs +decide (maxSteps := 2000000) [-selQ_sel, hokQ_of, h_1, h_2, h_3]
    obtain ⟨v6, h_4, H⟩ := HS.bnd H
    try simp -implicitDefEqProofs +decide (maxSteps := 2000000) [-selQ_sel, hokQ_of, h_1, h_2, h_3, h_4]
    refine Hid.selQ (fun h_5 => ?_) (fun h_5 => ?_)
    · replace H := HS.cnd_t h_5 H
      try simp -implicitDefEqProofs +decide (maxSteps := 2000000) [-selQ_sel, hokQ_of, h_1, h_2, h_3, h_4, h_5]
      obtain ⟨v7, h_6, H⟩ := HS.bnd H
      try simp -implicitDefEqProofs +decide (maxSteps := 2000000) [-selQ_sel, hokQ_of, h_1, h_2, h_3, h_4, h_5, h_6]
      refine Hid.brV (fun h_7 => ?_) (fun h_7 => ?_)
      · replace H := HS.cnd_t h_7 H
        try simp -implicitDefEqProofs +decide (maxSteps := 2000000) [-selQ_sel, hokQ_of, h_1, h_2, h_3, h_4, h_5, h_6, h_7]
        obtain ⟨q, h_8, H⟩ := HS.bnd H
        refine Hid.mk (Tr.weak (s' := (spec_PaintMask_l1_S a0 a1 a2 a3 a4 w2 w3) (0, w4)) (Wk.ofk [0, 1, 2, 3, 5, 4] hk (by rfl) (by simp -implicitDefEqProofs [spec_PaintMask_l1_S, h_1, h_2, h_3, h_4, h_5, h_6, h_7]) (by simp -implicitDefEqProofs [spec_PaintMask_l1_S, h_1, h_2, h_3, h_4, h_5, h_6, h_7])) ?_)
        refine wp_loop_of (S := (spec_PaintMask_l1_S a0 a1 a2 a3 a4 w2 w3)) (f := (spec_PaintMask_l1 a0 a1 a2 a3 a4 w2 w3)) (xt := (spec_PaintMask_l1_X a0 a1 a2 a3 a4 w2 w3)) ?_ ?_ h_8 ?_
        · intro q; simp [spec_PaintMask_l1_X]
        · clear H h_8 q
          rintro ⟨x29, x30⟩ o R hf hR
          have H : HS (spec_PaintMask_l1 a0 a1 a2 a3 a4 w2 w3 (x29, x30)) o := hf
          clear hf; unfold spec_PaintMask_l1 at H
          try simp -implicitDefEqProofs at H
          refine Tr.of_vc (cl := tabC [(113, spec_l14Copy_x), (82, spec_SurfaceOk_x), (74, spec_MaskOk_x), (125, spec_PaintOk_x), (120, spec_l11Bits_x), (45, spec_ColorAt_x), (46, spec_CountOf_x), (44, spec_Thin_x), (43, spec_Fade_x), (42, spec_Blend_x)]) (E := E0) [] (tab_cons k_spec_l14Copy (tab_cons k_spec_SurfaceOk (tab_cons k_spec_MaskOk (tab_cons k_spec_PaintOk (tab_cons k_spec_l11Bits (tab_cons k_spec_ColorAt (tab_cons k_spec_CountOf (tab_cons k_spec_Thin (tab_cons k_spec_Fade (tab_cons k_spec_Blend tab_nil)))))))))) hm (by rw [hn]; decide +kernel) ?_
          try simp -implicitDefEqProofs +decide (maxSteps := 2000000) [-selQ_sel, hokQ_of, spec_PaintMask_l1_S]
          refine Hid.brV (fun h_9 => ?_) (fun h_9 => ?_)
          · replace H := HS.cnd_t h_9 H
            try simp -implicitDefEqProofs +decide (maxSteps := 2000000) [-selQ_sel, hokQ_of, h_9]
            have hr := (HS.some H).symm; subst hr
            exact Hid.mk ⟨(spec_PaintMask_l1_X a0 a1 a2 a3 a4 w2 w3 x30).2, Wk.ofk [3, 4, 5] hk (by rfl) (by simp -implicitDefEqProofs [spec_PaintMask_l1_X, h_9]) (by simp -implicitDefEqProofs [spec_PaintMask_l1_X, h_9]), hR⟩
          · replace H := HS.cnd_f h_9 H
            try simp -implicitDefEqProofs +decide (maxSteps := 2000000) [-selQ_sel, hokQ_of, h_9]
            obtain ⟨q, h_10, H⟩ := HS.bnd H
            refine Hid.mk (Tr.weak (s' := (spec_PaintMask_l0_S a0 a1 a2 a3 a4 w2 w3 x29) (0, x30)) (Wk.ofk [0, 1, 2, 3, 4, 5] hk (by rfl) (by simp -implicitDefEqProofs [spec_PaintMask_l0_S, h_9]) (by simp -implicitDefEqProofs [spec_PaintMask_l0_S, h_9])) ?_)
            refine wp_loop_of (S := (spec_PaintMask_l0_S a0 a1 a2 a3 a4 w2 w3 x29)) (f := (spec_PaintMask_l0 a0 a1 a2 a3 a4 w2 w3 x29)) (xt := (spec_PaintMask_l0_X a0 a1 a2 a3 a4 w2 w3 x29)) ?_ ?_ h_10 ?_
            · intro q; simp [spec_PaintMask_l0_X]
            · clear H h_10 q
              rintro ⟨x40, x41⟩ o R hf hR
              have H : HS (spec_PaintMask_l0 a0 a1 a2 a3 a4 w2 w3 x29 (x40, x41)) o := hf
              clear hf; unfold spec_PaintMask_l0 at H
              try simp -implicitDefEqProofs at H
              refine Tr.of_vc (cl := tabC [(113, spec_l14Copy_x), (82, spec_SurfaceOk_x), (74, spec_MaskOk_x), (125, spec_PaintOk_x), (120, spec_l11Bits_x), (45, spec_ColorAt_x), (46, spec_CountOf_x), (44, spec_Thin_x), (43, spec_Fade_x), (42, spec_Blend_x)]) (E := E0) [] (tab_cons k_spec_l14Copy (tab_cons k_spec_SurfaceOk (tab_cons k_spec_MaskOk (tab_cons k_spec_PaintOk (tab_cons k_spec_l11Bits (tab_cons k_spec_ColorAt (tab_cons k_spec_CountOf (tab_cons k_spec_Thin (tab_cons k_spec_Fade (tab_cons k_spec_Blend tab_nil)))))))))) hm (by rw [hn]; decide +kernel) ?_
              try simp -implicitDefEqProofs +decide (maxSteps := 2000000) [-selQ_sel, hokQ_of, spec_PaintMask_l0_S]
              refine Hid.brV (fun h_11 => ?_) (fun h_11 => ?_)
              · replace H := HS.cnd_t h_11 H
                try simp -implicitDefEqProofs +decide (maxSteps := 2000000) [-selQ_sel, hokQ_of, h_11]
                have hr := (HS.some H).symm; subst hr
                exact Hid.mk ⟨(spec_PaintMask_l0_X a0 a1 a2 a3 a4 w2 w3 x29 x41).2, Wk.ofk [0, 1, 2, 3, 4, 5] hk (by rfl) (by simp -implicitDefEqProofs [spec_PaintMask_l0_X, h_11]) (by simp -implicitDefEqProofs [spec_PaintMask_l0_X, h_11]), hR⟩
              · replace H := HS.cnd_f h_11 H
                try simp -implicitDefEqProofs +decide (maxSteps := 2000000) [-selQ_sel, hokQ_of, h_11]
                obtain ⟨v42, h_12, H⟩ := HS.bnd H
                try simp -implicitDefEqProofs +decide (maxSteps := 2000000) [-selQ_sel, hokQ_of, h_11, h_12]
                refine Hid.brV (fun h_13 => ?_) (fun h_13 => ?_)
                · replace H := HS.cnd_t h_13 H
                  try simp -implicitDefEqProofs +decide (maxSteps := 2000000) [-selQ_sel, hokQ_of, h_11, h_12, h_13]
                  have hr := (HS.some H).symm; subst hr
                  exact Hid.mk ⟨spec_PaintMask_l0_S a0 a1 a2 a3 a4 w2 w3 x29 ((IntKind.i64.wrap (x40 + 1)), x41), Wk.ofk [0, 1, 2, 3, 4, 5] hk (by rfl) (by simp -implicitDefEqProofs [spec_PaintMask_l0_S, h_11, h_12, h_13]) (by simp -implicitDefEqProofs [spec_PaintMask_l0_S, h_11, h_12, h_13]), hR⟩
                · replace H := HS.cnd_f h_13 H
                  try simp -implicitDefEqProofs +decide (maxSteps := 2000000) [-selQ_sel, hokQ_of, h_11, h_12, h_13]
                  obtain ⟨v43, h_14, H⟩ := HS.bnd H
                  try simp -implicitDefEqProofs +decide (maxSteps := 2000000) [-selQ_sel, hokQ_of, h_11, h_12, h_13, h_14]
                  obtain ⟨v44, h_15, H⟩ := HS.bnd H
                  try simp -implicitDefEqProofs +decide (maxSteps := 2000000) [-selQ_sel, hokQ_of, h_11, h_12, h_13, h_14, h_15]
                  obtain ⟨v45, h_16, H⟩ := HS.bnd H
                  try simp -implicitDefEqProofs +decide (maxSteps := 2000000) [-selQ_sel, hokQ_of, h_11, h_12, h_13, h_14, h_15, h_16]
                  obtain ⟨v46, h_17, H⟩ := HS.bnd H
                  try simp -implicitDefEqProofs +decide (maxSteps := 2000000) [-selQ_sel, hokQ_of, h_11, h_12, h_13, h_14, h_15, h_16, h_17]
                  obtain ⟨v47, h_18, H⟩ := HS.bnd H
                  try simp -implicitDefEqProofs +decide (maxSteps := 2000000) [-selQ_sel, hokQ_of, h_11, h_12, h_13, h_14, h_15, h_16, h_17, h_18]
                  obtain ⟨v48, h_19, H⟩ := HS.bnd H
                  try simp -implicitDefEqProofs +decide (maxSteps := 2000000) [-selQ_sel, hokQ_of, h_11, h_12, h_13, h_14, h_15, h_16, h_17, h_18, h_19]
                  obtain ⟨v49, h_20, H⟩ := HS.bnd H
                  have g_21 := idx_get h_20
                  try simp -implicitDefEqProofs +decide (maxSteps := 2000000) [-selQ_sel, hokQ_of, h_11, h_12, h_13, h_14, h_15, h_16, h_17, h_18, h_19, h_20, g_21]
                  obtain ⟨l50, h_22, H⟩ := HS.nam H
                  have m_23 := congrArg (List.map eColor) h_22
                  have q_24 := congrArg List.length h_22
                  simp -implicitDefEqProofs at m_23 q_24
                  try simp only [q_24] at m_23
                  try simp only [q_24] at g_21
                  try simp -implicitDefEqProofs +decide (maxSteps := 2000000) [-selQ_sel, hokQ_of, h_11, h_12, h_13, h_14, h_15, h_16, h_17, h_18, h_19, h_20, g_21, m_23, q_24]
                  have hr := (HS.some H).symm; subst hr
                  exact Hid.mk ⟨spec_PaintMask_l0_S a0 a1 a2 a3 a4 w2 w3 x29 ((IntKind.i64.wrap (x40 + 1)), l50), Wk.ofk [0, 1, 2, 3, 4, 5] hk (by rfl) (by simp -implicitDefEqProofs [spec_PaintMask_l0_S, h_11, h_12, h_13, h_14, h_15, h_16, h_17, h_18, h_19, h_20, g_21, m_23, q_24]) (by simp -implicitDefEqProofs [spec_PaintMask_l0_S, h_11, h_12, h_13, h_14, h_15, h_16, h_17, h_18, h_19, h_20, g_21, m_23, q_24]), hR⟩
            · revert H h_10; revert q; intro y51 h_10 H
              try dsimp only at H
              try simp -implicitDefEqProofs +decide (maxSteps := 2000000) [-selQ_sel, hokQ_of, h_9, spec_PaintMask_l0_X]
              have hr := (HS.some H).symm; subst hr
              exact Hid.mk ⟨spec_PaintMask_l1_S a0 a1 a2 a3 a4 w2 w3 ((IntKind.i64.wrap (x29 + 1)), y51), Wk.ofk [0, 1, 2, 3, 4, 5] hk (by rfl) (by simp -implicitDefEqProofs [spec_PaintMask_l1_S, h_9]) (by simp -implicitDefEqProofs [spec_PaintMask_l1_S, h_9]), hR⟩
        · revert H h_8; revert q; intro y52 h_8 H
          try dsimp only at H
          try simp -implicitDefEqProofs +decide (maxSteps := 2000000) [-selQ_sel, hokQ_of, h_1, h_2, h_3, h_4, h_5, h_6, h_7, spec_PaintMask_l1_X]
          have hr := (HS.some H).symm; subst hr
          refine Hid.mk ⟨_, Wk.refl _, ?_⟩
          try simp -implicitDefEqProofs +decide (maxSteps := 2000000) [-selQ_sel, hokQ_of, h_1, h_2, h_3, h_4, h_5, h_6, h_7]
      · replace H := HS.cnd_f h_7 H
        try simp -implicitDefEqProofs +decide (maxSteps := 2000000) [-selQ_sel, hokQ_of, h_1, h_2, h_3, h_4, h_5, h_6, h_7]
        have hr := (HS.some H).symm; subst hr
        refine Hid.mk ⟨_, Wk.refl _, ?_⟩
        try simp -implicitDefEqProofs +decide (maxSteps := 2000000) [-selQ_sel, hokQ_of, h_1, h_2, h_3, h_4, h_5, h_6, h_7]
    · replace H := HS.cnd_f h_5 H
      try simp -implicitDefEqProofs +decide (maxSteps := 2000000) [-selQ_sel, hokQ_of, h_1, h_2, h_3, h_4, h_5]
      have hr := (HS.some H).symm; subst hr
      refine Hid.mk ⟨_, Wk.refl _, ?_⟩
      try simp -implicitDefEqProofs +decide (maxSteps := 2000000) [-selQ_sel, hokQ_of, h_1, h_2, h_3, h_4, h_5]
  · replace H := HS.cnd_f h_3 H
    try simp -implicitDefEqProofs +decide (maxSteps := 2000000) [-selQ_sel, hokQ_of, h_1, h_2, h_3]
    have hr := (HS.some H).symm; subst hr
    refine Hid.mk ⟨_, Wk.refl _, ?_⟩
    try simp -implicitDefEqProofs +decide (maxSteps := 2000000) [-selQ_sel, hokQ_of, h_1, h_2, h_3]
theorem impl_SurfaceOk_ok0 (hm : Try.prog.follows .mixedOrders = true) (k_impl_isSide : Sound Try.prog 102 impl_isSide_x) (k_impl_LaidOk : Sound Try.prog 112 impl_LaidOk_x) : Sound Try.prog 34 impl_SurfaceOk_x := by
  refine xOf_sound fun q r h => ?_
  revert h; revert r; revert q; intro a0 r h
  refine fn_ok E0 hm Try.func34 rfl (by decide +kernel) (by rfl) fun Γ hn hk => ?_
  dsimp only [impl_SurfaceOk_e, impl_SurfaceOk_v]
  replace hn : Γ.n = 37 := hn
  replace hk : Γ.k = 0 := hk
  have H : HS (impl_SurfaceOk a0) r := h
  clear h; unfold impl_SurfaceOk at H
  try simp -implicitDefEqProofs at H
  refine Tr.of_vc (cl := tabC [(102, impl_isSide_x), (112, impl_LaidOk_x)]) (E := E0) [] (tab_cons k_impl_isSide (tab_cons k_impl_LaidOk tab_nil)) hm (by rw [hn]; decide +kernel) ?_
  try simp -implicitDefEqProofs (maxSteps := 2000000) [-selQ_sel]
  obtain ⟨v1, h_1, H⟩ := HS.bnd H
  try simp -implicitDefEqProofs (maxSteps := 2000000) [-selQ_sel, h_1]
  refine Hid.selQ (fun h_2 => ?_) (fun h_2 => ?_)
  · replace H := HS.cnd_t h_2 H
    try simp -implicitDefEqProofs (maxSteps := 2000000) [-selQ_sel, h_1, h_2]
    obtain ⟨v2, h_3, H⟩ := HS.bnd H
    try simp -implicitDefEqProofs (maxSteps := 2000000) [-selQ_sel, h_1, h_2, h_3]
    refine Hid.selQ (fun h_4 => ?_) (fun h_4 => ?_)
    · replace H := HS.cnd_t h_4 H
      try simp -implicitDefEqProofs (maxSteps := 2000000) [-selQ_sel, h_1, h_2, h_3, h_4]
      refine Hid.brV (fun h_5 => ?_) (fun h_5 => ?_)
      · replace H := HS.cnd_t h_5 H
        try simp -implicitDefEqProofs (maxSteps := 2000000) [-selQ_sel, h_1, h_2, h_3, h_4, h_5]
        obtain ⟨q, h_6, H⟩ := HS.bnd H
        refine Hid.mk (Tr.weak (s' := (impl_SurfaceOk_l0_S a0) 0) (Wk.ofk [] hk (by rfl) (by simp -implicitDefEqProofs [impl_SurfaceOk_l0_S, h_1, h_2, h_3, h_4, h_5]) (by simp -implicitDefEqProofs [impl_SurfaceOk_l0_S, h_1, h_2, h_3, h_4, h_5])) ?_)
        refine wp_loop_of (S := (impl_SurfaceOk_l0_S a0)) (f := (impl_SurfaceOk_l0 a0)) (xt := (impl_SurfaceOk_l0_X a0)) ?_ ?_ h_6 ?_
        · intro q; rcases q with ⟨⟩ | ⟨⟩ <;> simp [impl_SurfaceOk_l0_X]
        · clear H h_6 q
          rintro x5 o R hf hR
          have H : HS (impl_SurfaceOk_l0 a0 x5) o := hf
          clear hf; unfold impl_SurfaceOk_l0 at H
          try simp -implicitDefEqProofs at H
          refine Tr.of_vc (cl := tabC [(102, impl_isSide_x), (112, impl_LaidOk_x)]) (E := E0) [] (tab_cons k_impl_isSide (tab_cons k_impl_LaidOk tab_nil)) hm (by rw [hn]; decide +kernel) ?_
          try simp -implicitDefEqProofs (maxSteps := 2000000) [-selQ_sel, impl_SurfaceOk_l0_S]
          refine Hid.brV (fun h_7 => ?_) (fun h_7 => ?_)
          · replace H := HS.cnd_t h_7 H
            try simp -implicitDefEqProofs (maxSteps := 2000000) [-selQ_sel, h_7]
            have hr := (HS.some H).symm; subst hr
            exact Hid.mk ⟨(impl_SurfaceOk_l0_X a0 (.inl ())).2, Wk.ofk [] hk (by rfl) (by simp -implicitDefEqProofs [impl_SurfaceOk_l0_X, h_7]) (by simp -implicitDefEqProofs [impl_SurfaceOk_l0_X, h_7]), hR⟩
          · replace H := HS.cnd_f h_7 H
            try simp -implicitDefEqProofs (maxSteps := 2000000) [-selQ_sel, h_7]
            obtain ⟨v6, h_8, H⟩ := HS.bnd H
            try simp -implicitDefEqProofs (maxSteps := 2000000) [-selQ_sel, h_7, h_8]
            obtain ⟨v7, h_9, H⟩ := HS.bnd H
            try simp -implicitDefEqProofs (maxSteps := 2000000) [-selQ_sel, h_7, h_8, h_9]
            refine Hid.brV (fun h_10 => ?_) (fun h_10 => ?_)
            · replace H := HS.cnd_t h_10 H
              try simp -implicitDefEqProofs (maxSteps := 2000000) [-selQ_sel, h_7, h_8, h_9, h_10]
              have hr := (HS.some H).symm; subst hr
              exact Hid.mk ⟨impl_SurfaceOk_l0_S a0 (IntKind.i64.wrap (x5 + 1)), Wk.ofk [] hk (by rfl) (by simp -implicitDefEqProofs [impl_SurfaceOk_l0_S, h_7, h_8, h_9, h_10]) (by simp -implicitDefEqProofs [impl_SurfaceOk_l0_S, h_7, h_8, h_9, h_10]), hR⟩
            · replace H := HS.cnd_f h_10 H
              try simp -implicitDefEqProofs (maxSteps := 2000000) [-selQ_sel, h_7, h_8, h_9, h_10]
              have hr := (HS.some H).symm; subst hr
              exact Hid.mk ⟨(impl_SurfaceOk_l0_X a0 (.inr ())).2, Wk.ofk [] hk (by rfl) (by simp -implicitDefEqProofs [impl_SurfaceOk_l0_X, h_7, h_8, h_9, h_10]) (by simp -implicitDefEqProofs [impl_SurfaceOk_l0_X, h_7, h_8, h_9, h_10]), hR⟩
        · rcases q with ⟨⟩ | ⟨⟩
          · dsimp only at H
            try simp -implicitDefEqProofs (maxSteps := 2000000) [-selQ_sel, h_1, h_2, h_3, h_4, h_5, impl_SurfaceOk_l0_X]
            have hr := (HS.some H).symm; subst hr
            refine Hid.mk ⟨_, Wk.refl _, ?_⟩
            try simp -implicitDefEqProofs (maxSteps := 2000000) [-selQ_sel, h_1, h_2, h_3, h_4, h_5]
          · dsimp only at H
            try simp -implicitDefEqProofs (maxSteps := 2000000) [-selQ_sel, h_1, h_2, h_3, h_4, h_5, impl_SurfaceOk_l0_X]
            have hr := (HS.some H).symm; subst hr
            refine Hid.mk ⟨_, Wk.refl _, ?_⟩
            try simp -implicitDefEqProofs (maxSteps := 2000000) [-selQ_sel, h_1, h_2, h_3, h_4, h_5]
      · replace H := HS.cnd_f h_5 H
        try simp -implicitDefEqProofs (maxSteps := 2000000) [-selQ_sel, h_1, h_2, h_3, h_4, h_5]
        have hr := (HS.some H).symm; subst hr
        refine Hid.mk ⟨_, Wk.refl _, ?_⟩
        try simp -implicitDefEqProofs (maxSteps := 2000000) [-selQ_sel, h_1, h_2, h_3, h_4, h_5]
    · replace H := HS.cnd_f h_4 H
      try simp -implicitDefEqProofs (maxSteps := 2000000) [-selQ_sel, h_1, h_2, h_3, h_4]
      have hr := (HS.some H).symm; subst hr
      refine Hid.mk ⟨_, Wk.refl _, ?_⟩
      try simp -implicitDefEqProofs (maxSteps := 2000000) [-selQ_sel, h_1, h_2, h_3, h_4]
  · replace H := HS.cnd_f h_2 H
    try simp -implicitDefEqProofs (maxSteps := 2000000) [-selQ_sel, h_1, h_2]
    have hr := (HS.some H).symm; subst hr
    refine Hid.mk ⟨_, Wk.refl _, ?_⟩
    try simp -implicitDefEqProofs (maxSteps := 2000000) [-selQ_sel, h_1, h_2]
theorem impl_MaskOk_ok0 (hm : Try.prog.follows .mixedOrders = true) (k_impl_isMaskBox : Sound Try.prog 152 impl_isMaskBox_x) (k_impl_inRange : Sound Try.prog 76 impl_inRange_x) : Sound Try.prog 78 impl_MaskOk_x := by
  refine xOf_sound fun q r h => ?_
  revert h; revert r; revert q; intro a0 r h
  refine fn_ok E0 hm Try.func78 rfl (by decide +kernel) (by rfl) fun Γ hn hk => ?_
  dsimp only [impl_MaskOk_e, impl_MaskOk_v]
  replace hn : Γ.n = 49 := hn
  replace hk : Γ.k = 0 := hk
  have H : HS (impl_MaskOk a0) r := h
  clear h; unfold impl_MaskOk at H
  try simp -implicitDefEqProofs at H
  refine Tr.of_vc (cl := tabC [(152, impl_isMaskBox_x), (76, impl_inRange_x)]) (E := E0) [] (tab_cons k_impl_isMaskBox (tab_cons k_impl_inRange tab_nil)) hm (by rw [hn]; decide +kernel) ?_
  try simp -implicitDefEqProofs (maxSteps := 2000000) [-selQ_sel]
  refine Hid.brV (fun h_1 => ?_) (fun h_1 => ?_)
  · replace H := HS.cnd_t h_1 H
    try simp -implicitDefEqProofs (maxSteps := 2000000) [-selQ_sel, h_1]
    have hr := (HS.some H).symm; subst hr
    refine Hid.mk ⟨_, Wk.refl _, ?_⟩
    try simp -implicitDefEqProofs (maxSteps := 2000000) [-selQ_sel, h_1]
  · replace H := HS.cnd_f h_1 H
    try simp -implicitDefEqProofs (maxSteps := 2000000) [-selQ_sel, h_1]
    obtain ⟨v1, h_2, H⟩ := HS.bnd H
    try simp -implicitDefEqProofs (maxSteps := 2000000) [-selQ_sel, h_1, h_2]
    refine Hid.selQ (fun h_3 => ?_) (fun h_3 => ?_)
    · replace H := HS.cnd_t h_3 H
      try simp -implicitDefEqProofs (maxSteps := 2000000) [-selQ_sel, h_1, h_2, h_3]
      refine Hid.brV (fun h_4 => ?_) (fun h_4 => ?_)
      · replace H := HS.cnd_t h_4 H
        try simp -implicitDefEqProofs (maxSteps := 2000000) [-selQ_sel, h_1, h_2, h_3, h_4]
        obtain ⟨q, h_5, H⟩ := HS.bnd H
        refine Hid.mk (Tr.weak (s' := (impl_MaskOk_l0_S a0) 0) (Wk.ofk [] hk (by rfl) (by simp -implicitDefEqProofs [impl_MaskOk_l0_S, h_1, h_2, h_3, h_4]) (by simp -implicitDefEqProofs [impl_MaskOk_l0_S, h_1, h_2, h_3, h_4])) ?_)
        refine wp_loop_of (S := (impl_MaskOk_l0_S a0)) (f := (impl_MaskOk_l0 a0)) (xt := (impl_MaskOk_l0_X a0)) ?_ ?_ h_5 ?_
        · intro q; rcases q with ⟨⟩ | ⟨⟩ <;> simp [impl_MaskOk_l0_X]
        · clear H h_5 q
          rintro x4 o R hf hR
          have H : HS (impl_MaskOk_l0 a0 x4) o := hf
          clear hf; unfold impl_MaskOk_l0 at H
          try simp -implicitDefEqProofs at H
          refine Tr.of_vc (cl := tabC [(152, impl_isMaskBox_x), (76, impl_inRange_x)]) (E := E0) [] (tab_cons k_impl_isMaskBox (tab_cons k_impl_inRange tab_nil)) hm (by rw [hn]; decide +kernel) ?_
          try simp -implicitDefEqProofs (maxSteps := 2000000) [-selQ_sel, impl_MaskOk_l0_S]
          refine Hid.brV (fun h_6 => ?_) (fun h_6 => ?_)
          · replace H := HS.cnd_t h_6 H
            try simp -implicitDefEqProofs (maxSteps := 2000000) [-selQ_sel, h_6]
            have hr := (HS.some H).symm; subst hr
            exact Hid.mk ⟨(impl_MaskOk_l0_X a0 (.inl ())).2, Wk.ofk [] hk (by rfl) (by simp -implicitDefEqProofs [impl_MaskOk_l0_X, h_6]) (by simp -implicitDefEqProofs [impl_MaskOk_l0_X, h_6]), hR⟩
          · replace H := HS.cnd_f h_6 H
            try simp -implicitDefEqProofs (maxSteps := 2000000) [-selQ_sel, h_6]
            obtain ⟨v5, h_7, H⟩ := HS.bnd H
            try simp -implicitDefEqProofs (maxSteps := 2000000) [-selQ_sel, h_6, h_7]
            obtain ⟨v6, h_8, H⟩ := HS.bnd H
            try simp -implicitDefEqProofs (maxSteps := 2000000) [-selQ_sel, h_6, h_7, h_8]
            refine Hid.brV (fun h_9 => ?_) (fun h_9 => ?_)
            · replace H := HS.cnd_t h_9 H
              try simp -implicitDefEqProofs (maxSteps := 2000000) [-selQ_sel, h_6, h_7, h_8, h_9]
              have hr := (HS.some H).symm; subst hr
              exact Hid.mk ⟨impl_MaskOk_l0_S a0 (IntKind.i64.wrap (x4 + 1)), Wk.ofk [] hk (by rfl) (by simp -implicitDefEqProofs [impl_MaskOk_l0_S, h_6, h_7, h_8, h_9]) (by simp -implicitDefEqProofs [impl_MaskOk_l0_S, h_6, h_7, h_8, h_9]), hR⟩
            · replace H := HS.cnd_f h_9 H
              try simp -implicitDefEqProofs (maxSteps := 2000000) [-selQ_sel, h_6, h_7, h_8, h_9]
              have hr := (HS.some H).symm; subst hr
              exact Hid.mk ⟨(impl_MaskOk_l0_X a0 (.inr ())).2, Wk.ofk [] hk (by rfl) (by simp -implicitDefEqProofs [impl_MaskOk_l0_X, h_6, h_7, h_8, h_9]) (by simp -implicitDefEqProofs [impl_MaskOk_l0_X, h_6, h_7, h_8, h_9]), hR⟩
        · rcases q with ⟨⟩ | ⟨⟩
          · dsimp only at H
            try simp -implicitDefEqProofs (maxSteps := 2000000) [-selQ_sel, h_1, h_2, h_3, h_4, impl_MaskOk_l0_X]
            have hr := (HS.some H).symm; subst hr
            refine Hid.mk ⟨_, Wk.refl _, ?_⟩
            try simp -implicitDefEqProofs (maxSteps := 2000000) [-selQ_sel, h_1, h_2, h_3, h_4]
          · dsimp only at H
            try simp -implicitDefEqProofs (maxSteps := 2000000) [-selQ_sel, h_1, h_2, h_3, h_4, impl_MaskOk_l0_X]
            have hr := (HS.some H).symm; subst hr
            refine Hid.mk ⟨_, Wk.refl _, ?_⟩
            try simp -implicitDefEqProofs (maxSteps := 2000000) [-selQ_sel, h_1, h_2, h_3, h_4]
      · replace H := HS.cnd_f h_4 H
        try simp -implicitDefEqProofs (maxSteps := 2000000) [-selQ_sel, h_1, h_2, h_3, h_4]
        have hr := (HS.some H).symm; subst hr
        refine Hid.mk ⟨_, Wk.refl _, ?_⟩
        try simp -implicitDefEqProofs (maxSteps := 2000000) [-selQ_sel, h_1, h_2, h_3, h_4]
    · replace H := HS.cnd_f h_3 H
      try simp -implicitDefEqProofs (maxSteps := 2000000) [-selQ_sel, h_1, h_2, h_3]
      have hr := (HS.some H).symm; subst hr
      refine Hid.mk ⟨_, Wk.refl _, ?_⟩
      try simp -implicitDefEqProofs (maxSteps := 2000000) [-selQ_sel, h_1, h_2, h_3]
theorem impl_PaintOk_ok0 (hm : Try.prog.follows .mixedOrders = true) (k_impl_ColorOk : Sound Try.prog 180 impl_ColorOk_x) (k_impl_PointOk : Sound Try.prog 187 impl_PointOk_x) : Sound Try.prog 116 impl_PaintOk_x := by
  refine xOf_sound fun q r h => ?_
  revert h; revert r; revert q; intro a0 r h
  refine fn_ok E0 hm Try.func116 rfl (by decide +kernel) (by rfl) fun Γ hn hk => ?_
  dsimp only [impl_PaintOk_e, impl_PaintOk_v]
  replace hn : Γ.n = 44 := hn
  replace hk : Γ.k = 0 := hk
  have H : HS (impl_PaintOk a0) r := h
  clear h; unfold impl_PaintOk at H
  try simp -implicitDefEqProofs at H
  refine Tr.of_vc (cl := tabC [(180, impl_ColorOk_x), (187, impl_PointOk_x)]) (E := E0) [] (tab_cons k_impl_ColorOk (tab_cons k_impl_PointOk tab_nil)) hm (by rw [hn]; decide +kernel) ?_
  try simp -implicitDefEqProofs (maxSteps := 2000000) [-selQ_sel]
  refine Hid.brV (fun h_1 => ?_) (fun h_1 => ?_)
  · replace H := HS.cnd_t h_1 H
    try simp -implicitDefEqProofs (maxSteps := 2000000) [-selQ_sel, h_1]
    obtain ⟨v1, h_2, H⟩ := HS.bnd H
    try simp -implicitDefEqProofs (maxSteps := 2000000) [-selQ_sel, h_1, h_2]
    refine Hid.selQ (fun h_3 => ?_) (fun h_3 => ?_)
    · replace H := HS.cnd_t h_3 H
      try simp -implicitDefEqProofs (maxSteps := 2000000) [-selQ_sel, h_1, h_2, h_3]
      have hr := (HS.some H).symm; subst hr
      refine Hid.mk ⟨_, Wk.refl _, ?_⟩
      try simp -implicitDefEqProofs (maxSteps := 2000000) [-selQ_sel, h_1, h_2, h_3]
    · replace H := HS.cnd_f h_3 H
      try simp -implicitDefEqProofs (maxSteps := 2000000) [-selQ_sel, h_1, h_2, h_3]
      have hr := (HS.some H).symm; subst hr
      refine Hid.mk ⟨_, Wk.refl _, ?_⟩
      try simp -implicitDefEqProofs (maxSteps := 2000000) [-selQ_sel, h_1, h_2, h_3]
  · replace H := HS.cnd_f h_1 H
    try simp -implicitDefEqProofs (maxSteps := 2000000) [-selQ_sel, h_1]
    refine Hid.brV (fun h_4 => ?_) (fun h_4 => ?_)
    · replace H := HS.cnd_t h_4 H
      try simp -implicitDefEqProofs (maxSteps := 2000000) [-selQ_sel, h_1, h_4]
      obtain ⟨v2, h_5, H⟩ := HS.bnd H
      try simp -implicitDefEqProofs (maxSteps := 2000000) [-selQ_sel, h_1, h_4, h_5]
      refine Hid.selQ (fun h_6 => ?_) (fun h_6 => ?_)
      · replace H := HS.cnd_t h_6 H
        try simp -implicitDefEqProofs (maxSteps := 2000000) [-selQ_sel, h_1, h_4, h_5, h_6]
        obtain ⟨v3, h_7, H⟩ := HS.bnd H
        try simp -implicitDefEqProofs (maxSteps := 2000000) [-selQ_sel, h_1, h_4, h_5, h_6, h_7]
        refine Hid.selQ (fun h_8 => ?_) (fun h_8 => ?_)
        · replace H := HS.cnd_t h_8 H
          try simp -implicitDefEqProofs (maxSteps := 2000000) [-selQ_sel, h_1, h_4, h_5, h_6, h_7, h_8]
          obtain ⟨v4, h_9, H⟩ := HS.bnd H
          try simp -implicitDefEqProofs (maxSteps := 2000000) [-selQ_sel, h_1, h_4, h_5, h_6, h_7, h_8, h_9]
          refine Hid.selQ (fun h_10 => ?_) (fun h_10 => ?_)
          · replace H := HS.cnd_t h_10 H
            try simp -implicitDefEqProofs (maxSteps := 2000000) [-selQ_sel, h_1, h_4, h_5, h_6, h_7, h_8, h_9, h_10]
            obtain ⟨v5, h_11, H⟩ := HS.bnd H
            try simp -implicitDefEqProofs (maxSteps := 2000000) [-selQ_sel, h_1, h_4, h_5, h_6, h_7, h_8, h_9, h_10, h_11]
            refine Hid.selQ (fun h_12 => ?_) (fun h_12 => ?_)
            · replace H := HS.cnd_t h_12 H
              try simp -implicitDefEqProofs (maxSteps := 2000000) [-selQ_sel, h_1, h_4, h_5, h_6, h_7, h_8, h_9, h_10, h_11, h_12]
              have hr := (HS.some H).symm; subst hr
              refine Hid.mk ⟨_, Wk.refl _, ?_⟩
              try simp -implicitDefEqProofs (maxSteps := 2000000) [-selQ_sel, h_1, h_4, h_5, h_6, h_7, h_8, h_9, h_10, h_11, h_12]
            · replace H := HS.cnd_f h_12 H
              try simp -implicitDefEqProofs (maxSteps := 2000000) [-selQ_sel, h_1, h_4, h_5, h_6, h_7, h_8, h_9, h_10, h_11, h_12]
              have hr := (HS.some H).symm; subst hr
              refine Hid.mk ⟨_, Wk.refl _, ?_⟩
              try simp -implicitDefEqProofs (maxSteps := 2000000) [-selQ_sel, h_1, h_4, h_5, h_6, h_7, h_8, h_9, h_10, h_11, h_12]
          · replace H := HS.cnd_f h_10 H
            try simp -implicitDefEqProofs (maxSteps := 2000000) [-selQ_sel, h_1, h_4, h_5, h_6, h_7, h_8, h_9, h_10]
            have hr := (HS.some H).symm; subst hr
            refine Hid.mk ⟨_, Wk.refl _, ?_⟩
            try simp -implicitDefEqProofs (maxSteps := 2000000) [-selQ_sel, h_1, h_4, h_5, h_6, h_7, h_8, h_9, h_10]
        · replace H := HS.cnd_f h_8 H
          try simp -implicitDefEqProofs (maxSteps := 2000000) [-selQ_sel, h_1, h_4, h_5, h_6, h_7, h_8]
          have hr := (HS.some H).symm; subst hr
          refine Hid.mk ⟨_, Wk.refl _, ?_⟩
          try simp -implicitDefEqProofs (maxSteps := 2000000) [-selQ_sel, h_1, h_4, h_5, h_6, h_7, h_8]
      · replace H := HS.cnd_f h_6 H
        try simp -implicitDefEqProofs (maxSteps := 2000000) [-selQ_sel, h_1, h_4, h_5, h_6]
        have hr := (HS.some H).symm; subst hr
        refine Hid.mk ⟨_, Wk.refl _, ?_⟩
        try simp -implicitDefEqProofs (maxSteps := 2000000) [-selQ_sel, h_1, h_4, h_5, h_6]
    · replace H := HS.cnd_f h_4 H
      try simp -implicitDefEqProofs (maxSteps := 2000000) [-selQ_sel, h_1, h_4]
      have hr := (HS.some H).symm; subst hr
      refine Hid.mk ⟨_, Wk.refl _, ?_⟩
      try simp -implicitDefEqProofs (maxSteps := 2000000) [-selQ_sel, h_1, h_4]
theorem impl_PaintMask_ok0 (hm : Try.prog.follows .mixedOrders = true) (k_impl_copySurface : Sound Try.prog 103 impl_copySurface_x) (k_impl_SurfaceOk : Sound Try.prog 34 impl_SurfaceOk_x) (k_impl_MaskOk : Sound Try.prog 78 impl_MaskOk_x) (k_impl_PaintOk : Sound Try.prog 116 impl_PaintOk_x) (k_impl_Surface_paint_PaintMask_1 : Sound Try.prog 104 impl_Surface_paint_PaintMask_1_x) : Sound Try.prog 39 impl_PaintMask_x := by
  refine xOf_sound fun q r h => ?_
  obtain ⟨a0, a1, a2, a3, a4⟩ := q
  refine fn_ok E0 hm Try.func39 rfl (by decide +kernel) (by rfl) fun Γ hn hk => ?_
  dsimp only [impl_PaintMask_e, impl_PaintMask_v]
  replace hn : Γ.n = 33 := hn
  replace hk : Γ.k = 0 := hk
  have H : HS (impl_PaintMask a0 a1 a2 a3 a4) r := h
  clear h; unfold impl_PaintMask at H
  try simp -implicitDefEqProofs at H
  refine Tr.of_vc (cl := tabC [(103, impl_copySurface_x), (34, impl_SurfaceOk_x), (78, impl_MaskOk_x), (116, impl_PaintOk_x), (104, impl_Surface_paint_PaintMask_1_x)]) (E := E0) [] (tab_cons k_impl_copySurface (tab_cons k_impl_SurfaceOk (tab_cons k_impl_MaskOk (tab_cons k_impl_PaintOk (tab_cons k_impl_Surface_paint_PaintMask_1 tab_nil))))) hm (by rw [hn]; decide +kernel) ?_
  try simp -implicitDefEqProofs (maxSteps := 2000000) [-selQ_sel]
  obtain ⟨⟨w2, w3, w4⟩, h_1, H⟩ := HS.bnd H
  dsimp only at H
  try simp -implicitDefEqProofs (maxSteps := 2000000) [-selQ_sel, h_1]
  obtain ⟨v5, h_2, H⟩ := HS.bnd H
  try simp -implicitDefEqProofs (maxSteps := 2000000) [-selQ_sel, h_1, h_2]
  refine Hid.selQ (fun h_3 => ?_) (fun h_3 => ?_)
  · replace H := HS.cnd_t h_3 H
    try simp -implicitDefEqProofs (maxSteps := 2000000) [-selQ_sel, h_1, h_2, h_3]
    obtain ⟨v6, h_4, H⟩ := HS.bnd H
    try simp -implicitDefEqProofs (maxSteps := 2000000) [-selQ_sel, h_1, h_2, h_3, h_4]
    refine Hid.selQ (fun h_5 => ?_) (fun h_5 => ?_)
    · replace H := HS.cnd_t h_5 H
      try simp -implicitDefEqProofs (maxSteps := 2000000) [-selQ_sel, h_1, h_2, h_3, h_4, h_5]
      obtain ⟨v7, h_6, H⟩ := HS.bnd H
      try simp -implicitDefEqProofs (maxSteps := 2000000) [-selQ_sel, h_1, h_2, h_3, h_4, h_5, h_6]
      refine Hid.brV (fun h_7 => ?_) (fun h_7 => ?_)
      · replace H := HS.cnd_t h_7 H
        try simp -implicitDefEqProofs (maxSteps := 2000000) [-selQ_sel, h_1, h_2, h_3, h_4, h_5, h_6, h_7]
        obtain ⟨v8, h_8, H⟩ := HS.bnd H
        try simp -implicitDefEqProofs (maxSteps := 2000000) [-selQ_sel, h_1, h_2, h_3, h_4, h_5, h_6, h_7, h_8]
        have hr := (HS.some H).symm; subst hr
        refine Hid.mk ⟨⟨[(10, AV.optr 0 0 3)], [(0, Ob.box [AV.int .i64 w2, AV.int .i64 w3, AV.osl 1 0 (List.length v8) (List.length v8)]), (1, Ob.arr 4 (List.map eColor v8) false)], 2⟩, Wk.ofk [5, 6] hk (by rfl) (by simp -implicitDefEqProofs [h_1, h_2, h_3, h_4, h_5, h_6, h_7, h_8]) (by simp -implicitDefEqProofs [h_1, h_2, h_3, h_4, h_5, h_6, h_7, h_8]), ?_⟩
        try simp -implicitDefEqProofs (maxSteps := 2000000) [-selQ_sel, h_1, h_2, h_3, h_4, h_5, h_6, h_7, h_8]
      · replace H := HS.cnd_f h_7 H
        try simp -implicitDefEqProofs (maxSteps := 2000000) [-selQ_sel, h_1, h_2, h_3, h_4, h_5, h_6, h_7]
        have hr := (HS.some H).symm; subst hr
        refine Hid.mk ⟨⟨[(10, AV.optr 0 0 3)], [(0, Ob.box [AV.int .i64 w2, AV.int .i64 w3, AV.osl 1 0 (List.length w4) (List.length w4)]), (1, Ob.arr 4 (List.map eColor w4) false)], 2⟩, Wk.ofk [5, 6] hk (by rfl) (by simp -implicitDefEqProofs [h_1, h_2, h_3, h_4, h_5, h_6, h_7]) (by simp -implicitDefEqProofs [h_1, h_2, h_3, h_4, h_5, h_6, h_7]), ?_⟩
        try simp -implicitDefEqProofs (maxSteps := 2000000) [-selQ_sel, h_1, h_2, h_3, h_4, h_5, h_6, h_7]
    · replace H := HS.cnd_f h_5 H
      try simp -implicitDefEqProofs (maxSteps := 2000000) [-selQ_sel, h_1, h_2, h_3, h_4, h_5]
      have hr := (HS.some H).symm; subst hr
      refine Hid.mk ⟨⟨[(10, AV.optr 0 0 3)], [(0, Ob.box [AV.int .i64 w2, AV.int .i64 w3, AV.osl 1 0 (List.length w4) (List.length w4)]), (1, Ob.arr 4 (List.map eColor w4) false)], 2⟩, Wk.ofk [5, 6] hk (by rfl) (by simp -implicitDefEqProofs [h_1, h_2, h_3, h_4, h_5]) (by simp -implicitDefEqProofs [h_1, h_2, h_3, h_4, h_5]), ?_⟩
      try simp -implicitDefEqProofs (maxSteps := 2000000) [-selQ_sel, h_1, h_2, h_3, h_4, h_5]
  · replace H := HS.cnd_f h_3 H
    try simp -implicitDefEqProofs (maxSteps := 2000000) [-selQ_sel, h_1, h_2, h_3]
    have hr := (HS.some H).symm; subst hr
    refine Hid.mk ⟨⟨[(10, AV.optr 0 0 3)], [(0, Ob.box [AV.int .i64 w2, AV.int .i64 w3, AV.osl 1 0 (List.length w4) (List.length w4)]), (1, Ob.arr 4 (List.map eColor w4) false)], 2⟩, Wk.ofk [5, 6] hk (by rfl) (by simp -implicitDefEqProofs [h_1, h_2, h_3]) (by simp -implicitDefEqProofs [h_1, h_2, h_3]), ?_⟩
    try simp -implicitDefEqProofs (maxSteps := 2000000) [-selQ_sel, h_1, h_2, h_3]
theorem laws_toColorS_ok0 (hm : Try.prog.follows .mixedOrders = true) (k_laws_toColor : Sound Try.prog 145 laws_toColor_x) : Sound Try.prog 141 laws_toColorS_x := by
  refine xOf_sound fun q r h => ?_
  revert h; revert r; revert q; intro a0 r h
  refine fn_ok E0 hm Try.func141 rfl (by decide +kernel) (by rfl) fun Γ hn hk => ?_
  dsimp only [laws_toColorS_e, laws_toColorS_v]
  replace hn : Γ.n = 23 := hn
  replace hk : Γ.k = 0 := hk
  have H : HS (laws_toColorS a0) r := h
  clear h; unfold laws_toColorS at H
  try simp -implicitDefEqProofs at H
  refine Tr.of_vc (cl := tabC [(145, laws_toColor_x)]) (E := E0) [] (tab_cons k_laws_toColor tab_nil) hm (by rw [hn]; decide +kernel) ?_
  try simp -implicitDefEqProofs (maxSteps := 2000000) [-selQ_sel]
  obtain ⟨h_1, H⟩ := HS.chkP H
  try simp -implicitDefEqProofs (maxSteps := 2000000) [-selQ_sel, h_1]
  obtain ⟨l1, h_2, H⟩ := HS.nam H
  have m_3 := congrArg (List.map eColor) h_2
  have q_4 := congrArg List.length h_2
  simp -implicitDefEqProofs at m_3 q_4
  try simp only [q_4] at m_3
  try simp only [q_4] at h_1
  try simp -implicitDefEqProofs (maxSteps := 2000000) [-selQ_sel, h_1, m_3, q_4]
  obtain ⟨q, h_5, H⟩ := HS.bnd H
  refine Hid.mk (Tr.weak (s' := (laws_toColorS_l0_S a0) (0, l1)) (Wk.ofk [0] hk (by rfl) (by simp -implicitDefEqProofs [laws_toColorS_l0_S, h_1, m_3, q_4]) (by simp -implicitDefEqProofs [laws_toColorS_l0_S, h_1, m_3, q_4])) ?_)
  refine wp_loop_of (S := (laws_toColorS_l0_S a0)) (f := (laws_toColorS_l0 a0)) (xt := (laws_toColorS_l0_X a0)) ?_ ?_ h_5 ?_
  · intro q; simp [laws_toColorS_l0_X]
  · clear H h_5 q
    rintro ⟨x6, x7⟩ o R hf hR
    have H : HS (laws_toColorS_l0 a0 (x6, x7)) o := hf
    clear hf; unfold laws_toColorS_l0 at H
    try simp -implicitDefEqProofs at H
    refine Tr.of_vc (cl := tabC [(145, laws_toColor_x)]) (E := E0) [] (tab_cons k_laws_toColor tab_nil) hm (by rw [hn]; decide +kernel) ?_
    try simp -implicitDefEqProofs (maxSteps := 2000000) [-selQ_sel, laws_toColorS_l0_S]
    refine Hid.brV (fun h_6 => ?_) (fun h_6 => ?_)
    · replace H := HS.cnd_t h_6 H
      try simp -implicitDefEqProofs (maxSteps := 2000000) [-selQ_sel, h_6]
      have hr := (HS.some H).symm; subst hr
      exact Hid.mk ⟨(laws_toColorS_l0_X a0 x7).2, Wk.ofk [0] hk (by rfl) (by simp -implicitDefEqProofs [laws_toColorS_l0_X, h_6]) (by simp -implicitDefEqProofs [laws_toColorS_l0_X, h_6]), hR⟩
    · replace H := HS.cnd_f h_6 H
      try simp -implicitDefEqProofs (maxSteps := 2000000) [-selQ_sel, h_6]
      obtain ⟨v8, h_7, H⟩ := HS.bnd H
      try simp -implicitDefEqProofs (maxSteps := 2000000) [-selQ_sel, h_6, h_7]
      obtain ⟨v9, h_8, H⟩ := HS.bnd H
      try simp -implicitDefEqProofs (maxSteps := 2000000) [-selQ_sel, h_6, h_7, h_8]
      obtain ⟨v10, h_9, H⟩ := HS.bnd H
      have g_10 := idx_get h_9
      try simp -implicitDefEqProofs (maxSteps := 2000000) [-selQ_sel, h_6, h_7, h_8, h_9, g_10]
      obtain ⟨l11, h_11, H⟩ := HS.nam H
      have m_12 := congrArg (List.map eColor) h_11
      have q_13 := congrArg List.length h_11
      simp -implicitDefEqProofs at m_12 q_13
      try simp only [q_13] at m_12
      try simp only [q_13] at g_10
      try simp -implicitDefEqProofs (maxSteps := 2000000) [-selQ_sel, h_6, h_7, h_8, h_9, g_10, m_12, q_13]
      have hr := (HS.some H).symm; subst hr
      exact Hid.mk ⟨laws_toColorS_l0_S a0 ((IntKind.i64.wrap (x6 + 1)), l11), Wk.ofk [0] hk (by rfl) (by simp -implicitDefEqProofs [laws_toColorS_l0_S, h_6, h_7, h_8, h_9, g_10, m_12, q_13]) (by simp -implicitDefEqProofs [laws_toColorS_l0_S, h_6, h_7, h_8, h_9, g_10, m_12, q_13]), hR⟩
  · revert H h_5; revert q; intro y12 h_5 H
    try dsimp only at H
    try simp -implicitDefEqProofs (maxSteps := 2000000) [-selQ_sel, h_1, m_3, q_4, laws_toColorS_l0_X]
    have hr := (HS.some H).symm; subst hr
    refine Hid.mk ⟨⟨[(2, AV.osl 0 0 (List.length y12) (List.length y12))], [(0, Ob.arr 4 (List.map eColor y12) false)], 1⟩, Wk.ofk [0] hk (by rfl) (by simp -implicitDefEqProofs [h_1, m_3, q_4]) (by simp -implicitDefEqProofs [h_1, m_3, q_4]), ?_⟩
    try simp -implicitDefEqProofs (maxSteps := 2000000) [-selQ_sel, h_1, m_3, q_4]
theorem spec_ColorAt_ok0 (hm : Try.prog.follows .mixedOrders = true) (k_spec_PaintOk : Sound Try.prog 125 spec_PaintOk_x) (k_spec_Laid : Sound Try.prog 126 spec_Laid_x) (k_spec_PartOf : Sound Try.prog 127 spec_PartOf_x) (k_spec_l12Mix : Sound Try.prog 128 spec_l12Mix_x) : Sound Try.prog 45 spec_ColorAt_x := by
  refine xOf_sound fun q r h => ?_
  obtain ⟨a0, a1, a2⟩ := q
  refine fn_ok E0 hm Try.func45 rfl (by decide +kernel) (by rfl) fun Γ hn hk => ?_
  dsimp only [spec_ColorAt_e, spec_ColorAt_v]
  replace hn : Γ.n = 56 := hn
  replace hk : Γ.k = 0 := hk
  have H : HS (spec_ColorAt a0 a1 a2) r := h
  clear h; unfold spec_ColorAt at H
  try simp -implicitDefEqProofs at H
  refine Tr.of_vc (cl := tabC [(125, spec_PaintOk_x), (126, spec_Laid_x), (127, spec_PartOf_x), (128, spec_l12Mix_x)]) (E := E0) [] (tab_cons k_spec_PaintOk (tab_cons k_spec_Laid (tab_cons k_spec_PartOf (tab_cons k_spec_l12Mix tab_nil)))) hm (by rw [hn]; decide +kernel) ?_
  try simp -implicitDefEqProofs +decide (maxSteps := 2000000) [-selQ_sel, hokQ_of]
  obtain ⟨v1, h_1, H⟩ := HS.bnd H
  try simp -implicitDefEqProofs +decide (maxSteps := 2000000) [-selQ_sel, hokQ_of, h_1]
  refine Hid.brV (fun h_2 => ?_) (fun h_2 => ?_)
  · replace H := HS.cnd_t h_2 H
    try simp -implicitDefEqProofs +decide (maxSteps := 2000000) [-selQ_sel, hokQ_of, h_1, h_2]
    refine Hid.brV (fun h_3 => ?_) (fun h_3 => ?_)
    · replace H := HS.cnd_t h_3 H
      try simp -implicitDefEqProofs +decide (maxSteps := 2000000) [-selQ_sel, hokQ_of, h_1, h_2, h_3]
      obtain ⟨v2, h_4, H⟩ := HS.bnd H
      try simp -implicitDefEqProofs +decide (maxSteps := 2000000) [-selQ_sel, hokQ_of, h_1, h_2, h_3, h_4]
      have hr := (HS.some H).symm; subst hr
      refine Hid.mk ⟨_, Wk.refl _, ?_⟩
      try simp -implicitDefEqProofs +decide (maxSteps := 2000000) [-selQ_sel, hokQ_of, h_1, h_2, h_3, h_4]
    · replace H := HS.cnd_f h_3 H
      try simp -implicitDefEqProofs +decide (maxSteps := 2000000) [-selQ_sel, hokQ_of, h_1, h_2, h_3]
      obtain ⟨v3, h_5, H⟩ := HS.bnd H
      try simp -implicitDefEqProofs +decide (maxSteps := 2000000) [-selQ_sel, hokQ_of, h_1, h_2, h_3, h_5]
      obtain ⟨v4, h_6, H⟩ := HS.bnd H
      try simp -implicitDefEqProofs +decide (maxSteps := 2000000) [-selQ_sel, hokQ_of, h_1, h_2, h_3, h_5, h_6]
      obtain ⟨v5, h_7, H⟩ := HS.bnd H
      try simp -implicitDefEqProofs +decide (maxSteps := 2000000) [-selQ_sel, hokQ_of, h_1, h_2, h_3, h_5, h_6, h_7]
      obtain ⟨v6, h_8, H⟩ := HS.bnd H
      try simp -implicitDefEqProofs +decide (maxSteps := 2000000) [-selQ_sel, hokQ_of, h_1, h_2, h_3, h_5, h_6, h_7, h_8]
      obtain ⟨v7, h_9, H⟩ := HS.bnd H
      try simp -implicitDefEqProofs +decide (maxSteps := 2000000) [-selQ_sel, hokQ_of, h_1, h_2, h_3, h_5, h_6, h_7, h_8, h_9]
      obtain ⟨v8, h_10, H⟩ := HS.bnd H
      try simp -implicitDefEqProofs +decide (maxSteps := 2000000) [-selQ_sel, hokQ_of, h_1, h_2, h_3, h_5, h_6, h_7, h_8, h_9, h_10]
      have hr := (HS.some H).symm; subst hr
      refine Hid.mk ⟨_, Wk.refl _, ?_⟩
      try simp -implicitDefEqProofs +decide (maxSteps := 2000000) [-selQ_sel, hokQ_of, h_1, h_2, h_3, h_5, h_6, h_7, h_8, h_9, h_10]
  · replace H := HS.cnd_f h_2 H
    try simp -implicitDefEqProofs +decide (maxSteps := 2000000) [-selQ_sel, hokQ_of, h_1, h_2]
    have hr := (HS.some H).symm; subst hr
    refine Hid.mk ⟨_, Wk.refl _, ?_⟩
    try simp -implicitDefEqProofs +decide (maxSteps := 2000000) [-selQ_sel, hokQ_of, h_1, h_2]
theorem spec_Thin_ok0 (hm : Try.prog.follows .mixedOrders = true) (k_spec_LaidOk : Sound Try.prog 121 spec_LaidOk_x) (k_spec_l01In : Sound Try.prog 73 spec_l01In_x) (k_spec_RoundDiv : Sound Try.prog 124 spec_RoundDiv_x) : Sound Try.prog 44 spec_Thin_x := by
  refine xOf_sound fun q r h => ?_
  obtain ⟨a0, a1⟩ := q
  refine fn_ok E0 hm Try.func44 rfl (by decide +kernel) (by rfl) fun Γ hn hk => ?_
  dsimp only [spec_Thin_e, spec_Thin_v]
  replace hn : Γ.n = 35 := hn
  replace hk : Γ.k = 0 := hk
  have H : HS (spec_Thin a0 a1) r := h
  clear h; unfold spec_Thin at H
  try simp -implicitDefEqProofs at H
  refine Tr.of_vc (cl := tabC [(121, spec_LaidOk_x), (73, spec_l01In_x), (124, spec_RoundDiv_x)]) (E := E0) [] (tab_cons k_spec_LaidOk (tab_cons k_spec_l01In (tab_cons k_spec_RoundDiv tab_nil))) hm (by rw [hn]; decide +kernel) ?_
  try simp -implicitDefEqProofs +decide (maxSteps := 2000000) [-selQ_sel, hokQ_of]
  obtain ⟨v1, h_1, H⟩ := HS.bnd H
  try simp -implicitDefEqProofs +decide (maxSteps := 2000000) [-selQ_sel, hokQ_of, h_1]
  refine Hid.selQ (fun h_2 => ?_) (fun h_2 => ?_)
  · replace H := HS.cnd_t h_2 H
    try simp -implicitDefEqProofs +decide (maxSteps := 2000000) [-selQ_sel, hokQ_of, h_1, h_2]
    obtain ⟨v2, h_3, H⟩ := HS.bnd H
    try simp -implicitDefEqProofs +decide (maxSteps := 2000000) [-selQ_sel, hokQ_of, h_1, h_2, h_3]
    refine Hid.brV (fun h_4 => ?_) (fun h_4 => ?_)
    · replace H := HS.cnd_t h_4 H
      try simp -implicitDefEqProofs +decide (maxSteps := 2000000) [-selQ_sel, hokQ_of, h_1, h_2, h_3, h_4]
      obtain ⟨v3, h_5, H⟩ := HS.bnd H
      try simp -implicitDefEqProofs +decide (maxSteps := 2000000) [-selQ_sel, hokQ_of, h_1, h_2, h_3, h_4, h_5]
      obtain ⟨v4, h_6, H⟩ := HS.bnd H
      try simp -implicitDefEqProofs +decide (maxSteps := 2000000) [-selQ_sel, hokQ_of, h_1, h_2, h_3, h_4, h_5, h_6]
      obtain ⟨v5, h_7, H⟩ := HS.bnd H
      try simp -implicitDefEqProofs +decide (maxSteps := 2000000) [-selQ_sel, hokQ_of, h_1, h_2, h_3, h_4, h_5, h_6, h_7]
      obtain ⟨v6, h_8, H⟩ := HS.bnd H
      try simp -implicitDefEqProofs +decide (maxSteps := 2000000) [-selQ_sel, hokQ_of, h_1, h_2, h_3, h_4, h_5, h_6, h_7, h_8]
      have hr := (HS.some H).symm; subst hr
      refine Hid.mk ⟨_, Wk.refl _, ?_⟩
      try simp -implicitDefEqProofs +decide (maxSteps := 2000000) [-selQ_sel, hokQ_of, h_1, h_2, h_3, h_4, h_5, h_6, h_7, h_8]
    · replace H := HS.cnd_f h_4 H
      try simp -implicitDefEqProofs +decide (maxSteps := 2000000) [-selQ_sel, hokQ_of, h_1, h_2, h_3, h_4]
      have hr := (HS.some H).symm; subst hr
      refine Hid.mk ⟨_, Wk.refl _, ?_⟩
      try simp -implicitDefEqProofs +decide (maxSteps := 2000000) [-selQ_sel, hokQ_of, h_1, h_2, h_3, h_4]
  · replace H := HS.cnd_f h_2 H
    try simp -implicitDefEqProofs +decide (maxSteps := 2000000) [-selQ_sel, hokQ_of, h_1, h_2]
    have hr := (HS.some H).symm; subst hr
    refine Hid.mk ⟨_, Wk.refl _, ?_⟩
    try simp -implicitDefEqProofs +decide (maxSteps := 2000000) [-selQ_sel, hokQ_of, h_1, h_2]
theorem spec_Blend_ok0 (hm : Try.prog.follows .mixedOrders = true) (k_spec_LaidOk : Sound Try.prog 121 spec_LaidOk_x) (k_spec_l13Part : Sound Try.prog 122 spec_l13Part_x) : Sound Try.prog 42 spec_Blend_x := by
  refine xOf_sound fun q r h => ?_
  obtain ⟨a0, a1, a2⟩ := q
  refine fn_ok E0 hm Try.func42 rfl (by decide +kernel) (by rfl) fun Γ hn hk => ?_
  dsimp only [spec_Blend_e, spec_Blend_v]
  replace hn : Γ.n = 57 := hn
  replace hk : Γ.k = 0 := hk
  have H : HS (spec_Blend a0 a1 a2) r := h
  clear h; unfold spec_Blend at H
  try simp -implicitDefEqProofs at H
  refine Tr.of_vc (cl := tabC [(121, spec_LaidOk_x), (122, spec_l13Part_x)]) (E := E0) [] (tab_cons k_spec_LaidOk (tab_cons k_spec_l13Part tab_nil)) hm (by rw [hn]; decide +kernel) ?_
  try simp -implicitDefEqProofs +decide (maxSteps := 2000000) [-selQ_sel, hokQ_of]
  obtain ⟨v1, h_1, H⟩ := HS.bnd H
  try simp -implicitDefEqProofs +decide (maxSteps := 2000000) [-selQ_sel, hokQ_of, h_1]
  refine Hid.selQ (fun h_2 => ?_) (fun h_2 => ?_)
  · replace H := HS.cnd_t h_2 H
    try simp -implicitDefEqProofs +decide (maxSteps := 2000000) [-selQ_sel, hokQ_of, h_1, h_2]
    obtain ⟨v2, h_3, H⟩ := HS.bnd H
    try simp -implicitDefEqProofs +decide (maxSteps := 2000000) [-selQ_sel, hokQ_of, h_1, h_2, h_3]
    refine Hid.brV (fun h_4 => ?_) (fun h_4 => ?_)
    · replace H := HS.cnd_t h_4 H
      try simp -implicitDefEqProofs +decide (maxSteps := 2000000) [-selQ_sel, hokQ_of, h_1, h_2, h_3, h_4]
      obtain ⟨v3, h_5, H⟩ := HS.bnd H
      try simp -implicitDefEqProofs +decide (maxSteps := 2000000) [-selQ_sel, hokQ_of, h_1, h_2, h_3, h_4, h_5]
      obtain ⟨v4, h_6, H⟩ := HS.bnd H
      try simp -implicitDefEqProofs +decide (maxSteps := 2000000) [-selQ_sel, hokQ_of, h_1, h_2, h_3, h_4, h_5, h_6]
      obtain ⟨v5, h_7, H⟩ := HS.bnd H
      try simp -implicitDefEqProofs +decide (maxSteps := 2000000) [-selQ_sel, hokQ_of, h_1, h_2, h_3, h_4, h_5, h_6, h_7]
      obtain ⟨v6, h_8, H⟩ := HS.bnd H
      try simp -implicitDefEqProofs +decide (maxSteps := 2000000) [-selQ_sel, hokQ_of, h_1, h_2, h_3, h_4, h_5, h_6, h_7, h_8]
      have hr := (HS.some H).symm; subst hr
      refine Hid.mk ⟨_, Wk.refl _, ?_⟩
      try simp -implicitDefEqProofs +decide (maxSteps := 2000000) [-selQ_sel, hokQ_of, h_1, h_2, h_3, h_4, h_5, h_6, h_7, h_8]
    · replace H := HS.cnd_f h_4 H
      try simp -implicitDefEqProofs +decide (maxSteps := 2000000) [-selQ_sel, hokQ_of, h_1, h_2, h_3, h_4]
      have hr := (HS.some H).symm; subst hr
      refine Hid.mk ⟨_, Wk.refl _, ?_⟩
      try simp -implicitDefEqProofs +decide (maxSteps := 2000000) [-selQ_sel, hokQ_of, h_1, h_2, h_3, h_4]
  · replace H := HS.cnd_f h_2 H
    try simp -implicitDefEqProofs +decide (maxSteps := 2000000) [-selQ_sel, hokQ_of, h_1, h_2]
    have hr := (HS.some H).symm; subst hr
    refine Hid.mk ⟨_, Wk.refl _, ?_⟩
    try simp -implicitDefEqProofs +decide (maxSteps := 2000000) [-selQ_sel, hokQ_of, h_1, h_2]
theorem impl_ColorAt_ok0 (hm : Try.prog.follows .mixedOrders = true) (k_impl_PaintOk : Sound Try.prog 116 impl_PaintOk_x) (k_impl_Laid : Sound Try.prog 228 impl_Laid_x) (k_impl_partOf : Sound Try.prog 229 impl_partOf_x) (k_impl_each_ColorAt_1 : Sound Try.prog 174 impl_each_ColorAt_1_x) : Sound Try.prog 190 impl_ColorAt_x := by
  refine xOf_sound fun q r h => ?_
  obtain ⟨a0, a1, a2⟩ := q
  refine fn_ok E0 hm Try.func190 rfl (by decide +kernel) (by rfl) fun Γ hn hk => ?_
  dsimp only [impl_ColorAt_e, impl_ColorAt_v]
  replace hn : Γ.n = 29 := hn
  replace hk : Γ.k = 0 := hk
  have H : HS (impl_ColorAt a0 a1 a2) r := h
  clear h; unfold impl_ColorAt at H
  try simp -implicitDefEqProofs at H
  refine Tr.of_vc (cl := tabC [(116, impl_PaintOk_x), (228, impl_Laid_x), (229, impl_partOf_x), (174, impl_each_ColorAt_1_x)]) (E := E0) [] (tab_cons k_impl_PaintOk (tab_cons k_impl_Laid (tab_cons k_impl_partOf (tab_cons k_impl_each_ColorAt_1 tab_nil)))) hm (by rw [hn]; decide +kernel) ?_
  try simp -implicitDefEqProofs (maxSteps := 2000000) [-selQ_sel]
  obtain ⟨v1, h_1, H⟩ := HS.bnd H
  try simp -implicitDefEqProofs (maxSteps := 2000000) [-selQ_sel, h_1]
  refine Hid.brV (fun h_2 => ?_) (fun h_2 => ?_)
  · replace H := HS.cnd_t h_2 H
    try simp -implicitDefEqProofs (maxSteps := 2000000) [-selQ_sel, h_1, h_2]
    refine Hid.brV (fun h_3 => ?_) (fun h_3 => ?_)
    · replace H := HS.cnd_t h_3 H
      try simp -implicitDefEqProofs (maxSteps := 2000000) [-selQ_sel, h_1, h_2, h_3]
      obtain ⟨v2, h_4, H⟩ := HS.bnd H
      try simp -implicitDefEqProofs (maxSteps := 2000000) [-selQ_sel, h_1, h_2, h_3, h_4]
      have hr := (HS.some H).symm; subst hr
      refine Hid.mk ⟨_, Wk.refl _, ?_⟩
      try simp -implicitDefEqProofs (maxSteps := 2000000) [-selQ_sel, h_1, h_2, h_3, h_4]
    · replace H := HS.cnd_f h_3 H
      try simp -implicitDefEqProofs (maxSteps := 2000000) [-selQ_sel, h_1, h_2, h_3]
      obtain ⟨v3, h_5, H⟩ := HS.bnd H
      try simp -implicitDefEqProofs (maxSteps := 2000000) [-selQ_sel, h_1, h_2, h_3, h_5]
      obtain ⟨v4, h_6, H⟩ := HS.bnd H
      try simp -implicitDefEqProofs (maxSteps := 2000000) [-selQ_sel, h_1, h_2, h_3, h_5, h_6]
      obtain ⟨v5, h_7, H⟩ := HS.bnd H
      try simp -implicitDefEqProofs (maxSteps := 2000000) [-selQ_sel, h_1, h_2, h_3, h_5, h_6, h_7]
      have hr := (HS.some H).symm; subst hr
      refine Hid.mk ⟨_, Wk.refl _, ?_⟩
      try simp -implicitDefEqProofs (maxSteps := 2000000) [-selQ_sel, h_1, h_2, h_3, h_5, h_6, h_7]
  · replace H := HS.cnd_f h_2 H
    try simp -implicitDefEqProofs (maxSteps := 2000000) [-selQ_sel, h_1, h_2]
    have hr := (HS.some H).symm; subst hr
    refine Hid.mk ⟨_, Wk.refl _, ?_⟩
    try simp -implicitDefEqProofs (maxSteps := 2000000) [-selQ_sel, h_1, h_2]
theorem laws_eqBox_ok0 (hm : Try.prog.follows .mixedOrders = true) : Sound Try.prog 139 laws_eqBox_x := by
  refine xOf_sound fun q r h => ?_
  obtain ⟨a0, a1⟩ := q
  refine fn_ok E0 hm Try.func139 rfl (by decide +kernel) (by rfl) fun Γ hn hk => ?_
  dsimp only [laws_eqBox_e, laws_eqBox_v]
  replace hn : Γ.n = 25 := hn
  replace hk : Γ.k = 0 := hk
  have H : HS (laws_eqBox a0 a1) r := h
  clear h; unfold laws_eqBox at H
  try simp -implicitDefEqProofs at H
  refine Tr.of_vc (cl := tabC []) (E := E0) [] tab_nil hm (by rw [hn]; decide +kernel) ?_
  try simp -implicitDefEqProofs (maxSteps := 2000000) [-selQ_sel]
  refine Hid.brV (fun h_1 => ?_) (fun h_1 => ?_)
  · replace H := HS.cnd_t h_1 H
    try simp -implicitDefEqProofs (maxSteps := 2000000) [-selQ_sel, h_1]
    refine Hid.brV (fun h_2 => ?_) (fun h_2 => ?_)
    · replace H := HS.cnd_t h_2 H
      try simp -implicitDefEqProofs (maxSteps := 2000000) [-selQ_sel, h_1, h_2]
      refine Hid.brV (fun h_3 => ?_) (fun h_3 => ?_)
      · replace H := HS.cnd_t h_3 H
        try simp -implicitDefEqProofs (maxSteps := 2000000) [-selQ_sel, h_1, h_2, h_3]
        refine Hid.brV (fun h_4 => ?_) (fun h_4 => ?_)
        · replace H := HS.cnd_t h_4 H
          try simp -implicitDefEqProofs (maxSteps := 2000000) [-selQ_sel, h_1, h_2, h_3, h_4]
          have hr := (HS.some H).symm; subst hr
          refine Hid.mk ⟨_, Wk.refl _, ?_⟩
          try simp -implicitDefEqProofs (maxSteps := 2000000) [-selQ_sel, h_1, h_2, h_3, h_4]
        · replace H := HS.cnd_f h_4 H
          try simp -implicitDefEqProofs (maxSteps := 2000000) [-selQ_sel, h_1, h_2, h_3, h_4]
          have hr := (HS.some H).symm; subst hr
          refine Hid.mk ⟨_, Wk.refl _, ?_⟩
          try simp -implicitDefEqProofs (maxSteps := 2000000) [-selQ_sel, h_1, h_2, h_3, h_4]
      · replace H := HS.cnd_f h_3 H
        try simp -implicitDefEqProofs (maxSteps := 2000000) [-selQ_sel, h_1, h_2, h_3]
        have hr := (HS.some H).symm; subst hr
        refine Hid.mk ⟨_, Wk.refl _, ?_⟩
        try simp -implicitDefEqProofs (maxSteps := 2000000) [-selQ_sel, h_1, h_2, h_3]
    · replace H := HS.cnd_f h_2 H
      try simp -implicitDefEqProofs (maxSteps := 2000000) [-selQ_sel, h_1, h_2]
      have hr := (HS.some H).symm; subst hr
      refine Hid.mk ⟨_, Wk.refl _, ?_⟩
      try simp -implicitDefEqProofs (maxSteps := 2000000) [-selQ_sel, h_1, h_2]
  · replace H := HS.cnd_f h_1 H
    try simp -implicitDefEqProofs (maxSteps := 2000000) [-selQ_sel, h_1]
    have hr := (HS.some H).symm; subst hr
    refine Hid.mk ⟨_, Wk.refl _, ?_⟩
    try simp -implicitDefEqProofs (maxSteps := 2000000) [-selQ_sel, h_1]
theorem laws_eqSurface_ok0 (hm : Try.prog.follows .mixedOrders = true) (k_laws_eqColorS : Sound Try.prog 142 laws_eqColorS_x) : Sound Try.prog 63 laws_eqSurface_x := by
  refine xOf_sound fun q r h => ?_
  obtain ⟨a0, a1⟩ := q
  refine fn_ok E0 hm Try.func63 rfl (by decide +kernel) (by rfl) fun Γ hn hk => ?_
  dsimp only [laws_eqSurface_e, laws_eqSurface_v]
  replace hn : Γ.n = 21 := hn
  replace hk : Γ.k = 0 := hk
  have H : HS (laws_eqSurface a0 a1) r := h
  clear h; unfold laws_eqSurface at H
  try simp -implicitDefEqProofs at H
  refine Tr.of_vc (cl := tabC [(142, laws_eqColorS_x)]) (E := E0) [] (tab_cons k_laws_eqColorS tab_nil) hm (by rw [hn]; decide +kernel) ?_
  try simp -implicitDefEqProofs (maxSteps := 2000000) [-selQ_sel]
  refine Hid.brV (fun h_1 => ?_) (fun h_1 => ?_)
  · replace H := HS.cnd_t h_1 H
    try simp -implicitDefEqProofs (maxSteps := 2000000) [-selQ_sel, h_1]
    refine Hid.brV (fun h_2 => ?_) (fun h_2 => ?_)
    · replace H := HS.cnd_t h_2 H
      try simp -implicitDefEqProofs (maxSteps := 2000000) [-selQ_sel, h_1, h_2]
      obtain ⟨v1, h_3, H⟩ := HS.bnd H
      try simp -implicitDefEqProofs (maxSteps := 2000000) [-selQ_sel, h_1, h_2, h_3]
      refine Hid.brV (fun h_4 => ?_) (fun h_4 => ?_)
      · replace H := HS.cnd_t h_4 H
        try simp -implicitDefEqProofs (maxSteps := 2000000) [-selQ_sel, h_1, h_2, h_3, h_4]
        have hr := (HS.some H).symm; subst hr
        refine Hid.mk ⟨_, Wk.refl _, ?_⟩
        try simp -implicitDefEqProofs (maxSteps := 2000000) [-selQ_sel, h_1, h_2, h_3, h_4]
      · replace H := HS.cnd_f h_4 H
        try simp -implicitDefEqProofs (maxSteps := 2000000) [-selQ_sel, h_1, h_2, h_3, h_4]
        have hr := (HS.some H).symm; subst hr
        refine Hid.mk ⟨_, Wk.refl _, ?_⟩
        try simp -implicitDefEqProofs (maxSteps := 2000000) [-selQ_sel, h_1, h_2, h_3, h_4]
    · replace H := HS.cnd_f h_2 H
      try simp -implicitDefEqProofs (maxSteps := 2000000) [-selQ_sel, h_1, h_2]
      have hr := (HS.some H).symm; subst hr
      refine Hid.mk ⟨_, Wk.refl _, ?_⟩
      try simp -implicitDefEqProofs (maxSteps := 2000000) [-selQ_sel, h_1, h_2]
  · replace H := HS.cnd_f h_1 H
    try simp -implicitDefEqProofs (maxSteps := 2000000) [-selQ_sel, h_1]
    have hr := (HS.some H).symm; subst hr
    refine Hid.mk ⟨_, Wk.refl _, ?_⟩
    try simp -implicitDefEqProofs (maxSteps := 2000000) [-selQ_sel, h_1]
theorem spec_InBox_ok0 (hm : Try.prog.follows .mixedOrders = true) : Sound Try.prog 192 spec_InBox_x := by
  refine xOf_sound fun q r h => ?_
  obtain ⟨a0, a1⟩ := q
  refine fn_ok E0 hm Try.func192 rfl (by decide +kernel) (by rfl) fun Γ hn hk => ?_
  dsimp only [spec_InBox_e, spec_InBox_v]
  replace hn : Γ.n = 31 := hn
  replace hk : Γ.k = 0 := hk
  have H : HS (spec_InBox a0 a1) r := h
  clear h; unfold spec_InBox at H
  try simp -implicitDefEqProofs at H
  refine Tr.of_vc (cl := tabC []) (E := E0) [] tab_nil hm (by rw [hn]; decide +kernel) ?_
  try simp -implicitDefEqProofs (maxSteps := 2000000) [-selQ_sel]
  refine Hid.selQ (fun h_1 => ?_) (fun h_1 => ?_)
  · replace H := HS.cnd_t h_1 H
    try simp -implicitDefEqProofs (maxSteps := 2000000) [-selQ_sel, h_1]
    refine Hid.selQ (fun h_2 => ?_) (fun h_2 => ?_)
    · replace H := HS.cnd_t h_2 H
      try simp -implicitDefEqProofs (maxSteps := 2000000) [-selQ_sel, h_1, h_2]
      have hr := (HS.some H).symm; subst hr
      refine Hid.mk ⟨_, Wk.refl _, ?_⟩
      try simp -implicitDefEqProofs (maxSteps := 2000000) [-selQ_sel, h_1, h_2]
    · replace H := HS.cnd_f h_2 H
      try simp -implicitDefEqProofs (maxSteps := 2000000) [-selQ_sel, h_1, h_2]
      refine Hid.selQ (fun h_3 => ?_) (fun h_3 => ?_)
      · replace H := HS.cnd_t h_3 H
        try simp -implicitDefEqProofs (maxSteps := 2000000) [-selQ_sel, h_1, h_2, h_3]
        have hr := (HS.some H).symm; subst hr
        refine Hid.mk ⟨_, Wk.refl _, ?_⟩
        try simp -implicitDefEqProofs (maxSteps := 2000000) [-selQ_sel, h_1, h_2, h_3]
      · replace H := HS.cnd_f h_3 H
        try simp -implicitDefEqProofs (maxSteps := 2000000) [-selQ_sel, h_1, h_2, h_3]
        have hr := (HS.some H).symm; subst hr
        refine Hid.mk ⟨_, Wk.refl _, ?_⟩
        try simp -implicitDefEqProofs (maxSteps := 2000000) [-selQ_sel, h_1, h_2, h_3]
  · replace H := HS.cnd_f h_1 H
    try simp -implicitDefEqProofs (maxSteps := 2000000) [-selQ_sel, h_1]
    have hr := (HS.some H).symm; subst hr
    refine Hid.mk ⟨_, Wk.refl _, ?_⟩
    try simp -implicitDefEqProofs (maxSteps := 2000000) [-selQ_sel, h_1]
theorem impl_PaintMask_1_ok0 (hm : Try.prog.follows .mixedOrders = true) (k_impl_Mask_bitsAt : Sound Try.prog 118 impl_Mask_bitsAt_x) (k_impl_inked : Sound Try.prog 119 impl_inked_x) (k_impl_Blend : Sound Try.prog 107 impl_Blend_x) : Sound Try.prog 117 impl_PaintMask_1_x := by
  refine xOf_sound fun q r h => ?_
  obtain ⟨a0, a1, a2, a3, a4, a5, a6⟩ := q
  refine fn_ok E0 hm Try.func117 rfl (by decide +kernel) (by rfl) fun Γ hn hk => ?_
  dsimp only [impl_PaintMask_1_e, impl_PaintMask_1_v]
  replace hn : Γ.n = 27 := hn
  replace hk : Γ.k = 0 := hk
  have H : HS (impl_PaintMask_1 a0 a1 a2 a3 a4 a5 a6) r := h
  clear h; unfold impl_PaintMask_1 at H
  try simp -implicitDefEqProofs at H
  refine Tr.of_vc (cl := tabC [(118, impl_Mask_bitsAt_x), (119, impl_inked_x), (107, impl_Blend_x)]) (E := E0) [] (tab_cons k_impl_Mask_bitsAt (tab_cons k_impl_inked (tab_cons k_impl_Blend tab_nil))) hm (by rw [hn]; decide +kernel) ?_
  try simp -implicitDefEqProofs +decide (maxSteps := 2000000) [-selQ_sel, hokQ_of]
  obtain ⟨v1, h_1, H⟩ := HS.bnd H
  try simp -implicitDefEqProofs +decide (maxSteps := 2000000) [-selQ_sel, hokQ_of, h_1]
  refine Hid.brV (fun h_2 => ?_) (fun h_2 => ?_)
  · replace H := HS.cnd_t h_2 H
    try simp -implicitDefEqProofs +decide (maxSteps := 2000000) [-selQ_sel, hokQ_of, h_1, h_2]
    have hr := (HS.some H).symm; subst hr
    refine Hid.mk ⟨_, Wk.refl _, ?_⟩
    try simp -implicitDefEqProofs +decide (maxSteps := 2000000) [-selQ_sel, hokQ_of, h_1, h_2]
  · replace H := HS.cnd_f h_2 H
    try simp -implicitDefEqProofs +decide (maxSteps := 2000000) [-selQ_sel, hokQ_of, h_1, h_2]
    obtain ⟨v2, h_3, H⟩ := HS.bnd H
    try simp -implicitDefEqProofs +decide (maxSteps := 2000000) [-selQ_sel, hokQ_of, h_1, h_2, h_3]
    obtain ⟨v3, h_4, H⟩ := HS.bnd H
    try simp -implicitDefEqProofs +decide (maxSteps := 2000000) [-selQ_sel, hokQ_of, h_1, h_2, h_3, h_4]
    have hr := (HS.some H).symm; subst hr
    refine Hid.mk ⟨_, Wk.refl _, ?_⟩
    try simp -implicitDefEqProofs +decide (maxSteps := 2000000) [-selQ_sel, hokQ_of, h_1, h_2, h_3, h_4]
theorem spec_RoundDiv_ok0 (hm : Try.prog.follows .mixedOrders = true) (k_spec_FloorDiv : Sound Try.prog 195 spec_FloorDiv_x) : Sound Try.prog 124 spec_RoundDiv_x := by
  refine xOf_sound fun q r h => ?_
  obtain ⟨a0, a1⟩ := q
  refine fn_ok E0 hm Try.func124 rfl (by decide +kernel) (by rfl) fun Γ hn hk => ?_
  dsimp only [spec_RoundDiv_e, spec_RoundDiv_v]
  replace hn : Γ.n = 25 := hn
  replace hk : Γ.k = 0 := hk
  have H : HS (spec_RoundDiv a0 a1) r := h
  clear h; unfold spec_RoundDiv at H
  try simp -implicitDefEqProofs at H
  refine Tr.of_vc (cl := tabC [(195, spec_FloorDiv_x)]) (E := E0) [] (tab_cons k_spec_FloorDiv tab_nil) hm (by rw [hn]; decide +kernel) ?_
  try simp -implicitDefEqProofs (maxSteps := 2000000) [-selQ_sel]
  refine Hid.brV (fun h_1 => ?_) (fun h_1 => ?_)
  · replace H := HS.cnd_t h_1 H
    try simp -implicitDefEqProofs (maxSteps := 2000000) [-selQ_sel, h_1]
    obtain ⟨v1, h_2, H⟩ := HS.bnd H
    try simp -implicitDefEqProofs (maxSteps := 2000000) [-selQ_sel, h_1, h_2]
    refine Hid.brV (fun h_3 => ?_) (fun h_3 => ?_)
    · replace H := HS.cnd_t h_3 H
      try simp -implicitDefEqProofs (maxSteps := 2000000) [-selQ_sel, h_1, h_2, h_3]
      have hr := (HS.some H).symm; subst hr
      refine Hid.mk ⟨_, Wk.refl _, ?_⟩
      try simp -implicitDefEqProofs (maxSteps := 2000000) [-selQ_sel, h_1, h_2, h_3]
    · replace H := HS.cnd_f h_3 H
      try simp -implicitDefEqProofs (maxSteps := 2000000) [-selQ_sel, h_1, h_2, h_3]
      have hr := (HS.some H).symm; subst hr
      refine Hid.mk ⟨_, Wk.refl _, ?_⟩
      try simp -implicitDefEqProofs (maxSteps := 2000000) [-selQ_sel, h_1, h_2, h_3]
  · replace H := HS.cnd_f h_1 H
    try simp -implicitDefEqProofs (maxSteps := 2000000) [-selQ_sel, h_1]
    have hr := (HS.some H).symm; subst hr
    refine Hid.mk ⟨_, Wk.refl _, ?_⟩
    try simp -implicitDefEqProofs (maxSteps := 2000000) [-selQ_sel, h_1]
theorem spec_FloorDiv_ok0 (hm : Try.prog.follows .mixedOrders = true) : Sound Try.prog 195 spec_FloorDiv_x := by
  refine xOf_sound fun q r h => ?_
  obtain ⟨a0, a1⟩ := q
  refine fn_ok E0 hm Try.func195 rfl (by decide +kernel) (by rfl) fun Γ hn hk => ?_
  dsimp only [spec_FloorDiv_e, spec_FloorDiv_v]
  replace hn : Γ.n = 18 := hn
  replace hk : Γ.k = 0 := hk
  have H : HS (spec_FloorDiv a0 a1) r := h
  clear h; unfold spec_FloorDiv at H
  try simp -implicitDefEqProofs at H
  refine Tr.of_vc (cl := tabC []) (E := E0) [] tab_nil hm (by rw [hn]; decide +kernel) ?_
  try simp -implicitDefEqProofs (maxSteps := 2000000) [-selQ_sel]
  refine Hid.brV (fun h_1 => ?_) (fun h_1 => ?_)
  · replace H := HS.cnd_t h_1 H
    try simp -implicitDefEqProofs (maxSteps := 2000000) [-selQ_sel, h_1]
    obtain ⟨h_2, H⟩ := HS.chkP H
    try simp -implicitDefEqProofs (maxSteps := 2000000) [-selQ_sel, h_1, h_2]
    refine Hid.brV (fun h_3 => ?_) (fun h_3 => ?_)
    · replace H := HS.cnd_t h_3 H
      try simp -implicitDefEqProofs (maxSteps := 2000000) [-selQ_sel, h_1, h_2, h_3]
      have hr := (HS.some H).symm; subst hr
      refine Hid.mk ⟨_, Wk.refl _, ?_⟩
      try simp -implicitDefEqProofs (maxSteps := 2000000) [-selQ_sel, h_1, h_2, h_3]
    · replace H := HS.cnd_f h_3 H
      try simp -implicitDefEqProofs (maxSteps := 2000000) [-selQ_sel, h_1, h_2, h_3]
      have hr := (HS.some H).symm; subst hr
      refine Hid.mk ⟨_, Wk.refl _, ?_⟩
      try simp -implicitDefEqProofs (maxSteps := 2000000) [-selQ_sel, h_1, h_2, h_3]
  · replace H := HS.cnd_f h_1 H
    try simp -implicitDefEqProofs (maxSteps := 2000000) [-selQ_sel, h_1]
    have hr := (HS.some H).symm; subst hr
    refine Hid.mk ⟨_, Wk.refl _, ?_⟩
    try simp -implicitDefEqProofs (maxSteps := 2000000) [-selQ_sel, h_1]
theorem impl_partOf_ok0 (hm : Try.prog.follows .mixedOrders = true) (k_impl_taken : Sound Try.prog 242 impl_taken_x) (k_impl_FloorDiv : Sound Try.prog 220 impl_FloorDiv_x) (k_impl_Clamp : Sound Try.prog 219 impl_Clamp_x) : Sound Try.prog 229 impl_partOf_x := by
  refine xOf_sound fun q r h => ?_
  obtain ⟨a0, a1, a2⟩ := q
  refine fn_ok E0 hm Try.func229 rfl (by decide +kernel) (by rfl) fun Γ hn hk => ?_
  dsimp only [impl_partOf_e, impl_partOf_v]
  replace hn : Γ.n = 58 := hn
  replace hk : Γ.k = 0 := hk
  have H : HS (impl_partOf a0 a1 a2) r := h
  clear h; unfold impl_partOf at H
  try simp -implicitDefEqProofs at H
  refine Tr.of_vc (cl := tabC [(242, impl_taken_x), (220, impl_FloorDiv_x), (219, impl_Clamp_x)]) (E := E0) [] (tab_cons k_impl_taken (tab_cons k_impl_FloorDiv (tab_cons k_impl_Clamp tab_nil))) hm (by rw [hn]; decide +kernel) ?_
  try simp -implicitDefEqProofs +decide (maxSteps := 2000000) [-selQ_sel, hokQ_of]
  obtain ⟨v1, h_1, H⟩ := HS.bnd H
  try simp -implicitDefEqProofs +decide (maxSteps := 2000000) [-selQ_sel, hokQ_of, h_1]
  obtain ⟨v2, h_2, H⟩ := HS.bnd H
  try simp -implicitDefEqProofs +decide (maxSteps := 2000000) [-selQ_sel, hokQ_of, h_1, h_2]
  obtain ⟨v3, h_3, H⟩ := HS.bnd H
  try simp -implicitDefEqProofs +decide (maxSteps := 2000000) [-selQ_sel, hokQ_of, h_1, h_2, h_3]
  obtain ⟨v4, h_4, H⟩ := HS.bnd H
  try simp -implicitDefEqProofs +decide (maxSteps := 2000000) [-selQ_sel, hokQ_of, h_1, h_2, h_3, h_4]
  have hr := (HS.some H).symm; subst hr
  refine Hid.mk ⟨_, Wk.refl _, ?_⟩
  try simp -implicitDefEqProofs +decide (maxSteps := 2000000) [-selQ_sel, hokQ_of, h_1, h_2, h_3, h_4]
theorem impl_inked_ok0 (hm : Try.prog.follows .mixedOrders = true) (k_impl_ColorAt : Sound Try.prog 190 impl_ColorAt_x) (k_impl_CountOf : Sound Try.prog 191 impl_CountOf_x) (k_impl_Thin : Sound Try.prog 189 impl_Thin_x) (k_impl_Fade : Sound Try.prog 108 impl_Fade_x) : Sound Try.prog 119 impl_inked_x := by
  refine xOf_sound fun q r h => ?_
  obtain ⟨a0, a1, a2, a3, a4⟩ := q
  refine fn_ok E0 hm Try.func119 rfl (by decide +kernel) (by rfl) fun Γ hn hk => ?_
  dsimp only [impl_inked_e, impl_inked_v]
  replace hn : Γ.n = 20 := hn
  replace hk : Γ.k = 0 := hk
  have H : HS (impl_inked a0 a1 a2 a3 a4) r := h
  clear h; unfold impl_inked at H
  try simp -implicitDefEqProofs at H
  refine Tr.of_vc (cl := tabC [(190, impl_ColorAt_x), (191, impl_CountOf_x), (189, impl_Thin_x), (108, impl_Fade_x)]) (E := E0) [] (tab_cons k_impl_ColorAt (tab_cons k_impl_CountOf (tab_cons k_impl_Thin (tab_cons k_impl_Fade tab_nil)))) hm (by rw [hn]; decide +kernel) ?_
  try simp -implicitDefEqProofs (maxSteps := 2000000) [-selQ_sel]
  obtain ⟨v1, h_1, H⟩ := HS.bnd H
  try simp -implicitDefEqProofs (maxSteps := 2000000) [-selQ_sel, h_1]
  obtain ⟨v2, h_2, H⟩ := HS.bnd H
  try simp -implicitDefEqProofs (maxSteps := 2000000) [-selQ_sel, h_1, h_2]
  obtain ⟨v3, h_3, H⟩ := HS.bnd H
  try simp -implicitDefEqProofs (maxSteps := 2000000) [-selQ_sel, h_1, h_2, h_3]
  obtain ⟨v4, h_4, H⟩ := HS.bnd H
  try simp -implicitDefEqProofs (maxSteps := 2000000) [-selQ_sel, h_1, h_2, h_3, h_4]
  have hr := (HS.some H).symm; subst hr
  refine Hid.mk ⟨_, Wk.refl _, ?_⟩
  try simp -implicitDefEqProofs (maxSteps := 2000000) [-selQ_sel, h_1, h_2, h_3, h_4]
theorem spec_l14Copy_ok0 (hm : Try.prog.follows .mixedOrders = true) : Sound Try.prog 113 spec_l14Copy_x := by
  refine xOf_sound fun q r h => ?_
  revert h; revert r; revert q; intro a0 r h
  refine fn_ok E0 hm Try.func113 rfl (by decide +kernel) (by rfl) fun Γ hn hk => ?_
  dsimp only [spec_l14Copy_e, spec_l14Copy_v]
  replace hn : Γ.n = 12 := hn
  replace hk : Γ.k = 0 := hk
  have H : HS (spec_l14Copy a0) r := h
  clear h; unfold spec_l14Copy at H
  try simp -implicitDefEqProofs at H
  refine Tr.of_vc (cl := tabC []) (E := E0) [] tab_nil hm (by rw [hn]; decide +kernel) ?_
  try simp -implicitDefEqProofs +decide (maxSteps := 2000000) [-selQ_sel, hokQ_of]
  obtain ⟨h_1, H⟩ := HS.chkP H
  try simp -implicitDefEqProofs +decide (maxSteps := 2000000) [-selQ_sel, hokQ_of, h_1]
  obtain ⟨l1, h_2, H⟩ := HS.nam H
  have m_3 := congrArg (List.map eColor) h_2
  have q_4 := congrArg List.length h_2
  simp -implicitDefEqProofs at m_3 q_4
  try simp only [q_4] at m_3
  try simp only [q_4] at h_1
  try simp -implicitDefEqProofs +decide (maxSteps := 2000000) [-selQ_sel, hokQ_of, h_1, m_3, q_4]
  have hr := (HS.some H).symm; subst hr
  refine Hid.mk ⟨⟨[(2, AV.optr 0 0 3)], [(0, Ob.box [AV.int .i64 a0.w, AV.int .i64 a0.h, AV.osl 1 0 (List.length l1) (List.length l1)]), (1, Ob.arr 4 (List.map eColor l1) false)], 2⟩, Wk.ofk [1, 2] hk (by rfl) (by simp -implicitDefEqProofs [h_1, m_3, q_4]) (by simp -implicitDefEqProofs [h_1, m_3, q_4]), ?_⟩
  try simp -implicitDefEqProofs +decide (maxSteps := 2000000) [-selQ_sel, hokQ_of, h_1, m_3, q_4]
theorem impl_each_ColorAt_1_ok0 (hm : Try.prog.follows .mixedOrders = true) (k_impl_ColorAt_1 : Sound Try.prog 230 impl_ColorAt_1_x) : Sound Try.prog 174 impl_each_ColorAt_1_x := by
  refine xOf_sound fun q r h => ?_
  obtain ⟨a0, a1, a2⟩ := q
  refine fn_ok E0 hm Try.func174 rfl (by decide +kernel) (by rfl) fun Γ hn hk => ?_
  dsimp only [impl_each_ColorAt_1_e, impl_each_ColorAt_1_v]
  replace hn : Γ.n = 32 := hn
  replace hk : Γ.k = 0 := hk
  have H : HS (impl_each_ColorAt_1 a0 a1 a2) r := h
  clear h; unfold impl_each_ColorAt_1 at H
  try simp -implicitDefEqProofs at H
  refine Tr.of_vc (cl := tabC [(230, impl_ColorAt_1_x)]) (E := E0) [] (tab_cons k_impl_ColorAt_1 tab_nil) hm (by rw [hn]; decide +kernel) ?_
  try simp -implicitDefEqProofs +decide (maxSteps := 2000000) [-selQ_sel, hokQ_of]
  obtain ⟨v1, h_1, H⟩ := HS.bnd H
  try simp -implicitDefEqProofs +decide (maxSteps := 2000000) [-selQ_sel, hokQ_of, h_1]
  obtain ⟨v2, h_2, H⟩ := HS.bnd H
  try simp -implicitDefEqProofs +decide (maxSteps := 2000000) [-selQ_sel, hokQ_of, h_1, h_2]
  obtain ⟨v3, h_3, H⟩ := HS.bnd H
  try simp -implicitDefEqProofs +decide (maxSteps := 2000000) [-selQ_sel, hokQ_of, h_1, h_2, h_3]
  obtain ⟨v4, h_4, H⟩ := HS.bnd H
  try simp -implicitDefEqProofs +decide (maxSteps := 2000000) [-selQ_sel, hokQ_of, h_1, h_2, h_3, h_4]
  have hr := (HS.some H).symm; subst hr
  refine Hid.mk ⟨_, Wk.refl _, ?_⟩
  try simp -implicitDefEqProofs +decide (maxSteps := 2000000) [-selQ_sel, hokQ_of, h_1, h_2, h_3, h_4]
theorem impl_each_Fade_1_ok0 (hm : Try.prog.follows .mixedOrders = true) (k_impl_Fade_1 : Sound Try.prog 179 impl_Fade_1_x) : Sound Try.prog 174 impl_each_Fade_1_x := by
  refine xOf_sound fun q r h => ?_
  obtain ⟨a0, a1, a2⟩ := q
  refine fn_ok E0 hm Try.func174 rfl (by decide +kernel) (by rfl) fun Γ hn hk => ?_
  dsimp only [impl_each_Fade_1_e, impl_each_Fade_1_v]
  replace hn : Γ.n = 32 := hn
  replace hk : Γ.k = 0 := hk
  have H : HS (impl_each_Fade_1 a0 a1 a2) r := h
  clear h; unfold impl_each_Fade_1 at H
  try simp -implicitDefEqProofs at H
  refine Tr.of_vc (cl := tabC [(179, impl_Fade_1_x)]) (E := E0) [] (tab_cons k_impl_Fade_1 tab_nil) hm (by rw [hn]; decide +kernel) ?_
  try simp -implicitDefEqProofs +decide (maxSteps := 2000000) [-selQ_sel, hokQ_of]
  obtain ⟨v1, h_1, H⟩ := HS.bnd H
  try simp -implicitDefEqProofs +decide (maxSteps := 2000000) [-selQ_sel, hokQ_of, h_1]
  obtain ⟨v2, h_2, H⟩ := HS.bnd H
  try simp -implicitDefEqProofs +decide (maxSteps := 2000000) [-selQ_sel, hokQ_of, h_1, h_2]
  obtain ⟨v3, h_3, H⟩ := HS.bnd H
  try simp -implicitDefEqProofs +decide (maxSteps := 2000000) [-selQ_sel, hokQ_of, h_1, h_2, h_3]
  obtain ⟨v4, h_4, H⟩ := HS.bnd H
  try simp -implicitDefEqProofs +decide (maxSteps := 2000000) [-selQ_sel, hokQ_of, h_1, h_2, h_3, h_4]
  have hr := (HS.some H).symm; subst hr
  refine Hid.mk ⟨_, Wk.refl _, ?_⟩
  try simp -implicitDefEqProofs +decide (maxSteps := 2000000) [-selQ_sel, hokQ_of, h_1, h_2, h_3, h_4]
theorem impl_CountOf_ok0 (hm : Try.prog.follows .mixedOrders = true) (k_impl_inRange : Sound Try.prog 76 impl_inRange_x) : Sound Try.prog 191 impl_CountOf_x := by
  refine xOf_sound fun q r h => ?_
  revert h; revert r; revert q; intro a0 r h
  refine fn_ok E0 hm Try.func191 rfl (by decide +kernel) (by rfl) fun Γ hn hk => ?_
  dsimp only [impl_CountOf_e, impl_CountOf_v]
  replace hn : Γ.n = 19 := hn
  replace hk : Γ.k = 0 := hk
  have H : HS (impl_CountOf a0) r := h
  clear h; unfold impl_CountOf at H
  try simp -implicitDefEqProofs at H
  refine Tr.of_vc (cl := tabC [(76, impl_inRange_x)]) (E := E0) [] (tab_cons k_impl_inRange tab_nil) hm (by rw [hn]; decide +kernel) ?_
  try simp -implicitDefEqProofs (maxSteps := 2000000) [-selQ_sel]
  obtain ⟨v1, h_1, H⟩ := HS.bnd H
  try simp -implicitDefEqProofs (maxSteps := 2000000) [-selQ_sel, h_1]
  refine Hid.brV (fun h_2 => ?_) (fun h_2 => ?_)
  · replace H := HS.cnd_t h_2 H
    try simp -implicitDefEqProofs (maxSteps := 2000000) [-selQ_sel, h_1, h_2]
    have hr := (HS.some H).symm; subst hr
    refine Hid.mk ⟨_, Wk.refl _, ?_⟩
    try simp -implicitDefEqProofs (maxSteps := 2000000) [-selQ_sel, h_1, h_2]
  · replace H := HS.cnd_f h_2 H
    try simp -implicitDefEqProofs (maxSteps := 2000000) [-selQ_sel, h_1, h_2]
    have hr := (HS.some H).symm; subst hr
    refine Hid.mk ⟨_, Wk.refl _, ?_⟩
    try simp -implicitDefEqProofs (maxSteps := 2000000) [-selQ_sel, h_1, h_2]
theorem impl_MeetBox_ok0 (hm : Try.prog.follows .mixedOrders = true) (k_impl_Empty : Sound Try.prog 158 impl_Empty_x) : Sound Try.prog 157 impl_MeetBox_x := by
  refine xOf_sound fun q r h => ?_
  obtain ⟨a0, a1⟩ := q
  refine fn_ok E0 hm Try.func157 rfl (by decide +kernel) (by rfl) fun Γ hn hk => ?_
  dsimp only [impl_MeetBox_e, impl_MeetBox_v]
  replace hn : Γ.n = 31 := hn
  replace hk : Γ.k = 0 := hk
  have H : HS (impl_MeetBox a0 a1) r := h
  clear h; unfold impl_MeetBox at H
  try simp -implicitDefEqProofs at H
  refine Tr.of_vc (cl := tabC [(158, impl_Empty_x)]) (E := E0) [] (tab_cons k_impl_Empty tab_nil) hm (by rw [hn]; decide +kernel) ?_
  try simp -implicitDefEqProofs (maxSteps := 2000000) [-selQ_sel]
  obtain ⟨v1, h_1, H⟩ := HS.bnd H
  try simp -implicitDefEqProofs (maxSteps := 2000000) [-selQ_sel, h_1]
  refine Hid.brV (fun h_2 => ?_) (fun h_2 => ?_)
  · replace H := HS.cnd_t h_2 H
    try simp -implicitDefEqProofs (maxSteps := 2000000) [-selQ_sel, h_1, h_2]
    have hr := (HS.some H).symm; subst hr
    refine Hid.mk ⟨_, Wk.refl _, ?_⟩
    try simp -implicitDefEqProofs (maxSteps := 2000000) [-selQ_sel, h_1, h_2]
  · replace H := HS.cnd_f h_2 H
    try simp -implicitDefEqProofs (maxSteps := 2000000) [-selQ_sel, h_1, h_2]
    have hr := (HS.some H).symm; subst hr
    refine Hid.mk ⟨_, Wk.refl _, ?_⟩
    try simp -implicitDefEqProofs (maxSteps := 2000000) [-selQ_sel, h_1, h_2]
theorem impl_Times255_ok0 (hm : Try.prog.follows .mixedOrders = true) (k_impl_Clamp : Sound Try.prog 219 impl_Clamp_x) (k_impl_RoundDiv : Sound Try.prog 177 impl_RoundDiv_x) : Sound Try.prog 176 impl_Times255_x := by
  refine xOf_sound fun q r h => ?_
  obtain ⟨a0, a1⟩ := q
  refine fn_ok E0 hm Try.func176 rfl (by decide +kernel) (by rfl) fun Γ hn hk => ?_
  dsimp only [impl_Times255_e, impl_Times255_v]
  replace hn : Γ.n = 11 := hn
  replace hk : Γ.k = 0 := hk
  have H : HS (impl_Times255 a0 a1) r := h
  clear h; unfold impl_Times255 at H
  try simp -implicitDefEqProofs at H
  refine Tr.of_vc (cl := tabC [(219, impl_Clamp_x), (177, impl_RoundDiv_x)]) (E := E0) [] (tab_cons k_impl_Clamp (tab_cons k_impl_RoundDiv tab_nil)) hm (by rw [hn]; decide +kernel) ?_
  try simp -implicitDefEqProofs (maxSteps := 2000000) [-selQ_sel]
  obtain ⟨v1, h_1, H⟩ := HS.bnd H
  try simp -implicitDefEqProofs (maxSteps := 2000000) [-selQ_sel, h_1]
  obtain ⟨v2, h_2, H⟩ := HS.bnd H
  try simp -implicitDefEqProofs (maxSteps := 2000000) [-selQ_sel, h_1, h_2]
  obtain ⟨v3, h_3, H⟩ := HS.bnd H
  try simp -implicitDefEqProofs (maxSteps := 2000000) [-selQ_sel, h_1, h_2, h_3]
  have hr := (HS.some H).symm; subst hr
  refine Hid.mk ⟨_, Wk.refl _, ?_⟩
  try simp -implicitDefEqProofs (maxSteps := 2000000) [-selQ_sel, h_1, h_2, h_3]
theorem impl_Empty_ok0 (hm : Try.prog.follows .mixedOrders = true) : Sound Try.prog 158 impl_Empty_x := by
  refine xOf_sound fun q r h => ?_
  revert h; revert r; revert q; intro a0 r h
  refine fn_ok E0 hm Try.func158 rfl (by decide +kernel) (by rfl) fun Γ hn hk => ?_
  dsimp only [impl_Empty_e, impl_Empty_v]
  replace hn : Γ.n = 15 := hn
  replace hk : Γ.k = 0 := hk
  have H : HS (impl_Empty a0) r := h
  clear h; unfold impl_Empty at H
  try simp -implicitDefEqProofs at H
  refine Tr.of_vc (cl := tabC []) (E := E0) [] tab_nil hm (by rw [hn]; decide +kernel) ?_
  try simp -implicitDefEqProofs (maxSteps := 2000000) [-selQ_sel]
  refine Hid.selQ (fun h_1 => ?_) (fun h_1 => ?_)
  · replace H := HS.cnd_t h_1 H
    try simp -implicitDefEqProofs (maxSteps := 2000000) [-selQ_sel, h_1]
    have hr := (HS.some H).symm; subst hr
    refine Hid.mk ⟨_, Wk.refl _, ?_⟩
    try simp -implicitDefEqProofs (maxSteps := 2000000) [-selQ_sel, h_1]
  · replace H := HS.cnd_f h_1 H
    try simp -implicitDefEqProofs (maxSteps := 2000000) [-selQ_sel, h_1]
    have hr := (HS.some H).symm; subst hr
    refine Hid.mk ⟨_, Wk.refl _, ?_⟩
    try simp -implicitDefEqProofs (maxSteps := 2000000) [-selQ_sel, h_1]
theorem impl_inRange_ok0 (hm : Try.prog.follows .mixedOrders = true) : Sound Try.prog 76 impl_inRange_x := by
  refine xOf_sound fun q r h => ?_
  obtain ⟨a0, a1, a2⟩ := q
  refine fn_ok E0 hm Try.func76 rfl (by decide +kernel) (by rfl) fun Γ hn hk => ?_
  dsimp only [impl_inRange_e, impl_inRange_v]
  replace hn : Γ.n = 15 := hn
  replace hk : Γ.k = 0 := hk
  have H : HS (impl_inRange a0 a1 a2) r := h
  clear h; unfold impl_inRange at H
  try simp -implicitDefEqProofs at H
  refine Tr.of_vc (cl := tabC []) (E := E0) [] tab_nil hm (by rw [hn]; decide +kernel) ?_
  try simp -implicitDefEqProofs (maxSteps := 2000000) [-selQ_sel]
  refine Hid.selQ (fun h_1 => ?_) (fun h_1 => ?_)
  · replace H := HS.cnd_t h_1 H
    try simp -implicitDefEqProofs (maxSteps := 2000000) [-selQ_sel, h_1]
    have hr := (HS.some H).symm; subst hr
    refine Hid.mk ⟨_, Wk.refl _, ?_⟩
    try simp -implicitDefEqProofs (maxSteps := 2000000) [-selQ_sel, h_1]
  · replace H := HS.cnd_f h_1 H
    try simp -implicitDefEqProofs (maxSteps := 2000000) [-selQ_sel, h_1]
    have hr := (HS.some H).symm; subst hr
    refine Hid.mk ⟨_, Wk.refl _, ?_⟩
    try simp -implicitDefEqProofs (maxSteps := 2000000) [-selQ_sel, h_1]
theorem laws_markSurface_ok0 (hm : Try.prog.follows .mixedOrders = true) (k_laws_markColorS : Sound Try.prog 143 laws_markColorS_x) : Sound Try.prog 64 laws_markSurface_x := by
  refine xOf_sound fun q r h => ?_
  obtain ⟨a0, a1, a2, a3⟩ := q
  refine fn_ok E0 hm Try.func64 rfl (by decide +kernel) (by rfl) fun Γ hn hk => ?_
  dsimp only [laws_markSurface_e, laws_markSurface_v]
  replace hn : Γ.n = 10 := hn
  replace hk : Γ.k = 1 := hk
  have H : HS (laws_markSurface a0 a1 a2 a3) r := h
  clear h; unfold laws_markSurface at H
  try simp -implicitDefEqProofs at H
  refine Tr.of_vc (cl := tabC [(143, laws_markColorS_x)]) (E := E0) [] (tab_cons k_laws_markColorS tab_nil) hm (by rw [hn]; decide +kernel) ?_
  try simp -implicitDefEqProofs (maxSteps := 2000000) [-selQ_sel]
  obtain ⟨⟨w2, w3⟩, h_1, H⟩ := HS.bnd H
  dsimp only at H
  have g_2 := laws_markColorS_n h_1
  try simp -implicitDefEqProofs (maxSteps := 2000000) [-selQ_sel, h_1, g_2]
  have hr := (HS.some H).symm; subst hr
  refine Hid.mk ⟨_, Wk.refl _, ?_⟩
  try simp -implicitDefEqProofs (maxSteps := 2000000) [-selQ_sel, h_1, g_2]
theorem impl_isSide_ok0 (hm : Try.prog.follows .mixedOrders = true) (k_impl_inRange : Sound Try.prog 76 impl_inRange_x) : Sound Try.prog 102 impl_isSide_x := by
  refine xOf_sound fun q r h => ?_
  revert h; revert r; revert q; intro a0 r h
  refine fn_ok E0 hm Try.func102 rfl (by decide +kernel) (by rfl) fun Γ hn hk => ?_
  dsimp only [impl_isSide_e, impl_isSide_v]
  replace hn : Γ.n = 5 := hn
  replace hk : Γ.k = 0 := hk
  have H : HS (impl_isSide a0) r := h
  clear h; unfold impl_isSide at H
  try simp -implicitDefEqProofs at H
  refine Tr.of_vc (cl := tabC [(76, impl_inRange_x)]) (E := E0) [] (tab_cons k_impl_inRange tab_nil) hm (by rw [hn]; decide +kernel) ?_
  try simp -implicitDefEqProofs (maxSteps := 2000000) [-selQ_sel]
  obtain ⟨v1, h_1, H⟩ := HS.bnd H
  try simp -implicitDefEqProofs (maxSteps := 2000000) [-selQ_sel, h_1]
  have hr := (HS.some H).symm; subst hr
  refine Hid.mk ⟨_, Wk.refl _, ?_⟩
  try simp -implicitDefEqProofs (maxSteps := 2000000) [-selQ_sel, h_1]
theorem spec_l12Mix_ok0 (hm : Try.prog.follows .mixedOrders = true) (k_spec_RoundDiv : Sound Try.prog 124 spec_RoundDiv_x) : Sound Try.prog 128 spec_l12Mix_x := by
  refine xOf_sound fun q r h => ?_
  obtain ⟨a0, a1, a2⟩ := q
  refine fn_ok E0 hm Try.func128 rfl (by decide +kernel) (by rfl) fun Γ hn hk => ?_
  dsimp only [spec_l12Mix_e, spec_l12Mix_v]
  replace hn : Γ.n = 16 := hn
  replace hk : Γ.k = 0 := hk
  have H : HS (spec_l12Mix a0 a1 a2) r := h
  clear h; unfold spec_l12Mix at H
  try simp -implicitDefEqProofs at H
  refine Tr.of_vc (cl := tabC [(124, spec_RoundDiv_x)]) (E := E0) [] (tab_cons k_spec_RoundDiv tab_nil) hm (by rw [hn]; decide +kernel) ?_
  try simp -implicitDefEqProofs (maxSteps := 2000000) [-selQ_sel]
  obtain ⟨v1, h_1, H⟩ := HS.bnd H
  try simp -implicitDefEqProofs (maxSteps := 2000000) [-selQ_sel, h_1]
  have hr := (HS.some H).symm; subst hr
  refine Hid.mk ⟨_, Wk.refl _, ?_⟩
  try simp -implicitDefEqProofs (maxSteps := 2000000) [-selQ_sel, h_1]
theorem impl_Fade_1_ok0 (hm : Try.prog.follows .mixedOrders = true) (k_impl_Times255 : Sound Try.prog 176 impl_Times255_x) : Sound Try.prog 179 impl_Fade_1_x := by
  refine xOf_sound fun q r h => ?_
  obtain ⟨a0, a1, a2⟩ := q
  refine fn_ok E0 hm Try.func179 rfl (by decide +kernel) (by rfl) fun Γ hn hk => ?_
  dsimp only [impl_Fade_1_e, impl_Fade_1_v]
  replace hn : Γ.n = 9 := hn
  replace hk : Γ.k = 0 := hk
  have H : HS (impl_Fade_1 a0 a1 a2) r := h
  clear h; unfold impl_Fade_1 at H
  try simp -implicitDefEqProofs at H
  refine Tr.of_vc (cl := tabC [(176, impl_Times255_x)]) (E := E0) [] (tab_cons k_impl_Times255 tab_nil) hm (by rw [hn]; decide +kernel) ?_
  try simp -implicitDefEqProofs (maxSteps := 2000000) [-selQ_sel]
  obtain ⟨v1, h_1, H⟩ := HS.bnd H
  try simp -implicitDefEqProofs (maxSteps := 2000000) [-selQ_sel, h_1]
  have hr := (HS.some H).symm; subst hr
  refine Hid.mk ⟨_, Wk.refl _, ?_⟩
  try simp -implicitDefEqProofs (maxSteps := 2000000) [-selQ_sel, h_1]
theorem laws_toPoint_ok0 (hm : Try.prog.follows .mixedOrders = true) : Sound Try.prog 146 laws_toPoint_x := by
  refine xOf_sound fun q r h => ?_
  revert h; revert r; revert q; intro a0 r h
  refine fn_ok E0 hm Try.func146 rfl (by decide +kernel) (by rfl) fun Γ hn hk => ?_
  dsimp only [laws_toPoint_e, laws_toPoint_v]
  replace hn : Γ.n = 11 := hn
  replace hk : Γ.k = 0 := hk
  have H : HS (laws_toPoint a0) r := h
  clear h; unfold laws_toPoint at H
  try simp -implicitDefEqProofs at H
  refine Tr.of_vc (cl := tabC []) (E := E0) [] tab_nil hm (by rw [hn]; decide +kernel) ?_
  try simp -implicitDefEqProofs (maxSteps := 2000000) [-selQ_sel]
  have hr := (HS.some H).symm; subst hr
  refine Hid.mk ⟨_, Wk.refl _, ?_⟩
  try simp -implicitDefEqProofs (maxSteps := 2000000) [-selQ_sel]
end Go.Proofs.Ytoafihhhdnmliaa.Am
