import Derived.Test.YtoafihhhdnmliaaAmS1Mo
set_option linter.unusedVariables false
set_option linter.unusedSimpArgs false
set_option linter.unusedSectionVars false
namespace Go.Proofs.Ytoafihhhdnmliaa.Am
open Go Go.Proofs
set_option maxRecDepth 100000
set_option linter.unusedSimpArgs false
set_option linter.unusedVariables false
set_option maxHeartbeats 4000000
theorem impl_Sparing_ok0 (hm : Try.prog.follows .mixedOrders = true) (k_impl_isStamped : Sound Try.prog 87 impl_isStamped_x) (k_impl_TileBox : Sound Try.prog 88 impl_TileBox_x) (k_impl_sameWithin : Sound Try.prog 90 impl_sameWithin_x) (k_impl_meetsAny : Sound Try.prog 89 impl_meetsAny_x) : Sound Try.prog 20 impl_Sparing_x := by
  refine xOf_sound fun q r h => ?_
  obtain ⟨a0, a1⟩ := q
  refine fn_ok E0 hm Try.func20 rfl (by decide +kernel) (by rfl) fun Γ hn hk => ?_
  dsimp only [impl_Sparing_e, impl_Sparing_v]
  replace hn : Γ.n = 71 := hn
  replace hk : Γ.k = 0 := hk
  have H : HS (impl_Sparing a0 a1) r := h
  clear h; unfold impl_Sparing at H
  try simp -implicitDefEqProofs at H
  refine Tr.of_vc (cl := tabC [(87, impl_isStamped_x), (88, impl_TileBox_x), (90, impl_sameWithin_x), (89, impl_meetsAny_x)]) (E := E0) [] (tab_cons k_impl_isStamped (tab_cons k_impl_TileBox (tab_cons k_impl_sameWithin (tab_cons k_impl_meetsAny tab_nil)))) hm (by rw [hn]; decide +kernel) ?_
  try simp -implicitDefEqProofs +decide (maxSteps := 2000000) [-selQ_sel, hokQ_of]
  refine Hid.selQ (fun h_1 => ?_) (fun h_1 => ?_)
  · replace H := HS.cnd_t h_1 H
    try simp -implicitDefEqProofs +decide (maxSteps := 2000000) [-selQ_sel, hokQ_of, h_1]
    refine Hid.selQ (fun h_2 => ?_) (fun h_2 => ?_)
    · replace H := HS.cnd_t h_2 H
      try simp -implicitDefEqProofs +decide (maxSteps := 2000000) [-selQ_sel, hokQ_of, h_1, h_2]
      obtain ⟨v1, h_3, H⟩ := HS.bnd H
      try simp -implicitDefEqProofs +decide (maxSteps := 2000000) [-selQ_sel, hokQ_of, h_1, h_2, h_3]
      refine Hid.selQ (fun h_4 => ?_) (fun h_4 => ?_)
      · replace H := HS.cnd_t h_4 H
        try simp -implicitDefEqProofs +decide (maxSteps := 2000000) [-selQ_sel, hokQ_of, h_1, h_2, h_3, h_4]
        obtain ⟨v2, h_5, H⟩ := HS.bnd H
        try simp -implicitDefEqProofs +decide (maxSteps := 2000000) [-selQ_sel, hokQ_of, h_1, h_2, h_3, h_4, h_5]
        refine Hid.brV (fun h_6 => ?_) (fun h_6 => ?_)
        · replace H := HS.cnd_t h_6 H
          try simp -implicitDefEqProofs +decide (maxSteps := 2000000) [-selQ_sel, hokQ_of, h_1, h_2, h_3, h_4, h_5, h_6]
          obtain ⟨q, h_7, H⟩ := HS.bnd H
          refine Hid.mk (Tr.weak (s' := (impl_Sparing_l0_S a0 a1) 0) (Wk.ofk [0, 1] hk (by rfl) (by simp -implicitDefEqProofs [impl_Sparing_l0_S, h_1, h_2, h_3, h_4, h_5, h_6]) (by simp -implicitDefEqProofs [impl_Sparing_l0_S, h_1, h_2, h_3, h_4, h_5, h_6])) ?_)
          refine wp_loop_of (S := (impl_Sparing_l0_S a0 a1)) (f := (impl_Sparing_l0 a0 a1)) (xt := (impl_Sparing_l0_X a0 a1)) ?_ ?_ h_7 ?_
          · intro q; rcases q with ⟨⟩ | ⟨⟩ <;> simp [impl_Sparing_l0_X]
          · clear H h_7 q
            rintro x8 o R hf hR
            have H : HS (impl_Sparing_l0 a0 a1 x8) o := hf
            clear hf; unfold impl_Sparing_l0 at H
            try simp -implicitDefEqProofs at H
            refine Tr.of_vc (cl := tabC [(87, impl_isStamped_x), (88, impl_TileBox_x), (90, impl_sameWithin_x), (89, impl_meetsAny_x)]) (E := E0) [] (tab_cons k_impl_isStamped (tab_cons k_impl_TileBox (tab_cons k_impl_sameWithin (tab_cons k_impl_meetsAny tab_nil)))) hm (by rw [hn]; decide +kernel) ?_
            try simp -implicitDefEqProofs +decide (maxSteps := 2000000) [-selQ_sel, hokQ_of, impl_Sparing_l0_S]
            refine Hid.brV (fun h_8 => ?_) (fun h_8 => ?_)
            · replace H := HS.cnd_t h_8 H
              try simp -implicitDefEqProofs +decide (maxSteps := 2000000) [-selQ_sel, hokQ_of, h_8]
              have hr := (HS.some H).symm; subst hr
              exact Hid.mk ⟨(impl_Sparing_l0_X a0 a1 (.inl ())).2, Wk.ofk [] hk (by rfl) (by simp -implicitDefEqProofs [impl_Sparing_l0_X, h_8]) (by simp -implicitDefEqProofs [impl_Sparing_l0_X, h_8]), hR⟩
            · replace H := HS.cnd_f h_8 H
              try simp -implicitDefEqProofs +decide (maxSteps := 2000000) [-selQ_sel, hokQ_of, h_8]
              obtain ⟨v9, h_9, H⟩ := HS.bnd H
              try simp -implicitDefEqProofs +decide (maxSteps := 2000000) [-selQ_sel, hokQ_of, h_8, h_9]
              obtain ⟨v10, h_10, H⟩ := HS.bnd H
              try simp -implicitDefEqProofs +decide (maxSteps := 2000000) [-selQ_sel, hokQ_of, h_8, h_9, h_10]
              obtain ⟨v11, h_11, H⟩ := HS.bnd H
              try simp -implicitDefEqProofs +decide (maxSteps := 2000000) [-selQ_sel, hokQ_of, h_8, h_9, h_10, h_11]
              refine Hid.brV (fun h_12 => ?_) (fun h_12 => ?_)
              · replace H := HS.cnd_t h_12 H
                try simp -implicitDefEqProofs +decide (maxSteps := 2000000) [-selQ_sel, hokQ_of, h_8, h_9, h_10, h_11, h_12]
                obtain ⟨v12, h_13, H⟩ := HS.bnd H
                try simp -implicitDefEqProofs +decide (maxSteps := 2000000) [-selQ_sel, hokQ_of, h_8, h_9, h_10, h_11, h_12, h_13]
                refine Hid.brV (fun h_14 => ?_) (fun h_14 => ?_)
                · replace H := HS.cnd_t h_14 H
                  try simp -implicitDefEqProofs +decide (maxSteps := 2000000) [-selQ_sel, hokQ_of, h_8, h_9, h_10, h_11, h_12, h_13, h_14]
                  have hr := (HS.some H).symm; subst hr
                  exact Hid.mk ⟨impl_Sparing_l0_S a0 a1 (IntKind.i64.wrap (x8 + 1)), Wk.ofk [0, 1] hk (by rfl) (by simp -implicitDefEqProofs [impl_Sparing_l0_S, h_8, h_9, h_10, h_11, h_12, h_13, h_14]) (by simp -implicitDefEqProofs [impl_Sparing_l0_S, h_8, h_9, h_10, h_11, h_12, h_13, h_14]), hR⟩
                · replace H := HS.cnd_f h_14 H
                  try simp -implicitDefEqProofs +decide (maxSteps := 2000000) [-selQ_sel, hokQ_of, h_8, h_9, h_10, h_11, h_12, h_13, h_14]
                  have hr := (HS.some H).symm; subst hr
                  exact Hid.mk ⟨(impl_Sparing_l0_X a0 a1 (.inr ())).2, Wk.ofk [] hk (by rfl) (by simp -implicitDefEqProofs [impl_Sparing_l0_X, h_8, h_9, h_10, h_11, h_12, h_13, h_14]) (by simp -implicitDefEqProofs [impl_Sparing_l0_X, h_8, h_9, h_10, h_11, h_12, h_13, h_14]), hR⟩
              · replace H := HS.cnd_f h_12 H
                try simp -implicitDefEqProofs +decide (maxSteps := 2000000) [-selQ_sel, hokQ_of, h_8, h_9, h_10, h_11, h_12]
                obtain ⟨v13, h_15, H⟩ := HS.bnd H
                try simp -implicitDefEqProofs +decide (maxSteps := 2000000) [-selQ_sel, hokQ_of, h_8, h_9, h_10, h_11, h_12, h_15]
                refine Hid.brV (fun h_16 => ?_) (fun h_16 => ?_)
                · replace H := HS.cnd_t h_16 H
                  try simp -implicitDefEqProofs +decide (maxSteps := 2000000) [-selQ_sel, hokQ_of, h_8, h_9, h_10, h_11, h_12, h_15, h_16]
                  have hr := (HS.some H).symm; subst hr
                  exact Hid.mk ⟨impl_Sparing_l0_S a0 a1 (IntKind.i64.wrap (x8 + 1)), Wk.ofk [0, 1] hk (by rfl) (by simp -implicitDefEqProofs [impl_Sparing_l0_S, h_8, h_9, h_10, h_11, h_12, h_15, h_16]) (by simp -implicitDefEqProofs [impl_Sparing_l0_S, h_8, h_9, h_10, h_11, h_12, h_15, h_16]), hR⟩
                · replace H := HS.cnd_f h_16 H
                  try simp -implicitDefEqProofs +decide (maxSteps := 2000000) [-selQ_sel, hokQ_of, h_8, h_9, h_10, h_11, h_12, h_15, h_16]
                  have hr := (HS.some H).symm; subst hr
                  exact Hid.mk ⟨(impl_Sparing_l0_X a0 a1 (.inr ())).2, Wk.ofk [] hk (by rfl) (by simp -implicitDefEqProofs [impl_Sparing_l0_X, h_8, h_9, h_10, h_11, h_12, h_15, h_16]) (by simp -implicitDefEqProofs [impl_Sparing_l0_X, h_8, h_9, h_10, h_11, h_12, h_15, h_16]), hR⟩
          · rcases q with ⟨⟩ | ⟨⟩
            · dsimp only at H
              try simp -implicitDefEqProofs +decide (maxSteps := 2000000) [-selQ_sel, hokQ_of, h_1, h_2, h_3, h_4, h_5, h_6, impl_Sparing_l0_X]
              have hr := (HS.some H).symm; subst hr
              refine Hid.mk ⟨_, Wk.refl _, ?_⟩
              try simp -implicitDefEqProofs +decide (maxSteps := 2000000) [-selQ_sel, hokQ_of, h_1, h_2, h_3, h_4, h_5, h_6]
            · dsimp only at H
              try simp -implicitDefEqProofs +decide (maxSteps := 2000000) [-selQ_sel, hokQ_of, h_1, h_2, h_3, h_4, h_5, h_6, impl_Sparing_l0_X]
              have hr := (HS.some H).symm; subst hr
              refine Hid.mk ⟨_, Wk.refl _, ?_⟩
              try simp -implicitDefEqProofs +decide (maxSteps := 2000000) [-selQ_sel, hokQ_of, h_1, h_2, h_3, h_4, h_5, h_6]
        · replace H := HS.cnd_f h_6 H
          try simp -implicitDefEqProofs +decide (maxSteps := 2000000) [-selQ_sel, hokQ_of, h_1, h_2, h_3, h_4, h_5, h_6]
          have hr := (HS.some H).symm; subst hr
          refine Hid.mk ⟨_, Wk.refl _, ?_⟩
          try simp -implicitDefEqProofs +decide (maxSteps := 2000000) [-selQ_sel, hokQ_of, h_1, h_2, h_3, h_4, h_5, h_6]
      · replace H := HS.cnd_f h_4 H
        try simp -implicitDefEqProofs +decide (maxSteps := 2000000) [-selQ_sel, hokQ_of, h_1, h_2, h_3, h_4]
        have hr := (HS.some H).symm; subst hr
        refine Hid.mk ⟨_, Wk.refl _, ?_⟩
        try simp -implicitDefEqProofs +decide (maxSteps := 2000000) [-selQ_sel, hokQ_of, h_1, h_2, h_3, h_4]
    · replace H := HS.cnd_f h_2 H
      try simp -implicitDefEqProofs +decide (maxSteps := 2000000) [-selQ_sel, hokQ_of, h_1, h_2]
      have hr := (HS.some H).symm; subst hr
      refine Hid.mk ⟨_, Wk.refl _, ?_⟩
      try simp -implicitDefEqProofs +decide (maxSteps := 2000000) [-selQ_sel, hokQ_of, h_1, h_2]
  · replace H := HS.cnd_f h_1 H
    try simp -implicitDefEqProofs +decide (maxSteps := 2000000) [-selQ_sel, hokQ_of, h_1]
    have hr := (HS.some H).symm; subst hr
    refine Hid.mk ⟨_, Wk.refl _, ?_⟩
    try simp -implicitDefEqProofs +decide (maxSteps := 2000000) [-selQ_sel, hokQ_of, h_1]
theorem impl_sameWithin_ok0 (hm : Try.prog.follows .mixedOrders = true) : Sound Try.prog 90 impl_sameWithin_x := by
  refine xOf_sound fun q r h => ?_
  obtain ⟨a0, a1, a2⟩ := q
  refine fn_ok E0 hm Try.func90 rfl (by decide +kernel) (by rfl) fun Γ hn hk => ?_
  dsimp only [impl_sameWithin_e, impl_sameWithin_v]
  replace hn : Γ.n = 46 := hn
  replace hk : Γ.k = 0 := hk
  have H : HS (impl_sameWithin a0 a1 a2) r := h
  clear h; unfold impl_sameWithin at H
  try simp -implicitDefEqProofs at H
  refine Tr.of_vc (cl := tabC []) (E := E0) [] tab_nil hm (by rw [hn]; decide +kernel) ?_
  try simp -implicitDefEqProofs +decide (maxSteps := 2000000) [-selQ_sel, hokQ_of]
  obtain ⟨q, h_1, H⟩ := HS.bnd H
  refine Hid.mk (Tr.weak (s' := (impl_sameWithin_l1_S a0 a1 a2) a2.y0) (Wk.ofk [0, 1, 2] hk (by rfl) (by simp -implicitDefEqProofs [impl_sameWithin_l1_S]) (by simp -implicitDefEqProofs [impl_sameWithin_l1_S])) ?_)
  refine wp_loop_of (S := (impl_sameWithin_l1_S a0 a1 a2)) (f := (impl_sameWithin_l1 a0 a1 a2)) (xt := (impl_sameWithin_l1_X a0 a1 a2)) ?_ ?_ h_1 ?_
  · intro q; rcases q with ⟨⟩ | ⟨⟩ <;> simp [impl_sameWithin_l1_X]
  · clear H h_1 q
    rintro x6 o R hf hR
    have H : HS (impl_sameWithin_l1 a0 a1 a2 x6) o := hf
    clear hf; unfold impl_sameWithin_l1 at H
    try simp -implicitDefEqProofs at H
    refine Tr.of_vc (cl := tabC []) (E := E0) [] tab_nil hm (by rw [hn]; decide +kernel) ?_
    try simp -implicitDefEqProofs +decide (maxSteps := 2000000) [-selQ_sel, hokQ_of, impl_sameWithin_l1_S]
    refine Hid.brV (fun h_2 => ?_) (fun h_2 => ?_)
    · replace H := HS.cnd_t h_2 H
      try simp -implicitDefEqProofs +decide (maxSteps := 2000000) [-selQ_sel, hokQ_of, h_2]
      have hr := (HS.some H).symm; subst hr
      exact Hid.mk ⟨(impl_sameWithin_l1_X a0 a1 a2 (.inl ())).2, Wk.ofk [] hk (by rfl) (by simp -implicitDefEqProofs [impl_sameWithin_l1_X, h_2]) (by simp -implicitDefEqProofs [impl_sameWithin_l1_X, h_2]), hR⟩
    · replace H := HS.cnd_f h_2 H
      try simp -implicitDefEqProofs +decide (maxSteps := 2000000) [-selQ_sel, hokQ_of, h_2]
      obtain ⟨q, h_3, H⟩ := HS.bnd H
      refine Hid.mk (Tr.weak (s' := (impl_sameWithin_l0_S a0 a1 a2 x6) a2.x0) (Wk.ofk [0, 1, 2] hk (by rfl) (by simp -implicitDefEqProofs [impl_sameWithin_l0_S, h_2]) (by simp -implicitDefEqProofs [impl_sameWithin_l0_S, h_2])) ?_)
      refine wp_loop_of (S := (impl_sameWithin_l0_S a0 a1 a2 x6)) (f := (impl_sameWithin_l0 a0 a1 a2 x6)) (xt := (impl_sameWithin_l0_X a0 a1 a2 x6)) ?_ ?_ h_3 ?_
      · intro q; rcases q with ⟨⟩ | ⟨⟩ <;> simp [impl_sameWithin_l0_X]
      · clear H h_3 q
        rintro x9 o R hf hR
        have H : HS (impl_sameWithin_l0 a0 a1 a2 x6 x9) o := hf
        clear hf; unfold impl_sameWithin_l0 at H
        try simp -implicitDefEqProofs at H
        refine Tr.of_vc (cl := tabC []) (E := E0) [] tab_nil hm (by rw [hn]; decide +kernel) ?_
        try simp -implicitDefEqProofs +decide (maxSteps := 2000000) [-selQ_sel, hokQ_of, impl_sameWithin_l0_S]
        refine Hid.brV (fun h_4 => ?_) (fun h_4 => ?_)
        · replace H := HS.cnd_t h_4 H
          try simp -implicitDefEqProofs +decide (maxSteps := 2000000) [-selQ_sel, hokQ_of, h_4]
          have hr := (HS.some H).symm; subst hr
          exact Hid.mk ⟨(impl_sameWithin_l0_X a0 a1 a2 x6 (.inl ())).2, Wk.ofk [0, 1, 2] hk (by rfl) (by simp -implicitDefEqProofs [impl_sameWithin_l0_X, h_4]) (by simp -implicitDefEqProofs [impl_sameWithin_l0_X, h_4]), hR⟩
        · replace H := HS.cnd_f h_4 H
          try simp -implicitDefEqProofs +decide (maxSteps := 2000000) [-selQ_sel, hokQ_of, h_4]
          obtain ⟨v10, h_5, H⟩ := HS.bnd H
          try simp -implicitDefEqProofs +decide (maxSteps := 2000000) [-selQ_sel, hokQ_of, h_4, h_5]
          obtain ⟨v11, h_6, H⟩ := HS.bnd H
          try simp -implicitDefEqProofs +decide (maxSteps := 2000000) [-selQ_sel, hokQ_of, h_4, h_5, h_6]
          refine Hid.brV (fun h_7 => ?_) (fun h_7 => ?_)
          · replace H := HS.cnd_t h_7 H
            try simp -implicitDefEqProofs +decide (maxSteps := 2000000) [-selQ_sel, hokQ_of, h_4, h_5, h_6, h_7]
            have hr := (HS.some H).symm; subst hr
            exact Hid.mk ⟨impl_sameWithin_l0_S a0 a1 a2 x6 (IntKind.i64.wrap (x9 + 1)), Wk.ofk [0, 1, 2] hk (by rfl) (by simp -implicitDefEqProofs [impl_sameWithin_l0_S, h_4, h_5, h_6, h_7]) (by simp -implicitDefEqProofs [impl_sameWithin_l0_S, h_4, h_5, h_6, h_7]), hR⟩
          · replace H := HS.cnd_f h_7 H
            try simp -implicitDefEqProofs +decide (maxSteps := 2000000) [-selQ_sel, hokQ_of, h_4, h_5, h_6, h_7]
            have hr := (HS.some H).symm; subst hr
            exact Hid.mk ⟨(impl_sameWithin_l0_X a0 a1 a2 x6 (.inr ())).2, Wk.ofk [] hk (by rfl) (by simp -implicitDefEqProofs [impl_sameWithin_l0_X, h_4, h_5, h_6, h_7]) (by simp -implicitDefEqProofs [impl_sameWithin_l0_X, h_4, h_5, h_6, h_7]), hR⟩
      · rcases q with ⟨⟩ | ⟨⟩
        · dsimp only at H
          try simp -implicitDefEqProofs +decide (maxSteps := 2000000) [-selQ_sel, hokQ_of, h_2, impl_sameWithin_l0_X]
          have hr := (HS.some H).symm; subst hr
          exact Hid.mk ⟨impl_sameWithin_l1_S a0 a1 a2 (IntKind.i64.wrap (x6 + 1)), Wk.ofk [0, 1, 2] hk (by rfl) (by simp -implicitDefEqProofs [impl_sameWithin_l1_S, h_2]) (by simp -implicitDefEqProofs [impl_sameWithin_l1_S, h_2]), hR⟩
        · dsimp only at H
          try simp -implicitDefEqProofs +decide (maxSteps := 2000000) [-selQ_sel, hokQ_of, h_2, impl_sameWithin_l0_X]
          have hr := (HS.some H).symm; subst hr
          exact Hid.mk ⟨(impl_sameWithin_l1_X a0 a1 a2 (.inr ())).2, Wk.ofk [] hk (by rfl) (by simp -implicitDefEqProofs [impl_sameWithin_l1_X, h_2]) (by simp -implicitDefEqProofs [impl_sameWithin_l1_X, h_2]), hR⟩
  · rcases q with ⟨⟩ | ⟨⟩
    · dsimp only at H
      try simp -implicitDefEqProofs +decide (maxSteps := 2000000) [-selQ_sel, hokQ_of, impl_sameWithin_l1_X]
      have hr := (HS.some H).symm; subst hr
      refine Hid.mk ⟨_, Wk.refl _, ?_⟩
      try simp -implicitDefEqProofs +decide (maxSteps := 2000000) [-selQ_sel, hokQ_of]
    · dsimp only at H
      try simp -implicitDefEqProofs +decide (maxSteps := 2000000) [-selQ_sel, hokQ_of, impl_sameWithin_l1_X]
      have hr := (HS.some H).symm; subst hr
      refine Hid.mk ⟨_, Wk.refl _, ?_⟩
      try simp -implicitDefEqProofs +decide (maxSteps := 2000000) [-selQ_sel, hokQ_of]
theorem laws_FnExactSparing_ok0 (hm : Try.prog.follows .mixedOrders = true) (k_laws_szEngine : Sound Try.prog 17 laws_szEngine_x) (k_laws_toEngine : Sound Try.prog 19 laws_toEngine_x) (k_spec_Sparing : Sound Try.prog 18 spec_Sparing_x) (k_impl_Sparing : Sound Try.prog 20 impl_Sparing_x) (k_laws_eqEngine : Sound Try.prog 21 laws_eqEngine_x) : Sound Try.prog 4 laws_FnExactSparing_x := by
  refine xOf_sound fun q r h => ?_
  obtain ⟨a0, a1⟩ := q
  refine fn_ok E0 hm Try.func4 rfl (by decide +kernel) (by rfl) fun Γ hn hk => ?_
  dsimp only [laws_FnExactSparing_e, laws_FnExactSparing_v]
  replace hn : Γ.n = 45 := hn
  replace hk : Γ.k = 0 := hk
  have H : HS (laws_FnExactSparing a0 a1) r := h
  clear h; unfold laws_FnExactSparing at H
  try simp -implicitDefEqProofs at H
  refine Tr.of_vc (cl := tabC [(17, laws_szEngine_x), (19, laws_toEngine_x), (18, spec_Sparing_x), (20, impl_Sparing_x), (21, laws_eqEngine_x)]) (E := E0) [] (tab_cons k_laws_szEngine (tab_cons k_laws_toEngine (tab_cons k_spec_Sparing (tab_cons k_impl_Sparing (tab_cons k_laws_eqEngine tab_nil))))) hm (by rw [hn]; decide +kernel) ?_
  try simp -implicitDefEqProofs +decide (maxSteps := 2000000) [-selQ_sel, hokQ_of]
  obtain ⟨v1, h_1, H⟩ := HS.bnd H
  try simp -implicitDefEqProofs +decide (maxSteps := 2000000) [-selQ_sel, hokQ_of, h_1]
  refine Hid.brV (fun h_2 => ?_) (fun h_2 => ?_)
  · replace H := HS.cnd_t h_2 H
    try simp -implicitDefEqProofs +decide (maxSteps := 2000000) [-selQ_sel, hokQ_of, h_1, h_2]
    obtain ⟨v2, h_3, H⟩ := HS.bnd H
    try simp -implicitDefEqProofs +decide (maxSteps := 2000000) [-selQ_sel, hokQ_of, h_1, h_2, h_3]
    refine Hid.brV (fun h_4 => ?_) (fun h_4 => ?_)
    · replace H := HS.cnd_t h_4 H
      try simp -implicitDefEqProofs +decide (maxSteps := 2000000) [-selQ_sel, hokQ_of, h_1, h_2, h_3, h_4]
      obtain ⟨v3, h_5, H⟩ := HS.bnd H
      try simp -implicitDefEqProofs +decide (maxSteps := 2000000) [-selQ_sel, hokQ_of, h_1, h_2, h_3, h_4, h_5]
      obtain ⟨v4, h_6, H⟩ := HS.bnd H
      try simp -implicitDefEqProofs +decide (maxSteps := 2000000) [-selQ_sel, hokQ_of, h_1, h_2, h_3, h_4, h_5, h_6]
      obtain ⟨v5, h_7, H⟩ := HS.bnd H
      try simp -implicitDefEqProofs +decide (maxSteps := 2000000) [-selQ_sel, hokQ_of, h_1, h_2, h_3, h_4, h_5, h_6, h_7]
      obtain ⟨v6, h_8, H⟩ := HS.bnd H
      try simp -implicitDefEqProofs +decide (maxSteps := 2000000) [-selQ_sel, hokQ_of, h_1, h_2, h_3, h_4, h_5, h_6, h_7, h_8]
      refine Hid.brV (fun h_9 => ?_) (fun h_9 => ?_)
      · replace H := HS.cnd_t h_9 H
        try simp -implicitDefEqProofs +decide (maxSteps := 2000000) [-selQ_sel, hokQ_of, h_1, h_2, h_3, h_4, h_5, h_6, h_7, h_8, h_9]
        obtain ⟨v7, h_10, H⟩ := HS.bnd H
        try simp -implicitDefEqProofs +decide (maxSteps := 2000000) [-selQ_sel, hokQ_of, h_1, h_2, h_3, h_4, h_5, h_6, h_7, h_8, h_9, h_10]
        refine Hid.brV (fun h_11 => ?_) (fun h_11 => ?_)
        · replace H := HS.cnd_t h_11 H
          try simp -implicitDefEqProofs +decide (maxSteps := 2000000) [-selQ_sel, hokQ_of, h_1, h_2, h_3, h_4, h_5, h_6, h_7, h_8, h_9, h_10, h_11]
          obtain ⟨v8, h_12, H⟩ := HS.bnd H
          try simp -implicitDefEqProofs +decide (maxSteps := 2000000) [-selQ_sel, hokQ_of, h_1, h_2, h_3, h_4, h_5, h_6, h_7, h_8, h_9, h_10, h_11, h_12]
          refine Hid.brV (fun h_13 => ?_) (fun h_13 => ?_)
          · replace H := HS.cnd_t h_13 H
            try simp -implicitDefEqProofs +decide (maxSteps := 2000000) [-selQ_sel, hokQ_of, h_1, h_2, h_3, h_4, h_5, h_6, h_7, h_8, h_9, h_10, h_11, h_12, h_13]
            have hr := (HS.some H).symm; subst hr
            refine Hid.mk ⟨_, Wk.refl _, ?_⟩
            try simp -implicitDefEqProofs +decide (maxSteps := 2000000) [-selQ_sel, hokQ_of, h_1, h_2, h_3, h_4, h_5, h_6, h_7, h_8, h_9, h_10, h_11, h_12, h_13]
          · replace H := HS.cnd_f h_13 H
            try simp -implicitDefEqProofs +decide (maxSteps := 2000000) [-selQ_sel, hokQ_of, h_1, h_2, h_3, h_4, h_5, h_6, h_7, h_8, h_9, h_10, h_11, h_12, h_13]
            have hr := (HS.some H).symm; subst hr
            refine Hid.mk ⟨_, Wk.refl _, ?_⟩
            try simp -implicitDefEqProofs +decide (maxSteps := 2000000) [-selQ_sel, hokQ_of, h_1, h_2, h_3, h_4, h_5, h_6, h_7, h_8, h_9, h_10, h_11, h_12, h_13]
        · replace H := HS.cnd_f h_11 H
          try simp -implicitDefEqProofs +decide (maxSteps := 2000000) [-selQ_sel, hokQ_of, h_1, h_2, h_3, h_4, h_5, h_6, h_7, h_8, h_9, h_10, h_11]
          have hr := (HS.some H).symm; subst hr
          refine Hid.mk ⟨_, Wk.refl _, ?_⟩
          try simp -implicitDefEqProofs +decide (maxSteps := 2000000) [-selQ_sel, hokQ_of, h_1, h_2, h_3, h_4, h_5, h_6, h_7, h_8, h_9, h_10, h_11]
      · replace H := HS.cnd_f h_9 H
        try simp -implicitDefEqProofs +decide (maxSteps := 2000000) [-selQ_sel, hokQ_of, h_1, h_2, h_3, h_4, h_5, h_6, h_7, h_8, h_9]
        have hr := (HS.some H).symm; subst hr
        refine Hid.mk ⟨_, Wk.refl _, ?_⟩
        try simp -implicitDefEqProofs +decide (maxSteps := 2000000) [-selQ_sel, hokQ_of, h_1, h_2, h_3, h_4, h_5, h_6, h_7, h_8, h_9]
    · replace H := HS.cnd_f h_4 H
      try simp -implicitDefEqProofs +decide (maxSteps := 2000000) [-selQ_sel, hokQ_of, h_1, h_2, h_3, h_4]
      have hr := (HS.some H).symm; subst hr
      refine Hid.mk ⟨_, Wk.refl _, ?_⟩
      try simp -implicitDefEqProofs +decide (maxSteps := 2000000) [-selQ_sel, hokQ_of, h_1, h_2, h_3, h_4]
  · replace H := HS.cnd_f h_2 H
    try simp -implicitDefEqProofs +decide (maxSteps := 2000000) [-selQ_sel, hokQ_of, h_1, h_2]
    have hr := (HS.some H).symm; subst hr
    refine Hid.mk ⟨_, Wk.refl _, ?_⟩
    try simp -implicitDefEqProofs +decide (maxSteps := 2000000) [-selQ_sel, hokQ_of, h_1, h_2]
theorem laws_eqPointS_ok0 (hm : Try.prog.follows .mixedOrders = true) (k_laws_eqPoint : Sound Try.prog 240 laws_eqPoint_x) : Sound Try.prog 239 laws_eqPointS_x := by
  refine xOf_sound fun q r h => ?_
  obtain ⟨a0, a1⟩ := q
  refine fn_ok E0 hm Try.func239 rfl (by decide +kernel) (by rfl) fun Γ hn hk => ?_
  dsimp only [laws_eqPointS_e, laws_eqPointS_v]
  replace hn : Γ.n = 27 := hn
  replace hk : Γ.k = 0 := hk
  have H : HS (laws_eqPointS a0 a1) r := h
  clear h; unfold laws_eqPointS at H
  try simp -implicitDefEqProofs at H
  refine Tr.of_vc (cl := tabC [(240, laws_eqPoint_x)]) (E := E0) [] (tab_cons k_laws_eqPoint tab_nil) hm (by rw [hn]; decide +kernel) ?_
  try simp -implicitDefEqProofs +decide (maxSteps := 2000000) [-selQ_sel, hokQ_of]
  refine Hid.brV (fun h_1 => ?_) (fun h_1 => ?_)
  · replace H := HS.cnd_t h_1 H
    try simp -implicitDefEqProofs +decide (maxSteps := 2000000) [-selQ_sel, hokQ_of, h_1]
    obtain ⟨q, h_2, H⟩ := HS.bnd H
    refine Hid.mk (Tr.weak (s' := (laws_eqPointS_l0_S a0 a1) 0) (Wk.ofk [] hk (by rfl) (by simp -implicitDefEqProofs [laws_eqPointS_l0_S, h_1]) (by simp -implicitDefEqProofs [laws_eqPointS_l0_S, h_1])) ?_)
    refine wp_loop_of (S := (laws_eqPointS_l0_S a0 a1)) (f := (laws_eqPointS_l0 a0 a1)) (xt := (laws_eqPointS_l0_X a0 a1)) ?_ ?_ h_2 ?_
    · intro q; rcases q with ⟨⟩ | ⟨⟩ <;> simp [laws_eqPointS_l0_X]
    · clear H h_2 q
      rintro x4 o R hf hR
      have H : HS (laws_eqPointS_l0 a0 a1 x4) o := hf
      clear hf; unfold laws_eqPointS_l0 at H
      try simp -implicitDefEqProofs at H
      refine Tr.of_vc (cl := tabC [(240, laws_eqPoint_x)]) (E := E0) [] (tab_cons k_laws_eqPoint tab_nil) hm (by rw [hn]; decide +kernel) ?_
      try simp -implicitDefEqProofs +decide (maxSteps := 2000000) [-selQ_sel, hokQ_of, laws_eqPointS_l0_S]
      refine Hid.brV (fun h_3 => ?_) (fun h_3 => ?_)
      · replace H := HS.cnd_t h_3 H
        try simp -implicitDefEqProofs +decide (maxSteps := 2000000) [-selQ_sel, hokQ_of, h_3]
        have hr := (HS.some H).symm; subst hr
        exact Hid.mk ⟨(laws_eqPointS_l0_X a0 a1 (.inl ())).2, Wk.ofk [] hk (by rfl) (by simp -implicitDefEqProofs [laws_eqPointS_l0_X, h_3]) (by simp -implicitDefEqProofs [laws_eqPointS_l0_X, h_3]), hR⟩
      · replace H := HS.cnd_f h_3 H
        try simp -implicitDefEqProofs +decide (maxSteps := 2000000) [-selQ_sel, hokQ_of, h_3]
        obtain ⟨v5, h_4, H⟩ := HS.bnd H
        try simp -implicitDefEqProofs +decide (maxSteps := 2000000) [-selQ_sel, hokQ_of, h_3, h_4]
        obtain ⟨v6, h_5, H⟩ := HS.bnd H
        try simp -implicitDefEqProofs +decide (maxSteps := 2000000) [-selQ_sel, hokQ_of, h_3, h_4, h_5]
        obtain ⟨v7, h_6, H⟩ := HS.bnd H
        try simp -implicitDefEqProofs +decide (maxSteps := 2000000) [-selQ_sel, hokQ_of, h_3, h_4, h_5, h_6]
        refine Hid.brV (fun h_7 => ?_) (fun h_7 => ?_)
        · replace H := HS.cnd_t h_7 H
          try simp -implicitDefEqProofs +decide (maxSteps := 2000000) [-selQ_sel, hokQ_of, h_3, h_4, h_5, h_6, h_7]
          have hr := (HS.some H).symm; subst hr
          exact Hid.mk ⟨laws_eqPointS_l0_S a0 a1 (IntKind.i64.wrap (x4 + 1)), Wk.ofk [] hk (by rfl) (by simp -implicitDefEqProofs [laws_eqPointS_l0_S, h_3, h_4, h_5, h_6, h_7]) (by simp -implicitDefEqProofs [laws_eqPointS_l0_S, h_3, h_4, h_5, h_6, h_7]), hR⟩
        · replace H := HS.cnd_f h_7 H
          try simp -implicitDefEqProofs +decide (maxSteps := 2000000) [-selQ_sel, hokQ_of, h_3, h_4, h_5, h_6, h_7]
          have hr := (HS.some H).symm; subst hr
          exact Hid.mk ⟨(laws_eqPointS_l0_X a0 a1 (.inr ())).2, Wk.ofk [] hk (by rfl) (by simp -implicitDefEqProofs [laws_eqPointS_l0_X, h_3, h_4, h_5, h_6, h_7]) (by simp -implicitDefEqProofs [laws_eqPointS_l0_X, h_3, h_4, h_5, h_6, h_7]), hR⟩
    · rcases q with ⟨⟩ | ⟨⟩
      · dsimp only at H
        try simp -implicitDefEqProofs +decide (maxSteps := 2000000) [-selQ_sel, hokQ_of, h_1, laws_eqPointS_l0_X]
        have hr := (HS.some H).symm; subst hr
        refine Hid.mk ⟨_, Wk.refl _, ?_⟩
        try simp -implicitDefEqProofs +decide (maxSteps := 2000000) [-selQ_sel, hokQ_of, h_1]
      · dsimp only at H
        try simp -implicitDefEqProofs +decide (maxSteps := 2000000) [-selQ_sel, hokQ_of, h_1, laws_eqPointS_l0_X]
        have hr := (HS.some H).symm; subst hr
        refine Hid.mk ⟨_, Wk.refl _, ?_⟩
        try simp -implicitDefEqProofs +decide (maxSteps := 2000000) [-selQ_sel, hokQ_of, h_1]
  · replace H := HS.cnd_f h_1 H
    try simp -implicitDefEqProofs +decide (maxSteps := 2000000) [-selQ_sel, hokQ_of, h_1]
    have hr := (HS.some H).symm; subst hr
    refine Hid.mk ⟨_, Wk.refl _, ?_⟩
    try simp -implicitDefEqProofs +decide (maxSteps := 2000000) [-selQ_sel, hokQ_of, h_1]
theorem laws_eqColorS_ok0 (hm : Try.prog.follows .mixedOrders = true) (k_laws_eqColor : Sound Try.prog 202 laws_eqColor_x) : Sound Try.prog 142 laws_eqColorS_x := by
  refine xOf_sound fun q r h => ?_
  obtain ⟨a0, a1⟩ := q
  refine fn_ok E0 hm Try.func142 rfl (by decide +kernel) (by rfl) fun Γ hn hk => ?_
  dsimp only [laws_eqColorS_e, laws_eqColorS_v]
  replace hn : Γ.n = 27 := hn
  replace hk : Γ.k = 0 := hk
  have H : HS (laws_eqColorS a0 a1) r := h
  clear h; unfold laws_eqColorS at H
  try simp -implicitDefEqProofs at H
  refine Tr.of_vc (cl := tabC [(202, laws_eqColor_x)]) (E := E0) [] (tab_cons k_laws_eqColor tab_nil) hm (by rw [hn]; decide +kernel) ?_
  try simp -implicitDefEqProofs +decide (maxSteps := 2000000) [-selQ_sel, hokQ_of]
  refine Hid.brV (fun h_1 => ?_) (fun h_1 => ?_)
  · replace H := HS.cnd_t h_1 H
    try simp -implicitDefEqProofs +decide (maxSteps := 2000000) [-selQ_sel, hokQ_of, h_1]
    obtain ⟨q, h_2, H⟩ := HS.bnd H
    refine Hid.mk (Tr.weak (s' := (laws_eqColorS_l0_S a0 a1) 0) (Wk.ofk [] hk (by rfl) (by simp -implicitDefEqProofs [laws_eqColorS_l0_S, h_1]) (by simp -implicitDefEqProofs [laws_eqColorS_l0_S, h_1])) ?_)
    refine wp_loop_of (S := (laws_eqColorS_l0_S a0 a1)) (f := (laws_eqColorS_l0 a0 a1)) (xt := (laws_eqColorS_l0_X a0 a1)) ?_ ?_ h_2 ?_
    · intro q; rcases q with ⟨⟩ | ⟨⟩ <;> simp [laws_eqColorS_l0_X]
    · clear H h_2 q
      rintro x4 o R hf hR
      have H : HS (laws_eqColorS_l0 a0 a1 x4) o := hf
      clear hf; unfold laws_eqColorS_l0 at H
      try simp -implicitDefEqProofs at H
      refine Tr.of_vc (cl := tabC [(202, laws_eqColor_x)]) (E := E0) [] (tab_cons k_laws_eqColor tab_nil) hm (by rw [hn]; decide +kernel) ?_
      try simp -implicitDefEqProofs +decide (maxSteps := 2000000) [-selQ_sel, hokQ_of, laws_eqColorS_l0_S]
      refine Hid.brV (fun h_3 => ?_) (fun h_3 => ?_)
      · replace H := HS.cnd_t h_3 H
        try simp -implicitDefEqProofs +decide (maxSteps := 2000000) [-selQ_sel, hokQ_of, h_3]
        have hr := (HS.some H).symm; subst hr
        exact Hid.mk ⟨(laws_eqColorS_l0_X a0 a1 (.inl ())).2, Wk.ofk [] hk (by rfl) (by simp -implicitDefEqProofs [laws_eqColorS_l0_X, h_3]) (by simp -implicitDefEqProofs [laws_eqColorS_l0_X, h_3]), hR⟩
      · replace H := HS.cnd_f h_3 H
        try simp -implicitDefEqProofs +decide (maxSteps := 2000000) [-selQ_sel, hokQ_of, h_3]
        obtain ⟨v5, h_4, H⟩ := HS.bnd H
        try simp -implicitDefEqProofs +decide (maxSteps := 2000000) [-selQ_sel, hokQ_of, h_3, h_4]
        obtain ⟨v6, h_5, H⟩ := HS.bnd H
        try simp -implicitDefEqProofs +decide (maxSteps := 2000000) [-selQ_sel, hokQ_of, h_3, h_4, h_5]
        obtain ⟨v7, h_6, H⟩ := HS.bnd H
        try simp -implicitDefEqProofs +decide (maxSteps := 2000000) [-selQ_sel, hokQ_of, h_3, h_4, h_5, h_6]
        refine Hid.brV (fun h_7 => ?_) (fun h_7 => ?_)
        · replace H := HS.cnd_t h_7 H
          try simp -implicitDefEqProofs +decide (maxSteps := 2000000) [-selQ_sel, hokQ_of, h_3, h_4, h_5, h_6, h_7]
          have hr := (HS.some H).symm; subst hr
          exact Hid.mk ⟨laws_eqColorS_l0_S a0 a1 (IntKind.i64.wrap (x4 + 1)), Wk.ofk [] hk (by rfl) (by simp -implicitDefEqProofs [laws_eqColorS_l0_S, h_3, h_4, h_5, h_6, h_7]) (by simp -implicitDefEqProofs [laws_eqColorS_l0_S, h_3, h_4, h_5, h_6, h_7]), hR⟩
        · replace H := HS.cnd_f h_7 H
          try simp -implicitDefEqProofs +decide (maxSteps := 2000000) [-selQ_sel, hokQ_of, h_3, h_4, h_5, h_6, h_7]
          have hr := (HS.some H).symm; subst hr
          exact Hid.mk ⟨(laws_eqColorS_l0_X a0 a1 (.inr ())).2, Wk.ofk [] hk (by rfl) (by simp -implicitDefEqProofs [laws_eqColorS_l0_X, h_3, h_4, h_5, h_6, h_7]) (by simp -implicitDefEqProofs [laws_eqColorS_l0_X, h_3, h_4, h_5, h_6, h_7]), hR⟩
    · rcases q with ⟨⟩ | ⟨⟩
      · dsimp only at H
        try simp -implicitDefEqProofs +decide (maxSteps := 2000000) [-selQ_sel, hokQ_of, h_1, laws_eqColorS_l0_X]
        have hr := (HS.some H).symm; subst hr
        refine Hid.mk ⟨_, Wk.refl _, ?_⟩
        try simp -implicitDefEqProofs +decide (maxSteps := 2000000) [-selQ_sel, hokQ_of, h_1]
      · dsimp only at H
        try simp -implicitDefEqProofs +decide (maxSteps := 2000000) [-selQ_sel, hokQ_of, h_1, laws_eqColorS_l0_X]
        have hr := (HS.some H).symm; subst hr
        refine Hid.mk ⟨_, Wk.refl _, ?_⟩
        try simp -implicitDefEqProofs +decide (maxSteps := 2000000) [-selQ_sel, hokQ_of, h_1]
  · replace H := HS.cnd_f h_1 H
    try simp -implicitDefEqProofs +decide (maxSteps := 2000000) [-selQ_sel, hokQ_of, h_1]
    have hr := (HS.some H).symm; subst hr
    refine Hid.mk ⟨_, Wk.refl _, ?_⟩
    try simp -implicitDefEqProofs +decide (maxSteps := 2000000) [-selQ_sel, hokQ_of, h_1]
theorem laws_eqKeptS_ok0 (hm : Try.prog.follows .mixedOrders = true) (k_laws_eqKept : Sound Try.prog 153 laws_eqKept_x) : Sound Try.prog 79 laws_eqKeptS_x := by
  refine xOf_sound fun q r h => ?_
  obtain ⟨a0, a1⟩ := q
  refine fn_ok E0 hm Try.func79 rfl (by decide +kernel) (by rfl) fun Γ hn hk => ?_
  dsimp only [laws_eqKeptS_e, laws_eqKeptS_v]
  replace hn : Γ.n = 27 := hn
  replace hk : Γ.k = 0 := hk
  have H : HS (laws_eqKeptS a0 a1) r := h
  clear h; unfold laws_eqKeptS at H
  try simp -implicitDefEqProofs at H
  refine Tr.of_vc (cl := tabC [(153, laws_eqKept_x)]) (E := E0) [] (tab_cons k_laws_eqKept tab_nil) hm (by rw [hn]; decide +kernel) ?_
  try simp -implicitDefEqProofs +decide (maxSteps := 2000000) [-selQ_sel, hokQ_of]
  refine Hid.brV (fun h_1 => ?_) (fun h_1 => ?_)
  · replace H := HS.cnd_t h_1 H
    try simp -implicitDefEqProofs +decide (maxSteps := 2000000) [-selQ_sel, hokQ_of, h_1]
    obtain ⟨q, h_2, H⟩ := HS.bnd H
    refine Hid.mk (Tr.weak (s' := (laws_eqKeptS_l0_S a0 a1) 0) (Wk.ofk [] hk (by rfl) (by simp -implicitDefEqProofs [laws_eqKeptS_l0_S, h_1]) (by simp -implicitDefEqProofs [laws_eqKeptS_l0_S, h_1])) ?_)
    refine wp_loop_of (S := (laws_eqKeptS_l0_S a0 a1)) (f := (laws_eqKeptS_l0 a0 a1)) (xt := (laws_eqKeptS_l0_X a0 a1)) ?_ ?_ h_2 ?_
    · intro q; rcases q with ⟨⟩ | ⟨⟩ <;> simp [laws_eqKeptS_l0_X]
    · clear H h_2 q
      rintro x4 o R hf hR
      have H : HS (laws_eqKeptS_l0 a0 a1 x4) o := hf
      clear hf; unfold laws_eqKeptS_l0 at H
      try simp -implicitDefEqProofs at H
      refine Tr.of_vc (cl := tabC [(153, laws_eqKept_x)]) (E := E0) [] (tab_cons k_laws_eqKept tab_nil) hm (by rw [hn]; decide +kernel) ?_
      try simp -implicitDefEqProofs +decide (maxSteps := 2000000) [-selQ_sel, hokQ_of, laws_eqKeptS_l0_S]
      refine Hid.brV (fun h_3 => ?_) (fun h_3 => ?_)
      · replace H := HS.cnd_t h_3 H
        try simp -implicitDefEqProofs +decide (maxSteps := 2000000) [-selQ_sel, hokQ_of, h_3]
        have hr := (HS.some H).symm; subst hr
        exact Hid.mk ⟨(laws_eqKeptS_l0_X a0 a1 (.inl ())).2, Wk.ofk [] hk (by rfl) (by simp -implicitDefEqProofs [laws_eqKeptS_l0_X, h_3]) (by simp -implicitDefEqProofs [laws_eqKeptS_l0_X, h_3]), hR⟩
      · replace H := HS.cnd_f h_3 H
        try simp -implicitDefEqProofs +decide (maxSteps := 2000000) [-selQ_sel, hokQ_of, h_3]
        obtain ⟨v5, h_4, H⟩ := HS.bnd H
        try simp -implicitDefEqProofs +decide (maxSteps := 2000000) [-selQ_sel, hokQ_of, h_3, h_4]
        obtain ⟨v6, h_5, H⟩ := HS.bnd H
        try simp -implicitDefEqProofs +decide (maxSteps := 2000000) [-selQ_sel, hokQ_of, h_3, h_4, h_5]
        obtain ⟨v7, h_6, H⟩ := HS.bnd H
        try simp -implicitDefEqProofs +decide (maxSteps := 2000000) [-selQ_sel, hokQ_of, h_3, h_4, h_5, h_6]
        refine Hid.brV (fun h_7 => ?_) (fun h_7 => ?_)
        · replace H := HS.cnd_t h_7 H
          try simp -implicitDefEqProofs +decide (maxSteps := 2000000) [-selQ_sel, hokQ_of, h_3, h_4, h_5, h_6, h_7]
          have hr := (HS.some H).symm; subst hr
          exact Hid.mk ⟨laws_eqKeptS_l0_S a0 a1 (IntKind.i64.wrap (x4 + 1)), Wk.ofk [] hk (by rfl) (by simp -implicitDefEqProofs [laws_eqKeptS_l0_S, h_3, h_4, h_5, h_6, h_7]) (by simp -implicitDefEqProofs [laws_eqKeptS_l0_S, h_3, h_4, h_5, h_6, h_7]), hR⟩
        · replace H := HS.cnd_f h_7 H
          try simp -implicitDefEqProofs +decide (maxSteps := 2000000) [-selQ_sel, hokQ_of, h_3, h_4, h_5, h_6, h_7]
          have hr := (HS.some H).symm; subst hr
          exact Hid.mk ⟨(laws_eqKeptS_l0_X a0 a1 (.inr ())).2, Wk.ofk [] hk (by rfl) (by simp -implicitDefEqProofs [laws_eqKeptS_l0_X, h_3, h_4, h_5, h_6, h_7]) (by simp -implicitDefEqProofs [laws_eqKeptS_l0_X, h_3, h_4, h_5, h_6, h_7]), hR⟩
    · rcases q with ⟨⟩ | ⟨⟩
      · dsimp only at H
        try simp -implicitDefEqProofs +decide (maxSteps := 2000000) [-selQ_sel, hokQ_of, h_1, laws_eqKeptS_l0_X]
        have hr := (HS.some H).symm; subst hr
        refine Hid.mk ⟨_, Wk.refl _, ?_⟩
        try simp -implicitDefEqProofs +decide (maxSteps := 2000000) [-selQ_sel, hokQ_of, h_1]
      · dsimp only at H
        try simp -implicitDefEqProofs +decide (maxSteps := 2000000) [-selQ_sel, hokQ_of, h_1, laws_eqKeptS_l0_X]
        have hr := (HS.some H).symm; subst hr
        refine Hid.mk ⟨_, Wk.refl _, ?_⟩
        try simp -implicitDefEqProofs +decide (maxSteps := 2000000) [-selQ_sel, hokQ_of, h_1]
  · replace H := HS.cnd_f h_1 H
    try simp -implicitDefEqProofs +decide (maxSteps := 2000000) [-selQ_sel, hokQ_of, h_1]
    have hr := (HS.some H).symm; subst hr
    refine Hid.mk ⟨_, Wk.refl _, ?_⟩
    try simp -implicitDefEqProofs +decide (maxSteps := 2000000) [-selQ_sel, hokQ_of, h_1]
theorem laws_eqIntS_ok0 (hm : Try.prog.follows .mixedOrders = true) : Sound Try.prog 56 laws_eqIntS_x := by
  refine xOf_sound fun q r h => ?_
  obtain ⟨a0, a1⟩ := q
  refine fn_ok E0 hm Try.func56 rfl (by decide +kernel) (by rfl) fun Γ hn hk => ?_
  dsimp only [laws_eqIntS_e, laws_eqIntS_v]
  replace hn : Γ.n = 26 := hn
  replace hk : Γ.k = 0 := hk
  have H : HS (laws_eqIntS a0 a1) r := h
  clear h; unfold laws_eqIntS at H
  try simp -implicitDefEqProofs at H
  refine Tr.of_vc (cl := tabC []) (E := E0) [] tab_nil hm (by rw [hn]; decide +kernel) ?_
  try simp -implicitDefEqProofs +decide (maxSteps := 2000000) [-selQ_sel, hokQ_of]
  refine Hid.brV (fun h_1 => ?_) (fun h_1 => ?_)
  · replace H := HS.cnd_t h_1 H
    try simp -implicitDefEqProofs +decide (maxSteps := 2000000) [-selQ_sel, hokQ_of, h_1]
    obtain ⟨q, h_2, H⟩ := HS.bnd H
    refine Hid.mk (Tr.weak (s' := (laws_eqIntS_l0_S a0 a1) 0) (Wk.ofk [] hk (by rfl) (by simp -implicitDefEqProofs [laws_eqIntS_l0_S, h_1]) (by simp -implicitDefEqProofs [laws_eqIntS_l0_S, h_1])) ?_)
    refine wp_loop_of (S := (laws_eqIntS_l0_S a0 a1)) (f := (laws_eqIntS_l0 a0 a1)) (xt := (laws_eqIntS_l0_X a0 a1)) ?_ ?_ h_2 ?_
    · intro q; rcases q with ⟨⟩ | ⟨⟩ <;> simp [laws_eqIntS_l0_X]
    · clear H h_2 q
      rintro x3 o R hf hR
      have H : HS (laws_eqIntS_l0 a0 a1 x3) o := hf
      clear hf; unfold laws_eqIntS_l0 at H
      try simp -implicitDefEqProofs at H
      refine Tr.of_vc (cl := tabC []) (E := E0) [] tab_nil hm (by rw [hn]; decide +kernel) ?_
      try simp -implicitDefEqProofs +decide (maxSteps := 2000000) [-selQ_sel, hokQ_of, laws_eqIntS_l0_S]
      refine Hid.brV (fun h_3 => ?_) (fun h_3 => ?_)
      · replace H := HS.cnd_t h_3 H
        try simp -implicitDefEqProofs +decide (maxSteps := 2000000) [-selQ_sel, hokQ_of, h_3]
        have hr := (HS.some H).symm; subst hr
        exact Hid.mk ⟨(laws_eqIntS_l0_X a0 a1 (.inl ())).2, Wk.ofk [] hk (by rfl) (by simp -implicitDefEqProofs [laws_eqIntS_l0_X, h_3]) (by simp -implicitDefEqProofs [laws_eqIntS_l0_X, h_3]), hR⟩
      · replace H := HS.cnd_f h_3 H
        try simp -implicitDefEqProofs +decide (maxSteps := 2000000) [-selQ_sel, hokQ_of, h_3]
        obtain ⟨v4, h_4, H⟩ := HS.bnd H
        try simp -implicitDefEqProofs +decide (maxSteps := 2000000) [-selQ_sel, hokQ_of, h_3, h_4]
        obtain ⟨v5, h_5, H⟩ := HS.bnd H
        try simp -implicitDefEqProofs +decide (maxSteps := 2000000) [-selQ_sel, hokQ_of, h_3, h_4, h_5]
        refine Hid.brV (fun h_6 => ?_) (fun h_6 => ?_)
        · replace H := HS.cnd_t h_6 H
          try simp -implicitDefEqProofs +decide (maxSteps := 2000000) [-selQ_sel, hokQ_of, h_3, h_4, h_5, h_6]
          have hr := (HS.some H).symm; subst hr
          exact Hid.mk ⟨laws_eqIntS_l0_S a0 a1 (IntKind.i64.wrap (x3 + 1)), Wk.ofk [] hk (by rfl) (by simp -implicitDefEqProofs [laws_eqIntS_l0_S, h_3, h_4, h_5, h_6]) (by simp -implicitDefEqProofs [laws_eqIntS_l0_S, h_3, h_4, h_5, h_6]), hR⟩
        · replace H := HS.cnd_f h_6 H
          try simp -implicitDefEqProofs +decide (maxSteps := 2000000) [-selQ_sel, hokQ_of, h_3, h_4, h_5, h_6]
          have hr := (HS.some H).symm; subst hr
          exact Hid.mk ⟨(laws_eqIntS_l0_X a0 a1 (.inr ())).2, Wk.ofk [] hk (by rfl) (by simp -implicitDefEqProofs [laws_eqIntS_l0_X, h_3, h_4, h_5, h_6]) (by simp -implicitDefEqProofs [laws_eqIntS_l0_X, h_3, h_4, h_5, h_6]), hR⟩
    · rcases q with ⟨⟩ | ⟨⟩
      · dsimp only at H
        try simp -implicitDefEqProofs +decide (maxSteps := 2000000) [-selQ_sel, hokQ_of, h_1, laws_eqIntS_l0_X]
        have hr := (HS.some H).symm; subst hr
        refine Hid.mk ⟨_, Wk.refl _, ?_⟩
        try simp -implicitDefEqProofs +decide (maxSteps := 2000000) [-selQ_sel, hokQ_of, h_1]
      · dsimp only at H
        try simp -implicitDefEqProofs +decide (maxSteps := 2000000) [-selQ_sel, hokQ_of, h_1, laws_eqIntS_l0_X]
        have hr := (HS.some H).symm; subst hr
        refine Hid.mk ⟨_, Wk.refl _, ?_⟩
        try simp -implicitDefEqProofs +decide (maxSteps := 2000000) [-selQ_sel, hokQ_of, h_1]
  · replace H := HS.cnd_f h_1 H
    try simp -implicitDefEqProofs +decide (maxSteps := 2000000) [-selQ_sel, hokQ_of, h_1]
    have hr := (HS.some H).symm; subst hr
    refine Hid.mk ⟨_, Wk.refl _, ?_⟩
    try simp -implicitDefEqProofs +decide (maxSteps := 2000000) [-selQ_sel, hokQ_of, h_1]
theorem laws_toColorS_ok0 (hm : Try.prog.follows .mixedOrders = true) (k_laws_toColor : Sound Try.prog 145 laws_toColor_x) : Sound Try.prog 141 laws_toColorS_x := by
  refine xOf_sound fun q r h => ?_
  revert h; revert r; revert q; intro a0 r h
  refine fn_ok E0 hm Try.func141 rfl (by decide +kernel) (by rfl) fun Γ hn hk => ?_
  dsimp only [laws_toColorS_e, laws_toColorS_v]
  replace hn : Γ.n = 23 := hn
  replace hk : Γ.k = 0 := hk
  have H : HS (laws_toColorS a0) r := h
  clear h; unfold laws_toColorS at H
  try simp -implicitDefEqProofs at H
  refine Tr.of_vc (cl := tabC [(145, laws_toColor_x)]) (E := E0) [] (tab_cons k_laws_toColor tab_nil) hm (by rw [hn]; decide +kernel) ?_
  try simp -implicitDefEqProofs (maxSteps := 2000000) [-selQ_sel]
  obtain ⟨h_1, H⟩ := HS.chkP H
  try simp -implicitDefEqProofs (maxSteps := 2000000) [-selQ_sel, h_1]
  obtain ⟨l1, h_2, H⟩ := HS.nam H
  have m_3 := congrArg (List.map eColor) h_2
  have q_4 := congrArg List.length h_2
  simp -implicitDefEqProofs at m_3 q_4
  try simp only [q_4] at m_3
  try simp only [q_4] at h_1
  try simp -implicitDefEqProofs (maxSteps := 2000000) [-selQ_sel, h_1, m_3, q_4]
  obtain ⟨q, h_5, H⟩ := HS.bnd H
  refine Hid.mk (Tr.weak (s' := (laws_toColorS_l0_S a0) (0, l1)) (Wk.ofk [0] hk (by rfl) (by simp -implicitDefEqProofs [laws_toColorS_l0_S, h_1, m_3, q_4]) (by simp -implicitDefEqProofs [laws_toColorS_l0_S, h_1, m_3, q_4])) ?_)
  refine wp_loop_of (S := (laws_toColorS_l0_S a0)) (f := (laws_toColorS_l0 a0)) (xt := (laws_toColorS_l0_X a0)) ?_ ?_ h_5 ?_
  · intro q; simp [laws_toColorS_l0_X]
  · clear H h_5 q
    rintro ⟨x6, x7⟩ o R hf hR
    have H : HS (laws_toColorS_l0 a0 (x6, x7)) o := hf
    clear hf; unfold laws_toColorS_l0 at H
    try simp -implicitDefEqProofs at H
    refine Tr.of_vc (cl := tabC [(145, laws_toColor_x)]) (E := E0) [] (tab_cons k_laws_toColor tab_nil) hm (by rw [hn]; decide +kernel) ?_
    try simp -implicitDefEqProofs (maxSteps := 2000000) [-selQ_sel, laws_toColorS_l0_S]
    refine Hid.brV (fun h_6 => ?_) (fun h_6 => ?_)
    · replace H := HS.cnd_t h_6 H
      try simp -implicitDefEqProofs (maxSteps := 2000000) [-selQ_sel, h_6]
      have hr := (HS.some H).symm; subst hr
      exact Hid.mk ⟨(laws_toColorS_l0_X a0 x7).2, Wk.ofk [0] hk (by rfl) (by simp -implicitDefEqProofs [laws_toColorS_l0_X, h_6]) (by simp -implicitDefEqProofs [laws_toColorS_l0_X, h_6]), hR⟩
    · replace H := HS.cnd_f h_6 H
      try simp -implicitDefEqProofs (maxSteps := 2000000) [-selQ_sel, h_6]
      obtain ⟨v8, h_7, H⟩ := HS.bnd H
      try simp -implicitDefEqProofs (maxSteps := 2000000) [-selQ_sel, h_6, h_7]
      obtain ⟨v9, h_8, H⟩ := HS.bnd H
      try simp -implicitDefEqProofs (maxSteps := 2000000) [-selQ_sel, h_6, h_7, h_8]
      obtain ⟨v10, h_9, H⟩ := HS.bnd H
      have g_10 := idx_get h_9
      try simp -implicitDefEqProofs (maxSteps := 2000000) [-selQ_sel, h_6, h_7, h_8, h_9, g_10]
      obtain ⟨l11, h_11, H⟩ := HS.nam H
      have m_12 := congrArg (List.map eColor) h_11
      have q_13 := congrArg List.length h_11
      simp -implicitDefEqProofs at m_12 q_13
      try simp only [q_13] at m_12
      try simp only [q_13] at g_10
      try simp -implicitDefEqProofs (maxSteps := 2000000) [-selQ_sel, h_6, h_7, h_8, h_9, g_10, m_12, q_13]
      have hr := (HS.some H).symm; subst hr
      exact Hid.mk ⟨laws_toColorS_l0_S a0 ((IntKind.i64.wrap (x6 + 1)), l11), Wk.ofk [0] hk (by rfl) (by simp -implicitDefEqProofs [laws_toColorS_l0_S, h_6, h_7, h_8, h_9, g_10, m_12, q_13]) (by simp -implicitDefEqProofs [laws_toColorS_l0_S, h_6, h_7, h_8, h_9, g_10, m_12, q_13]), hR⟩
  · revert H h_5; revert q; intro y12 h_5 H
    try dsimp only at H
    try simp -implicitDefEqProofs (maxSteps := 2000000) [-selQ_sel, h_1, m_3, q_4, laws_toColorS_l0_X]
    have hr := (HS.some H).symm; subst hr
    refine Hid.mk ⟨⟨[(2, AV.osl 0 0 (List.length y12) (List.length y12))], [(0, Ob.arr 4 (List.map eColor y12) false)], 1⟩, Wk.ofk [0] hk (by rfl) (by simp -implicitDefEqProofs [h_1, m_3, q_4]) (by simp -implicitDefEqProofs [h_1, m_3, q_4]), ?_⟩
    try simp -implicitDefEqProofs (maxSteps := 2000000) [-selQ_sel, h_1, m_3, q_4]
theorem impl_meetsAny_ok0 (hm : Try.prog.follows .mixedOrders = true) (k_impl_MeetBox : Sound Try.prog 157 impl_MeetBox_x) (k_impl_Empty : Sound Try.prog 158 impl_Empty_x) : Sound Try.prog 89 impl_meetsAny_x := by
  refine xOf_sound fun q r h => ?_
  obtain ⟨a0, a1⟩ := q
  refine fn_ok E0 hm Try.func89 rfl (by decide +kernel) (by rfl) fun Γ hn hk => ?_
  dsimp only [impl_meetsAny_e, impl_meetsAny_v]
  replace hn : Γ.n = 19 := hn
  replace hk : Γ.k = 0 := hk
  have H : HS (impl_meetsAny a0 a1) r := h
  clear h; unfold impl_meetsAny at H
  try simp -implicitDefEqProofs at H
  refine Tr.of_vc (cl := tabC [(157, impl_MeetBox_x), (158, impl_Empty_x)]) (E := E0) [] (tab_cons k_impl_MeetBox (tab_cons k_impl_Empty tab_nil)) hm (by rw [hn]; decide +kernel) ?_
  try simp -implicitDefEqProofs (maxSteps := 2000000) [-selQ_sel]
  obtain ⟨q, h_1, H⟩ := HS.bnd H
  refine Hid.mk (Tr.weak (s' := (impl_meetsAny_l0_S a0 a1) 0) (Wk.ofk [0] hk (by rfl) (by simp -implicitDefEqProofs [impl_meetsAny_l0_S]) (by simp -implicitDefEqProofs [impl_meetsAny_l0_S])) ?_)
  refine wp_loop_of (S := (impl_meetsAny_l0_S a0 a1)) (f := (impl_meetsAny_l0 a0 a1)) (xt := (impl_meetsAny_l0_X a0 a1)) ?_ ?_ h_1 ?_
  · intro q; rcases q with ⟨⟩ | ⟨⟩ <;> simp [impl_meetsAny_l0_X]
  · clear H h_1 q
    rintro x4 o R hf hR
    have H : HS (impl_meetsAny_l0 a0 a1 x4) o := hf
    clear hf; unfold impl_meetsAny_l0 at H
    try simp -implicitDefEqProofs at H
    refine Tr.of_vc (cl := tabC [(157, impl_MeetBox_x), (158, impl_Empty_x)]) (E := E0) [] (tab_cons k_impl_MeetBox (tab_cons k_impl_Empty tab_nil)) hm (by rw [hn]; decide +kernel) ?_
    try simp -implicitDefEqProofs (maxSteps := 2000000) [-selQ_sel, impl_meetsAny_l0_S]
    refine Hid.brV (fun h_2 => ?_) (fun h_2 => ?_)
    · replace H := HS.cnd_t h_2 H
      try simp -implicitDefEqProofs (maxSteps := 2000000) [-selQ_sel, h_2]
      have hr := (HS.some H).symm; subst hr
      exact Hid.mk ⟨(impl_meetsAny_l0_X a0 a1 (.inl ())).2, Wk.ofk [] hk (by rfl) (by simp -implicitDefEqProofs [impl_meetsAny_l0_X, h_2]) (by simp -implicitDefEqProofs [impl_meetsAny_l0_X, h_2]), hR⟩
    · replace H := HS.cnd_f h_2 H
      try simp -implicitDefEqProofs (maxSteps := 2000000) [-selQ_sel, h_2]
      obtain ⟨v5, h_3, H⟩ := HS.bnd H
      try simp -implicitDefEqProofs (maxSteps := 2000000) [-selQ_sel, h_2, h_3]
      obtain ⟨v6, h_4, H⟩ := HS.bnd H
      try simp -implicitDefEqProofs (maxSteps := 2000000) [-selQ_sel, h_2, h_3, h_4]
      obtain ⟨v7, h_5, H⟩ := HS.bnd H
      try simp -implicitDefEqProofs (maxSteps := 2000000) [-selQ_sel, h_2, h_3, h_4, h_5]
      refine Hid.brV (fun h_6 => ?_) (fun h_6 => ?_)
      · replace H := HS.cnd_t h_6 H
        try simp -implicitDefEqProofs (maxSteps := 2000000) [-selQ_sel, h_2, h_3, h_4, h_5, h_6]
        have hr := (HS.some H).symm; subst hr
        exact Hid.mk ⟨impl_meetsAny_l0_S a0 a1 (IntKind.i64.wrap (x4 + 1)), Wk.ofk [0] hk (by rfl) (by simp -implicitDefEqProofs [impl_meetsAny_l0_S, h_2, h_3, h_4, h_5, h_6]) (by simp -implicitDefEqProofs [impl_meetsAny_l0_S, h_2, h_3, h_4, h_5, h_6]), hR⟩
      · replace H := HS.cnd_f h_6 H
        try simp -implicitDefEqProofs (maxSteps := 2000000) [-selQ_sel, h_2, h_3, h_4, h_5, h_6]
        have hr := (HS.some H).symm; subst hr
        exact Hid.mk ⟨(impl_meetsAny_l0_X a0 a1 (.inr ())).2, Wk.ofk [] hk (by rfl) (by simp -implicitDefEqProofs [impl_meetsAny_l0_X, h_2, h_3, h_4, h_5, h_6]) (by simp -implicitDefEqProofs [impl_meetsAny_l0_X, h_2, h_3, h_4, h_5, h_6]), hR⟩
  · rcases q with ⟨⟩ | ⟨⟩
    · dsimp only at H
      try simp -implicitDefEqProofs (maxSteps := 2000000) [-selQ_sel, impl_meetsAny_l0_X]
      have hr := (HS.some H).symm; subst hr
      refine Hid.mk ⟨_, Wk.refl _, ?_⟩
      try simp -implicitDefEqProofs (maxSteps := 2000000) [-selQ_sel]
    · dsimp only at H
      try simp -implicitDefEqProofs (maxSteps := 2000000) [-selQ_sel, impl_meetsAny_l0_X]
      have hr := (HS.some H).symm; subst hr
      refine Hid.mk ⟨_, Wk.refl _, ?_⟩
      try simp -implicitDefEqProofs (maxSteps := 2000000) [-selQ_sel]
theorem laws_toKeptS_ok0 (hm : Try.prog.follows .mixedOrders = true) (k_laws_toKept : Sound Try.prog 149 laws_toKept_x) : Sound Try.prog 75 laws_toKeptS_x := by
  refine xOf_sound fun q r h => ?_
  revert h; revert r; revert q; intro a0 r h
  refine fn_ok E0 hm Try.func75 rfl (by decide +kernel) (by rfl) fun Γ hn hk => ?_
  dsimp only [laws_toKeptS_e, laws_toKeptS_v]
  replace hn : Γ.n = 23 := hn
  replace hk : Γ.k = 0 := hk
  have H : HS (laws_toKeptS a0) r := h
  clear h; unfold laws_toKeptS at H
  try simp -implicitDefEqProofs at H
  refine Tr.of_vc (cl := tabC [(149, laws_toKept_x)]) (E := E0) [] (tab_cons k_laws_toKept tab_nil) hm (by rw [hn]; decide +kernel) ?_
  try simp -implicitDefEqProofs (maxSteps := 2000000) [-selQ_sel]
  obtain ⟨h_1, H⟩ := HS.chkP H
  try simp -implicitDefEqProofs (maxSteps := 2000000) [-selQ_sel, h_1]
  obtain ⟨l1, h_2, H⟩ := HS.nam H
  have m_3 := congrArg (List.map eKept) h_2
  have q_4 := congrArg List.length h_2
  simp -implicitDefEqProofs at m_3 q_4
  try simp only [q_4] at m_3
  try simp only [q_4] at h_1
  try simp -implicitDefEqProofs (maxSteps := 2000000) [-selQ_sel, h_1, m_3, q_4]
  obtain ⟨q, h_5, H⟩ := HS.bnd H
  refine Hid.mk (Tr.weak (s' := (laws_toKeptS_l0_S a0) (0, l1)) (Wk.ofk [0] hk (by rfl) (by simp -implicitDefEqProofs [laws_toKeptS_l0_S, h_1, m_3, q_4]) (by simp -implicitDefEqProofs [laws_toKeptS_l0_S, h_1, m_3, q_4])) ?_)
  refine wp_loop_of (S := (laws_toKeptS_l0_S a0)) (f := (laws_toKeptS_l0 a0)) (xt := (laws_toKeptS_l0_X a0)) ?_ ?_ h_5 ?_
  · intro q; simp [laws_toKeptS_l0_X]
  · clear H h_5 q
    rintro ⟨x6, x7⟩ o R hf hR
    have H : HS (laws_toKeptS_l0 a0 (x6, x7)) o := hf
    clear hf; unfold laws_toKeptS_l0 at H
    try simp -implicitDefEqProofs at H
    refine Tr.of_vc (cl := tabC [(149, laws_toKept_x)]) (E := E0) [] (tab_cons k_laws_toKept tab_nil) hm (by rw [hn]; decide +kernel) ?_
    try simp -implicitDefEqProofs (maxSteps := 2000000) [-selQ_sel, laws_toKeptS_l0_S]
    refine Hid.brV (fun h_6 => ?_) (fun h_6 => ?_)
    · replace H := HS.cnd_t h_6 H
      try simp -implicitDefEqProofs (maxSteps := 2000000) [-selQ_sel, h_6]
      have hr := (HS.some H).symm; subst hr
      exact Hid.mk ⟨(laws_toKeptS_l0_X a0 x7).2, Wk.ofk [0] hk (by rfl) (by simp -implicitDefEqProofs [laws_toKeptS_l0_X, h_6]) (by simp -implicitDefEqProofs [laws_toKeptS_l0_X, h_6]), hR⟩
    · replace H := HS.cnd_f h_6 H
      try simp -implicitDefEqProofs (maxSteps := 2000000) [-selQ_sel, h_6]
      obtain ⟨v8, h_7, H⟩ := HS.bnd H
      try simp -implicitDefEqProofs (maxSteps := 2000000) [-selQ_sel, h_6, h_7]
      obtain ⟨v9, h_8, H⟩ := HS.bnd H
      try simp -implicitDefEqProofs (maxSteps := 2000000) [-selQ_sel, h_6, h_7, h_8]
      obtain ⟨v10, h_9, H⟩ := HS.bnd H
      have g_10 := idx_get h_9
      try simp -implicitDefEqProofs (maxSteps := 2000000) [-selQ_sel, h_6, h_7, h_8, h_9, g_10]
      obtain ⟨l11, h_11, H⟩ := HS.nam H
      have m_12 := congrArg (List.map eKept) h_11
      have q_13 := congrArg List.length h_11
      simp -implicitDefEqProofs at m_12 q_13
      try simp only [q_13] at m_12
      try simp only [q_13] at g_10
      try simp -implicitDefEqProofs (maxSteps := 2000000) [-selQ_sel, h_6, h_7, h_8, h_9, g_10, m_12, q_13]
      have hr := (HS.some H).symm; subst hr
      exact Hid.mk ⟨laws_toKeptS_l0_S a0 ((IntKind.i64.wrap (x6 + 1)), l11), Wk.ofk [0] hk (by rfl) (by simp -implicitDefEqProofs [laws_toKeptS_l0_S, h_6, h_7, h_8, h_9, g_10, m_12, q_13]) (by simp -implicitDefEqProofs [laws_toKeptS_l0_S, h_6, h_7, h_8, h_9, g_10, m_12, q_13]), hR⟩
  · revert H h_5; revert q; intro y12 h_5 H
    try dsimp only at H
    try simp -implicitDefEqProofs (maxSteps := 2000000) [-selQ_sel, h_1, m_3, q_4, laws_toKeptS_l0_X]
    have hr := (HS.some H).symm; subst hr
    refine Hid.mk ⟨_, Wk.refl _, ?_⟩
    try simp -implicitDefEqProofs (maxSteps := 2000000) [-selQ_sel, h_1, m_3, q_4]
theorem impl_ColorOk_ok0 (hm : Try.prog.follows .mixedOrders = true) (k_impl_isByte : Sound Try.prog 178 impl_isByte_x) : Sound Try.prog 180 impl_ColorOk_x := by
  refine xOf_sound fun q r h => ?_
  revert h; revert r; revert q; intro a0 r h
  refine fn_ok E0 hm Try.func180 rfl (by decide +kernel) (by rfl) fun Γ hn hk => ?_
  dsimp only [impl_ColorOk_e, impl_ColorOk_v]
  replace hn : Γ.n = 21 := hn
  replace hk : Γ.k = 0 := hk
  have H : HS (impl_ColorOk a0) r := h
  clear h; unfold impl_ColorOk at H
  try simp -implicitDefEqProofs at H
  refine Tr.of_vc (cl := tabC [(178, impl_isByte_x)]) (E := E0) [] (tab_cons k_impl_isByte tab_nil) hm (by rw [hn]; decide +kernel) ?_
  try simp -implicitDefEqProofs (maxSteps := 2000000) [-selQ_sel]
  obtain ⟨v1, h_1, H⟩ := HS.bnd H
  try simp -implicitDefEqProofs (maxSteps := 2000000) [-selQ_sel, h_1]
  refine Hid.selQ (fun h_2 => ?_) (fun h_2 => ?_)
  · replace H := HS.cnd_t h_2 H
    try simp -implicitDefEqProofs (maxSteps := 2000000) [-selQ_sel, h_1, h_2]
    obtain ⟨v2, h_3, H⟩ := HS.bnd H
    try simp -implicitDefEqProofs (maxSteps := 2000000) [-selQ_sel, h_1, h_2, h_3]
    refine Hid.selQ (fun h_4 => ?_) (fun h_4 => ?_)
    · replace H := HS.cnd_t h_4 H
      try simp -implicitDefEqProofs (maxSteps := 2000000) [-selQ_sel, h_1, h_2, h_3, h_4]
      obtain ⟨v3, h_5, H⟩ := HS.bnd H
      try simp -implicitDefEqProofs (maxSteps := 2000000) [-selQ_sel, h_1, h_2, h_3, h_4, h_5]
      refine Hid.selQ (fun h_6 => ?_) (fun h_6 => ?_)
      · replace H := HS.cnd_t h_6 H
        try simp -implicitDefEqProofs (maxSteps := 2000000) [-selQ_sel, h_1, h_2, h_3, h_4, h_5, h_6]
        obtain ⟨v4, h_7, H⟩ := HS.bnd H
        try simp -implicitDefEqProofs (maxSteps := 2000000) [-selQ_sel, h_1, h_2, h_3, h_4, h_5, h_6, h_7]
        have hr := (HS.some H).symm; subst hr
        refine Hid.mk ⟨_, Wk.refl _, ?_⟩
        try simp -implicitDefEqProofs (maxSteps := 2000000) [-selQ_sel, h_1, h_2, h_3, h_4, h_5, h_6, h_7]
      · replace H := HS.cnd_f h_6 H
        try simp -implicitDefEqProofs (maxSteps := 2000000) [-selQ_sel, h_1, h_2, h_3, h_4, h_5, h_6]
        have hr := (HS.some H).symm; subst hr
        refine Hid.mk ⟨_, Wk.refl _, ?_⟩
        try simp -implicitDefEqProofs (maxSteps := 2000000) [-selQ_sel, h_1, h_2, h_3, h_4, h_5, h_6]
    · replace H := HS.cnd_f h_4 H
      try simp -implicitDefEqProofs (maxSteps := 2000000) [-selQ_sel, h_1, h_2, h_3, h_4]
      have hr := (HS.some H).symm; subst hr
      refine Hid.mk ⟨_, Wk.refl _, ?_⟩
      try simp -implicitDefEqProofs (maxSteps := 2000000) [-selQ_sel, h_1, h_2, h_3, h_4]
  · replace H := HS.cnd_f h_2 H
    try simp -implicitDefEqProofs (maxSteps := 2000000) [-selQ_sel, h_1, h_2]
    have hr := (HS.some H).symm; subst hr
    refine Hid.mk ⟨_, Wk.refl _, ?_⟩
    try simp -implicitDefEqProofs (maxSteps := 2000000) [-selQ_sel, h_1, h_2]
theorem laws_eqColor_ok0 (hm : Try.prog.follows .mixedOrders = true) : Sound Try.prog 202 laws_eqColor_x := by
  refine xOf_sound fun q r h => ?_
  obtain ⟨a0, a1⟩ := q
  refine fn_ok E0 hm Try.func202 rfl (by decide +kernel) (by rfl) fun Γ hn hk => ?_
  dsimp only [laws_eqColor_e, laws_eqColor_v]
  replace hn : Γ.n = 25 := hn
  replace hk : Γ.k = 0 := hk
  have H : HS (laws_eqColor a0 a1) r := h
  clear h; unfold laws_eqColor at H
  try simp -implicitDefEqProofs at H
  refine Tr.of_vc (cl := tabC []) (E := E0) [] tab_nil hm (by rw [hn]; decide +kernel) ?_
  try simp -implicitDefEqProofs (maxSteps := 2000000) [-selQ_sel]
  refine Hid.brV (fun h_1 => ?_) (fun h_1 => ?_)
  · replace H := HS.cnd_t h_1 H
    try simp -implicitDefEqProofs (maxSteps := 2000000) [-selQ_sel, h_1]
    refine Hid.brV (fun h_2 => ?_) (fun h_2 => ?_)
    · replace H := HS.cnd_t h_2 H
      try simp -implicitDefEqProofs (maxSteps := 2000000) [-selQ_sel, h_1, h_2]
      refine Hid.brV (fun h_3 => ?_) (fun h_3 => ?_)
      · replace H := HS.cnd_t h_3 H
        try simp -implicitDefEqProofs (maxSteps := 2000000) [-selQ_sel, h_1, h_2, h_3]
        refine Hid.brV (fun h_4 => ?_) (fun h_4 => ?_)
        · replace H := HS.cnd_t h_4 H
          try simp -implicitDefEqProofs (maxSteps := 2000000) [-selQ_sel, h_1, h_2, h_3, h_4]
          have hr := (HS.some H).symm; subst hr
          refine Hid.mk ⟨_, Wk.refl _, ?_⟩
          try simp -implicitDefEqProofs (maxSteps := 2000000) [-selQ_sel, h_1, h_2, h_3, h_4]
        · replace H := HS.cnd_f h_4 H
          try simp -implicitDefEqProofs (maxSteps := 2000000) [-selQ_sel, h_1, h_2, h_3, h_4]
          have hr := (HS.some H).symm; subst hr
          refine Hid.mk ⟨_, Wk.refl _, ?_⟩
          try simp -implicitDefEqProofs (maxSteps := 2000000) [-selQ_sel, h_1, h_2, h_3, h_4]
      · replace H := HS.cnd_f h_3 H
        try simp -implicitDefEqProofs (maxSteps := 2000000) [-selQ_sel, h_1, h_2, h_3]
        have hr := (HS.some H).symm; subst hr
        refine Hid.mk ⟨_, Wk.refl _, ?_⟩
        try simp -implicitDefEqProofs (maxSteps := 2000000) [-selQ_sel, h_1, h_2, h_3]
    · replace H := HS.cnd_f h_2 H
      try simp -implicitDefEqProofs (maxSteps := 2000000) [-selQ_sel, h_1, h_2]
      have hr := (HS.some H).symm; subst hr
      refine Hid.mk ⟨_, Wk.refl _, ?_⟩
      try simp -implicitDefEqProofs (maxSteps := 2000000) [-selQ_sel, h_1, h_2]
  · replace H := HS.cnd_f h_1 H
    try simp -implicitDefEqProofs (maxSteps := 2000000) [-selQ_sel, h_1]
    have hr := (HS.some H).symm; subst hr
    refine Hid.mk ⟨_, Wk.refl _, ?_⟩
    try simp -implicitDefEqProofs (maxSteps := 2000000) [-selQ_sel, h_1]
theorem impl_TileCount_ok0 (hm : Try.prog.follows .mixedOrders = true) (k_impl_isSide : Sound Try.prog 102 impl_isSide_x) (k_impl_tilesAlong : Sound Try.prog 156 impl_tilesAlong_x) : Sound Try.prog 138 impl_TileCount_x := by
  refine xOf_sound fun q r h => ?_
  obtain ⟨a0, a1⟩ := q
  refine fn_ok E0 hm Try.func138 rfl (by decide +kernel) (by rfl) fun Γ hn hk => ?_
  dsimp only [impl_TileCount_e, impl_TileCount_v]
  replace hn : Γ.n = 18 := hn
  replace hk : Γ.k = 0 := hk
  have H : HS (impl_TileCount a0 a1) r := h
  clear h; unfold impl_TileCount at H
  try simp -implicitDefEqProofs at H
  refine Tr.of_vc (cl := tabC [(102, impl_isSide_x), (156, impl_tilesAlong_x)]) (E := E0) [] (tab_cons k_impl_isSide (tab_cons k_impl_tilesAlong tab_nil)) hm (by rw [hn]; decide +kernel) ?_
  try simp -implicitDefEqProofs (maxSteps := 2000000) [-selQ_sel]
  obtain ⟨v1, h_1, H⟩ := HS.bnd H
  try simp -implicitDefEqProofs (maxSteps := 2000000) [-selQ_sel, h_1]
  refine Hid.selQ (fun h_2 => ?_) (fun h_2 => ?_)
  · replace H := HS.cnd_t h_2 H
    try simp -implicitDefEqProofs (maxSteps := 2000000) [-selQ_sel, h_1, h_2]
    obtain ⟨v2, h_3, H⟩ := HS.bnd H
    try simp -implicitDefEqProofs (maxSteps := 2000000) [-selQ_sel, h_1, h_2, h_3]
    refine Hid.brV (fun h_4 => ?_) (fun h_4 => ?_)
    · replace H := HS.cnd_t h_4 H
      try simp -implicitDefEqProofs (maxSteps := 2000000) [-selQ_sel, h_1, h_2, h_3, h_4]
      obtain ⟨v3, h_5, H⟩ := HS.bnd H
      try simp -implicitDefEqProofs (maxSteps := 2000000) [-selQ_sel, h_1, h_2, h_3, h_4, h_5]
      obtain ⟨v4, h_6, H⟩ := HS.bnd H
      try simp -implicitDefEqProofs (maxSteps := 2000000) [-selQ_sel, h_1, h_2, h_3, h_4, h_5, h_6]
      have hr := (HS.some H).symm; subst hr
      refine Hid.mk ⟨_, Wk.refl _, ?_⟩
      try simp -implicitDefEqProofs (maxSteps := 2000000) [-selQ_sel, h_1, h_2, h_3, h_4, h_5, h_6]
    · replace H := HS.cnd_f h_4 H
      try simp -implicitDefEqProofs (maxSteps := 2000000) [-selQ_sel, h_1, h_2, h_3, h_4]
      have hr := (HS.some H).symm; subst hr
      refine Hid.mk ⟨_, Wk.refl _, ?_⟩
      try simp -implicitDefEqProofs (maxSteps := 2000000) [-selQ_sel, h_1, h_2, h_3, h_4]
  · replace H := HS.cnd_f h_2 H
    try simp -implicitDefEqProofs (maxSteps := 2000000) [-selQ_sel, h_1, h_2]
    have hr := (HS.some H).symm; subst hr
    refine Hid.mk ⟨_, Wk.refl _, ?_⟩
    try simp -implicitDefEqProofs (maxSteps := 2000000) [-selQ_sel, h_1, h_2]
theorem laws_eqSurface_ok0 (hm : Try.prog.follows .mixedOrders = true) (k_laws_eqColorS : Sound Try.prog 142 laws_eqColorS_x) : Sound Try.prog 63 laws_eqSurface_x := by
  refine xOf_sound fun q r h => ?_
  obtain ⟨a0, a1⟩ := q
  refine fn_ok E0 hm Try.func63 rfl (by decide +kernel) (by rfl) fun Γ hn hk => ?_
  dsimp only [laws_eqSurface_e, laws_eqSurface_v]
  replace hn : Γ.n = 21 := hn
  replace hk : Γ.k = 0 := hk
  have H : HS (laws_eqSurface a0 a1) r := h
  clear h; unfold laws_eqSurface at H
  try simp -implicitDefEqProofs at H
  refine Tr.of_vc (cl := tabC [(142, laws_eqColorS_x)]) (E := E0) [] (tab_cons k_laws_eqColorS tab_nil) hm (by rw [hn]; decide +kernel) ?_
  try simp -implicitDefEqProofs (maxSteps := 2000000) [-selQ_sel]
  refine Hid.brV (fun h_1 => ?_) (fun h_1 => ?_)
  · replace H := HS.cnd_t h_1 H
    try simp -implicitDefEqProofs (maxSteps := 2000000) [-selQ_sel, h_1]
    refine Hid.brV (fun h_2 => ?_) (fun h_2 => ?_)
    · replace H := HS.cnd_t h_2 H
      try simp -implicitDefEqProofs (maxSteps := 2000000) [-selQ_sel, h_1, h_2]
      obtain ⟨v1, h_3, H⟩ := HS.bnd H
      try simp -implicitDefEqProofs (maxSteps := 2000000) [-selQ_sel, h_1, h_2, h_3]
      refine Hid.brV (fun h_4 => ?_) (fun h_4 => ?_)
      · replace H := HS.cnd_t h_4 H
        try simp -implicitDefEqProofs (maxSteps := 2000000) [-selQ_sel, h_1, h_2, h_3, h_4]
        have hr := (HS.some H).symm; subst hr
        refine Hid.mk ⟨_, Wk.refl _, ?_⟩
        try simp -implicitDefEqProofs (maxSteps := 2000000) [-selQ_sel, h_1, h_2, h_3, h_4]
      · replace H := HS.cnd_f h_4 H
        try simp -implicitDefEqProofs (maxSteps := 2000000) [-selQ_sel, h_1, h_2, h_3, h_4]
        have hr := (HS.some H).symm; subst hr
        refine Hid.mk ⟨_, Wk.refl _, ?_⟩
        try simp -implicitDefEqProofs (maxSteps := 2000000) [-selQ_sel, h_1, h_2, h_3, h_4]
    · replace H := HS.cnd_f h_2 H
      try simp -implicitDefEqProofs (maxSteps := 2000000) [-selQ_sel, h_1, h_2]
      have hr := (HS.some H).symm; subst hr
      refine Hid.mk ⟨_, Wk.refl _, ?_⟩
      try simp -implicitDefEqProofs (maxSteps := 2000000) [-selQ_sel, h_1, h_2]
  · replace H := HS.cnd_f h_1 H
    try simp -implicitDefEqProofs (maxSteps := 2000000) [-selQ_sel, h_1]
    have hr := (HS.some H).symm; subst hr
    refine Hid.mk ⟨_, Wk.refl _, ?_⟩
    try simp -implicitDefEqProofs (maxSteps := 2000000) [-selQ_sel, h_1]
theorem laws_eqPath_ok0 (hm : Try.prog.follows .mixedOrders = true) (k_laws_eqIntS : Sound Try.prog 56 laws_eqIntS_x) (k_laws_eqPointS : Sound Try.prog 239 laws_eqPointS_x) : Sound Try.prog 217 laws_eqPath_x := by
  refine xOf_sound fun q r h => ?_
  obtain ⟨a0, a1⟩ := q
  refine fn_ok E0 hm Try.func217 rfl (by decide +kernel) (by rfl) fun Γ hn hk => ?_
  dsimp only [laws_eqPath_e, laws_eqPath_v]
  replace hn : Γ.n = 17 := hn
  replace hk : Γ.k = 0 := hk
  have H : HS (laws_eqPath a0 a1) r := h
  clear h; unfold laws_eqPath at H
  try simp -implicitDefEqProofs at H
  refine Tr.of_vc (cl := tabC [(56, laws_eqIntS_x), (239, laws_eqPointS_x)]) (E := E0) [] (tab_cons k_laws_eqIntS (tab_cons k_laws_eqPointS tab_nil)) hm (by rw [hn]; decide +kernel) ?_
  try simp -implicitDefEqProofs (maxSteps := 2000000) [-selQ_sel]
  obtain ⟨v1, h_1, H⟩ := HS.bnd H
  try simp -implicitDefEqProofs (maxSteps := 2000000) [-selQ_sel, h_1]
  refine Hid.brV (fun h_2 => ?_) (fun h_2 => ?_)
  · replace H := HS.cnd_t h_2 H
    try simp -implicitDefEqProofs (maxSteps := 2000000) [-selQ_sel, h_1, h_2]
    obtain ⟨v2, h_3, H⟩ := HS.bnd H
    try simp -implicitDefEqProofs (maxSteps := 2000000) [-selQ_sel, h_1, h_2, h_3]
    refine Hid.brV (fun h_4 => ?_) (fun h_4 => ?_)
    · replace H := HS.cnd_t h_4 H
      try simp -implicitDefEqProofs (maxSteps := 2000000) [-selQ_sel, h_1, h_2, h_3, h_4]
      have hr := (HS.some H).symm; subst hr
      refine Hid.mk ⟨_, Wk.refl _, ?_⟩
      try simp -implicitDefEqProofs (maxSteps := 2000000) [-selQ_sel, h_1, h_2, h_3, h_4]
    · replace H := HS.cnd_f h_4 H
      try simp -implicitDefEqProofs (maxSteps := 2000000) [-selQ_sel, h_1, h_2, h_3, h_4]
      have hr := (HS.some H).symm; subst hr
      refine Hid.mk ⟨_, Wk.refl _, ?_⟩
      try simp -implicitDefEqProofs (maxSteps := 2000000) [-selQ_sel, h_1, h_2, h_3, h_4]
  · replace H := HS.cnd_f h_2 H
    try simp -implicitDefEqProofs (maxSteps := 2000000) [-selQ_sel, h_1, h_2]
    have hr := (HS.some H).symm; subst hr
    refine Hid.mk ⟨_, Wk.refl _, ?_⟩
    try simp -implicitDefEqProofs (maxSteps := 2000000) [-selQ_sel, h_1, h_2]
theorem spec_TileBox_ok0 (hm : Try.prog.follows .mixedOrders = true) (k_spec_TileCount : Sound Try.prog 81 spec_TileCount_x) (k_spec_l01In : Sound Try.prog 73 spec_l01In_x) (k_spec_MeetBox : Sound Try.prog 85 spec_MeetBox_x) : Sound Try.prog 83 spec_TileBox_x := by
  refine xOf_sound fun q r h => ?_
  obtain ⟨a0, a1, a2⟩ := q
  refine fn_ok E0 hm Try.func83 rfl (by decide +kernel) (by rfl) fun Γ hn hk => ?_
  dsimp only [spec_TileBox_e, spec_TileBox_v]
  replace hn : Γ.n = 40 := hn
  replace hk : Γ.k = 0 := hk
  have H : HS (spec_TileBox a0 a1 a2) r := h
  clear h; unfold spec_TileBox at H
  try simp -implicitDefEqProofs at H
  refine Tr.of_vc (cl := tabC [(81, spec_TileCount_x), (73, spec_l01In_x), (85, spec_MeetBox_x)]) (E := E0) [] (tab_cons k_spec_TileCount (tab_cons k_spec_l01In (tab_cons k_spec_MeetBox tab_nil))) hm (by rw [hn]; decide +kernel) ?_
  try simp -implicitDefEqProofs (maxSteps := 2000000) [-selQ_sel]
  obtain ⟨v1, h_1, H⟩ := HS.bnd H
  try simp -implicitDefEqProofs (maxSteps := 2000000) [-selQ_sel, h_1]
  obtain ⟨v2, h_2, H⟩ := HS.bnd H
  try simp -implicitDefEqProofs (maxSteps := 2000000) [-selQ_sel, h_1, h_2]
  refine Hid.brV (fun h_3 => ?_) (fun h_3 => ?_)
  · replace H := HS.cnd_t h_3 H
    try simp -implicitDefEqProofs (maxSteps := 2000000) [-selQ_sel, h_1, h_2, h_3]
    obtain ⟨h_4, H⟩ := HS.chkP H
    try simp -implicitDefEqProofs (maxSteps := 2000000) [-selQ_sel, h_1, h_2, h_3, h_4]
    obtain ⟨v3, h_5, H⟩ := HS.bnd H
    try simp -implicitDefEqProofs (maxSteps := 2000000) [-selQ_sel, h_1, h_2, h_3, h_4, h_5]
    have hr := (HS.some H).symm; subst hr
    refine Hid.mk ⟨_, Wk.refl _, ?_⟩
    try simp -implicitDefEqProofs (maxSteps := 2000000) [-selQ_sel, h_1, h_2, h_3, h_4, h_5]
  · replace H := HS.cnd_f h_3 H
    try simp -implicitDefEqProofs (maxSteps := 2000000) [-selQ_sel, h_1, h_2, h_3]
    have hr := (HS.some H).symm; subst hr
    refine Hid.mk ⟨_, Wk.refl _, ?_⟩
    try simp -implicitDefEqProofs (maxSteps := 2000000) [-selQ_sel, h_1, h_2, h_3]
theorem impl_isStamped_ok0 (hm : Try.prog.follows .mixedOrders = true) (k_impl_SurfaceOk : Sound Try.prog 34 impl_SurfaceOk_x) (k_impl_TileCount : Sound Try.prog 138 impl_TileCount_x) : Sound Try.prog 87 impl_isStamped_x := by
  refine xOf_sound fun q r h => ?_
  revert h; revert r; revert q; intro a0 r h
  refine fn_ok E0 hm Try.func87 rfl (by decide +kernel) (by rfl) fun Γ hn hk => ?_
  dsimp only [impl_isStamped_e, impl_isStamped_v]
  replace hn : Γ.n = 19 := hn
  replace hk : Γ.k = 0 := hk
  have H : HS (impl_isStamped a0) r := h
  clear h; unfold impl_isStamped at H
  try simp -implicitDefEqProofs at H
  refine Tr.of_vc (cl := tabC [(34, impl_SurfaceOk_x), (138, impl_TileCount_x)]) (E := E0) [] (tab_cons k_impl_SurfaceOk (tab_cons k_impl_TileCount tab_nil)) hm (by rw [hn]; decide +kernel) ?_
  try simp -implicitDefEqProofs +decide (maxSteps := 2000000) [-selQ_sel, hokQ_of]
  obtain ⟨v1, h_1, H⟩ := HS.bnd H
  try simp -implicitDefEqProofs +decide (maxSteps := 2000000) [-selQ_sel, hokQ_of, h_1]
  refine Hid.selQ (fun h_2 => ?_) (fun h_2 => ?_)
  · replace H := HS.cnd_t h_2 H
    try simp -implicitDefEqProofs +decide (maxSteps := 2000000) [-selQ_sel, hokQ_of, h_1, h_2]
    obtain ⟨v2, h_3, H⟩ := HS.bnd H
    try simp -implicitDefEqProofs +decide (maxSteps := 2000000) [-selQ_sel, hokQ_of, h_1, h_2, h_3]
    have hr := (HS.some H).symm; subst hr
    refine Hid.mk ⟨_, Wk.refl _, ?_⟩
    try simp -implicitDefEqProofs +decide (maxSteps := 2000000) [-selQ_sel, hokQ_of, h_1, h_2, h_3]
  · replace H := HS.cnd_f h_2 H
    try simp -implicitDefEqProofs +decide (maxSteps := 2000000) [-selQ_sel, hokQ_of, h_1, h_2]
    have hr := (HS.some H).symm; subst hr
    refine Hid.mk ⟨_, Wk.refl _, ?_⟩
    try simp -implicitDefEqProofs +decide (maxSteps := 2000000) [-selQ_sel, hokQ_of, h_1, h_2]
theorem laws_eqPoint_ok0 (hm : Try.prog.follows .mixedOrders = true) : Sound Try.prog 240 laws_eqPoint_x := by
  refine xOf_sound fun q r h => ?_
  obtain ⟨a0, a1⟩ := q
  refine fn_ok E0 hm Try.func240 rfl (by decide +kernel) (by rfl) fun Γ hn hk => ?_
  dsimp only [laws_eqPoint_e, laws_eqPoint_v]
  replace hn : Γ.n = 15 := hn
  replace hk : Γ.k = 0 := hk
  have H : HS (laws_eqPoint a0 a1) r := h
  clear h; unfold laws_eqPoint at H
  try simp -implicitDefEqProofs at H
  refine Tr.of_vc (cl := tabC []) (E := E0) [] tab_nil hm (by rw [hn]; decide +kernel) ?_
  try simp -implicitDefEqProofs (maxSteps := 2000000) [-selQ_sel]
  refine Hid.brV (fun h_1 => ?_) (fun h_1 => ?_)
  · replace H := HS.cnd_t h_1 H
    try simp -implicitDefEqProofs (maxSteps := 2000000) [-selQ_sel, h_1]
    refine Hid.brV (fun h_2 => ?_) (fun h_2 => ?_)
    · replace H := HS.cnd_t h_2 H
      try simp -implicitDefEqProofs (maxSteps := 2000000) [-selQ_sel, h_1, h_2]
      have hr := (HS.some H).symm; subst hr
      refine Hid.mk ⟨_, Wk.refl _, ?_⟩
      try simp -implicitDefEqProofs (maxSteps := 2000000) [-selQ_sel, h_1, h_2]
    · replace H := HS.cnd_f h_2 H
      try simp -implicitDefEqProofs (maxSteps := 2000000) [-selQ_sel, h_1, h_2]
      have hr := (HS.some H).symm; subst hr
      refine Hid.mk ⟨_, Wk.refl _, ?_⟩
      try simp -implicitDefEqProofs (maxSteps := 2000000) [-selQ_sel, h_1, h_2]
  · replace H := HS.cnd_f h_1 H
    try simp -implicitDefEqProofs (maxSteps := 2000000) [-selQ_sel, h_1]
    have hr := (HS.some H).symm; subst hr
    refine Hid.mk ⟨_, Wk.refl _, ?_⟩
    try simp -implicitDefEqProofs (maxSteps := 2000000) [-selQ_sel, h_1]
theorem laws_szCache_ok0 (hm : Try.prog.follows .mixedOrders = true) (k_laws_szKeptS : Sound Try.prog 72 laws_szKeptS_x) : Sound Try.prog 12 laws_szCache_x := by
  refine xOf_sound fun q r h => ?_
  obtain ⟨a0, a1⟩ := q
  refine fn_ok E0 hm Try.func12 rfl (by decide +kernel) (by rfl) fun Γ hn hk => ?_
  dsimp only [laws_szCache_e, laws_szCache_v]
  replace hn : Γ.n = 12 := hn
  replace hk : Γ.k = 0 := hk
  have H : HS (laws_szCache a0 a1) r := h
  clear h; unfold laws_szCache at H
  try simp -implicitDefEqProofs at H
  refine Tr.of_vc (cl := tabC [(72, laws_szKeptS_x)]) (E := E0) [] (tab_cons k_laws_szKeptS tab_nil) hm (by rw [hn]; decide +kernel) ?_
  try simp -implicitDefEqProofs (maxSteps := 2000000) [-selQ_sel]
  obtain ⟨v1, h_1, H⟩ := HS.bnd H
  try simp -implicitDefEqProofs (maxSteps := 2000000) [-selQ_sel, h_1]
  refine Hid.brV (fun h_2 => ?_) (fun h_2 => ?_)
  · replace H := HS.cnd_t h_2 H
    try simp -implicitDefEqProofs (maxSteps := 2000000) [-selQ_sel, h_1, h_2]
    have hr := (HS.some H).symm; subst hr
    refine Hid.mk ⟨_, Wk.refl _, ?_⟩
    try simp -implicitDefEqProofs (maxSteps := 2000000) [-selQ_sel, h_1, h_2]
  · replace H := HS.cnd_f h_2 H
    try simp -implicitDefEqProofs (maxSteps := 2000000) [-selQ_sel, h_1, h_2]
    have hr := (HS.some H).symm; subst hr
    refine Hid.mk ⟨_, Wk.refl _, ?_⟩
    try simp -implicitDefEqProofs (maxSteps := 2000000) [-selQ_sel, h_1, h_2]
theorem laws_szKept_ok0 (hm : Try.prog.follows .mixedOrders = true) (k_laws_szMask : Sound Try.prog 66 laws_szMask_x) : Sound Try.prog 147 laws_szKept_x := by
  refine xOf_sound fun q r h => ?_
  obtain ⟨a0, a1⟩ := q
  refine fn_ok E0 hm Try.func147 rfl (by decide +kernel) (by rfl) fun Γ hn hk => ?_
  dsimp only [laws_szKept_e, laws_szKept_v]
  replace hn : Γ.n = 12 := hn
  replace hk : Γ.k = 0 := hk
  have H : HS (laws_szKept a0 a1) r := h
  clear h; unfold laws_szKept at H
  try simp -implicitDefEqProofs at H
  refine Tr.of_vc (cl := tabC [(66, laws_szMask_x)]) (E := E0) [] (tab_cons k_laws_szMask tab_nil) hm (by rw [hn]; decide +kernel) ?_
  try simp -implicitDefEqProofs (maxSteps := 2000000) [-selQ_sel]
  obtain ⟨v1, h_1, H⟩ := HS.bnd H
  try simp -implicitDefEqProofs (maxSteps := 2000000) [-selQ_sel, h_1]
  refine Hid.brV (fun h_2 => ?_) (fun h_2 => ?_)
  · replace H := HS.cnd_t h_2 H
    try simp -implicitDefEqProofs (maxSteps := 2000000) [-selQ_sel, h_1, h_2]
    have hr := (HS.some H).symm; subst hr
    refine Hid.mk ⟨_, Wk.refl _, ?_⟩
    try simp -implicitDefEqProofs (maxSteps := 2000000) [-selQ_sel, h_1, h_2]
  · replace H := HS.cnd_f h_2 H
    try simp -implicitDefEqProofs (maxSteps := 2000000) [-selQ_sel, h_1, h_2]
    have hr := (HS.some H).symm; subst hr
    refine Hid.mk ⟨_, Wk.refl _, ?_⟩
    try simp -implicitDefEqProofs (maxSteps := 2000000) [-selQ_sel, h_1, h_2]
theorem laws_toPath_ok0 (hm : Try.prog.follows .mixedOrders = true) (k_laws_toIntS : Sound Try.prog 86 laws_toIntS_x) (k_laws_toPointS : Sound Try.prog 236 laws_toPointS_x) : Sound Try.prog 209 laws_toPath_x := by
  refine xOf_sound fun q r h => ?_
  revert h; revert r; revert q; intro a0 r h
  refine fn_ok E0 hm Try.func209 rfl (by decide +kernel) (by rfl) fun Γ hn hk => ?_
  dsimp only [laws_toPath_e, laws_toPath_v]
  replace hn : Γ.n = 13 := hn
  replace hk : Γ.k = 0 := hk
  have H : HS (laws_toPath a0) r := h
  clear h; unfold laws_toPath at H
  try simp -implicitDefEqProofs at H
  refine Tr.of_vc (cl := tabC [(86, laws_toIntS_x), (236, laws_toPointS_x)]) (E := E0) [] (tab_cons k_laws_toIntS (tab_cons k_laws_toPointS tab_nil)) hm (by rw [hn]; decide +kernel) ?_
  try simp -implicitDefEqProofs (maxSteps := 2000000) [-selQ_sel]
  obtain ⟨v1, h_1, H⟩ := HS.bnd H
  try simp -implicitDefEqProofs (maxSteps := 2000000) [-selQ_sel, h_1]
  obtain ⟨v2, h_2, H⟩ := HS.bnd H
  try simp -implicitDefEqProofs (maxSteps := 2000000) [-selQ_sel, h_1, h_2]
  have hr := (HS.some H).symm; subst hr
  refine Hid.mk ⟨_, Wk.refl _, ?_⟩
  try simp -implicitDefEqProofs (maxSteps := 2000000) [-selQ_sel, h_1, h_2]
theorem laws_szPointS_ok0 (hm : Try.prog.follows .mixedOrders = true) : Sound Try.prog 235 laws_szPointS_x := by
  refine xOf_sound fun q r h => ?_
  obtain ⟨a0, a1⟩ := q
  refine fn_ok E0 hm Try.func235 rfl (by decide +kernel) (by rfl) fun Γ hn hk => ?_
  dsimp only [laws_szPointS_e, laws_szPointS_v]
  replace hn : Γ.n = 12 := hn
  replace hk : Γ.k = 0 := hk
  have H : HS (laws_szPointS a0 a1) r := h
  clear h; unfold laws_szPointS at H
  try simp -implicitDefEqProofs at H
  refine Tr.of_vc (cl := tabC []) (E := E0) [] tab_nil hm (by rw [hn]; decide +kernel) ?_
  try simp -implicitDefEqProofs (maxSteps := 2000000) [-selQ_sel]
  refine Hid.brV (fun h_1 => ?_) (fun h_1 => ?_)
  · replace H := HS.cnd_t h_1 H
    try simp -implicitDefEqProofs (maxSteps := 2000000) [-selQ_sel, h_1]
    have hr := (HS.some H).symm; subst hr
    refine Hid.mk ⟨_, Wk.refl _, ?_⟩
    try simp -implicitDefEqProofs (maxSteps := 2000000) [-selQ_sel, h_1]
  · replace H := HS.cnd_f h_1 H
    try simp -implicitDefEqProofs (maxSteps := 2000000) [-selQ_sel, h_1]
    have hr := (HS.some H).symm; subst hr
    refine Hid.mk ⟨_, Wk.refl _, ?_⟩
    try simp -implicitDefEqProofs (maxSteps := 2000000) [-selQ_sel, h_1]
theorem spec_Empty_ok0 (hm : Try.prog.follows .mixedOrders = true) : Sound Try.prog 84 spec_Empty_x := by
  refine xOf_sound fun q r h => ?_
  revert h; revert r; revert q; intro a0 r h
  refine fn_ok E0 hm Try.func84 rfl (by decide +kernel) (by rfl) fun Γ hn hk => ?_
  dsimp only [spec_Empty_e, spec_Empty_v]
  replace hn : Γ.n = 15 := hn
  replace hk : Γ.k = 0 := hk
  have H : HS (spec_Empty a0) r := h
  clear h; unfold spec_Empty at H
  try simp -implicitDefEqProofs at H
  refine Tr.of_vc (cl := tabC []) (E := E0) [] tab_nil hm (by rw [hn]; decide +kernel) ?_
  try simp -implicitDefEqProofs (maxSteps := 2000000) [-selQ_sel]
  refine Hid.selQ (fun h_1 => ?_) (fun h_1 => ?_)
  · replace H := HS.cnd_t h_1 H
    try simp -implicitDefEqProofs (maxSteps := 2000000) [-selQ_sel, h_1]
    have hr := (HS.some H).symm; subst hr
    refine Hid.mk ⟨_, Wk.refl _, ?_⟩
    try simp -implicitDefEqProofs (maxSteps := 2000000) [-selQ_sel, h_1]
  · replace H := HS.cnd_f h_1 H
    try simp -implicitDefEqProofs (maxSteps := 2000000) [-selQ_sel, h_1]
    have hr := (HS.some H).symm; subst hr
    refine Hid.mk ⟨_, Wk.refl _, ?_⟩
    try simp -implicitDefEqProofs (maxSteps := 2000000) [-selQ_sel, h_1]
theorem spec_l01In_ok0 (hm : Try.prog.follows .mixedOrders = true) : Sound Try.prog 73 spec_l01In_x := by
  refine xOf_sound fun q r h => ?_
  obtain ⟨a0, a1, a2⟩ := q
  refine fn_ok E0 hm Try.func73 rfl (by decide +kernel) (by rfl) fun Γ hn hk => ?_
  dsimp only [spec_l01In_e, spec_l01In_v]
  replace hn : Γ.n = 15 := hn
  replace hk : Γ.k = 0 := hk
  have H : HS (spec_l01In a0 a1 a2) r := h
  clear h; unfold spec_l01In at H
  try simp -implicitDefEqProofs at H
  refine Tr.of_vc (cl := tabC []) (E := E0) [] tab_nil hm (by rw [hn]; decide +kernel) ?_
  try simp -implicitDefEqProofs (maxSteps := 2000000) [-selQ_sel]
  refine Hid.selQ (fun h_1 => ?_) (fun h_1 => ?_)
  · replace H := HS.cnd_t h_1 H
    try simp -implicitDefEqProofs (maxSteps := 2000000) [-selQ_sel, h_1]
    have hr := (HS.some H).symm; subst hr
    refine Hid.mk ⟨_, Wk.refl _, ?_⟩
    try simp -implicitDefEqProofs (maxSteps := 2000000) [-selQ_sel, h_1]
  · replace H := HS.cnd_f h_1 H
    try simp -implicitDefEqProofs (maxSteps := 2000000) [-selQ_sel, h_1]
    have hr := (HS.some H).symm; subst hr
    refine Hid.mk ⟨_, Wk.refl _, ?_⟩
    try simp -implicitDefEqProofs (maxSteps := 2000000) [-selQ_sel, h_1]
theorem laws_toKept_ok0 (hm : Try.prog.follows .mixedOrders = true) (k_laws_toMask : Sound Try.prog 68 laws_toMask_x) : Sound Try.prog 149 laws_toKept_x := by
  refine xOf_sound fun q r h => ?_
  revert h; revert r; revert q; intro a0 r h
  refine fn_ok E0 hm Try.func149 rfl (by decide +kernel) (by rfl) fun Γ hn hk => ?_
  dsimp only [laws_toKept_e, laws_toKept_v]
  replace hn : Γ.n = 12 := hn
  replace hk : Γ.k = 0 := hk
  have H : HS (laws_toKept a0) r := h
  clear h; unfold laws_toKept at H
  try simp -implicitDefEqProofs at H
  refine Tr.of_vc (cl := tabC [(68, laws_toMask_x)]) (E := E0) [] (tab_cons k_laws_toMask tab_nil) hm (by rw [hn]; decide +kernel) ?_
  try simp -implicitDefEqProofs (maxSteps := 2000000) [-selQ_sel]
  obtain ⟨⟨w2, w3⟩, h_1, H⟩ := HS.bnd H
  dsimp only at H
  try simp -implicitDefEqProofs (maxSteps := 2000000) [-selQ_sel, h_1]
  have hr := (HS.some H).symm; subst hr
  refine Hid.mk ⟨_, Wk.refl _, ?_⟩
  try simp -implicitDefEqProofs (maxSteps := 2000000) [-selQ_sel, h_1]
theorem laws_toScene_ok0 (hm : Try.prog.follows .mixedOrders = true) (k_laws_toNodeS : Sound Try.prog 96 laws_toNodeS_x) : Sound Try.prog 24 laws_toScene_x := by
  refine xOf_sound fun q r h => ?_
  revert h; revert r; revert q; intro a0 r h
  refine fn_ok E0 hm Try.func24 rfl (by decide +kernel) (by rfl) fun Γ hn hk => ?_
  dsimp only [laws_toScene_e, laws_toScene_v]
  replace hn : Γ.n = 9 := hn
  replace hk : Γ.k = 0 := hk
  have H : HS (laws_toScene a0) r := h
  clear h; unfold laws_toScene at H
  try simp -implicitDefEqProofs at H
  refine Tr.of_vc (cl := tabC [(96, laws_toNodeS_x)]) (E := E0) [] (tab_cons k_laws_toNodeS tab_nil) hm (by rw [hn]; decide +kernel) ?_
  try simp -implicitDefEqProofs (maxSteps := 2000000) [-selQ_sel]
  obtain ⟨v1, h_1, H⟩ := HS.bnd H
  try simp -implicitDefEqProofs (maxSteps := 2000000) [-selQ_sel, h_1]
  have hr := (HS.some H).symm; subst hr
  refine Hid.mk ⟨_, Wk.refl _, ?_⟩
  try simp -implicitDefEqProofs (maxSteps := 2000000) [-selQ_sel, h_1]
theorem impl_tilesAlong_ok0 (hm : Try.prog.follows .mixedOrders = true) : Sound Try.prog 156 impl_tilesAlong_x := by
  refine xOf_sound fun q r h => ?_
  revert h; revert r; revert q; intro a0 r h
  refine fn_ok E0 hm Try.func156 rfl (by decide +kernel) (by rfl) fun Γ hn hk => ?_
  dsimp only [impl_tilesAlong_e, impl_tilesAlong_v]
  replace hn : Γ.n = 7 := hn
  replace hk : Γ.k = 0 := hk
  have H : HS (impl_tilesAlong a0) r := h
  clear h; unfold impl_tilesAlong at H
  try simp -implicitDefEqProofs at H
  refine Tr.of_vc (cl := tabC []) (E := E0) [] tab_nil hm (by rw [hn]; decide +kernel) ?_
  try simp -implicitDefEqProofs (maxSteps := 2000000) [-selQ_sel]
  have hr := (HS.some H).symm; subst hr
  refine Hid.mk ⟨_, Wk.refl _, ?_⟩
  try simp -implicitDefEqProofs (maxSteps := 2000000) [-selQ_sel]
theorem laws_toMat_ok0 (hm : Try.prog.follows .mixedOrders = true) : Sound Try.prog 208 laws_toMat_x := by
  refine xOf_sound fun q r h => ?_
  revert h; revert r; revert q; intro a0 r h
  refine fn_ok E0 hm Try.func208 rfl (by decide +kernel) (by rfl) fun Γ hn hk => ?_
  dsimp only [laws_toMat_e, laws_toMat_v]
  replace hn : Γ.n = 23 := hn
  replace hk : Γ.k = 0 := hk
  have H : HS (laws_toMat a0) r := h
  clear h; unfold laws_toMat at H
  try simp -implicitDefEqProofs at H
  refine Tr.of_vc (cl := tabC []) (E := E0) [] tab_nil hm (by rw [hn]; decide +kernel) ?_
  try simp -implicitDefEqProofs (maxSteps := 2000000) [-selQ_sel]
  have hr := (HS.some H).symm; subst hr
  refine Hid.mk ⟨_, Wk.refl _, ?_⟩
  try simp -implicitDefEqProofs (maxSteps := 2000000) [-selQ_sel]
end Go.Proofs.Ytoafihhhdnmliaa.Am
