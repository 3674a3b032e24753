import Derived.Test.YtoafihhhdnmliaaAmK1Mo
set_option linter.unusedVariables false
set_option linter.unusedSimpArgs false
set_option linter.unusedSectionVars false
namespace Go.Proofs.Ytoafihhhdnmliaa.Am
open Go Go.Proofs
set_option maxRecDepth 100000
set_option linter.unusedSimpArgs false
set_option linter.unusedVariables false
set_option maxHeartbeats 4000000
theorem spec_CacheOk_ok0 (hm : Try.prog.follows .mixedOrders = true) (k_spec_l01In : Sound Try.prog 73 spec_l01In_x) (k_spec_MaskOk : Sound Try.prog 74 spec_MaskOk_x) : Sound Try.prog 13 spec_CacheOk_x := by
  refine xOf_sound fun q r h => ?_
  revert h; revert r; revert q; intro a0 r h
  refine fn_ok E0 hm Try.func13 rfl (by decide +kernel) (by rfl) fun Γ hn hk => ?_
  dsimp only [spec_CacheOk_e, spec_CacheOk_v]
  replace hn : Γ.n = 60 := hn
  replace hk : Γ.k = 0 := hk
  have H : HS (spec_CacheOk a0) r := h
  clear h; unfold spec_CacheOk at H
  try simp -implicitDefEqProofs at H
  refine Tr.of_vc (cl := tabC [(73, spec_l01In_x), (74, spec_MaskOk_x)]) (E := E0) [] (tab_cons k_spec_l01In (tab_cons k_spec_MaskOk tab_nil)) hm (by rw [hn]; decide +kernel) ?_
  try simp -implicitDefEqProofs +decide (maxSteps := 2000000) [-selQ_sel, hokQ_of]
  obtain ⟨v1, h_1, H⟩ := HS.bnd H
  try simp -implicitDefEqProofs +decide (maxSteps := 2000000) [-selQ_sel, hokQ_of, h_1]
  refine Hid.selQ (fun h_2 => ?_) (fun h_2 => ?_)
  · replace H := HS.cnd_t h_2 H
    try simp -implicitDefEqProofs +decide (maxSteps := 2000000) [-selQ_sel, hokQ_of, h_1, h_2]
    refine Hid.brV (fun h_3 => ?_) (fun h_3 => ?_)
    · replace H := HS.cnd_t h_3 H
      try simp -implicitDefEqProofs +decide (maxSteps := 2000000) [-selQ_sel, hokQ_of, h_1, h_2, h_3]
      obtain ⟨q, h_4, H⟩ := HS.bnd H
      refine Hid.mk (Tr.weak (s' := (spec_CacheOk_l1_S a0) 0) (Wk.ofk [0] hk (by rfl) (by simp -implicitDefEqProofs [spec_CacheOk_l1_S, h_1, h_2, h_3]) (by simp -implicitDefEqProofs [spec_CacheOk_l1_S, h_1, h_2, h_3])) ?_)
      refine wp_loop_of (S := (spec_CacheOk_l1_S a0)) (f := (spec_CacheOk_l1 a0)) (xt := (spec_CacheOk_l1_X a0)) ?_ ?_ h_4 ?_
      · intro q; rcases q with ⟨⟩ | ⟨⟩ <;> simp [spec_CacheOk_l1_X]
      · clear H h_4 q
        rintro x9 o R hf hR
        have H : HS (spec_CacheOk_l1 a0 x9) o := hf
        clear hf; unfold spec_CacheOk_l1 at H
        try simp -implicitDefEqProofs at H
        refine Tr.of_vc (cl := tabC [(73, spec_l01In_x), (74, spec_MaskOk_x)]) (E := E0) [] (tab_cons k_spec_l01In (tab_cons k_spec_MaskOk tab_nil)) hm (by rw [hn]; decide +kernel) ?_
        try simp -implicitDefEqProofs +decide (maxSteps := 2000000) [-selQ_sel, hokQ_of, spec_CacheOk_l1_S]
        refine Hid.brV (fun h_5 => ?_) (fun h_5 => ?_)
        · replace H := HS.cnd_t h_5 H
          try simp -implicitDefEqProofs +decide (maxSteps := 2000000) [-selQ_sel, hokQ_of, h_5]
          have hr := (HS.some H).symm; subst hr
          exact Hid.mk ⟨(spec_CacheOk_l1_X a0 (.inl ())).2, Wk.ofk [] hk (by rfl) (by simp -implicitDefEqProofs [spec_CacheOk_l1_X, h_5]) (by simp -implicitDefEqProofs [spec_CacheOk_l1_X, h_5]), hR⟩
        · replace H := HS.cnd_f h_5 H
          try simp -implicitDefEqProofs +decide (maxSteps := 2000000) [-selQ_sel, hokQ_of, h_5]
          obtain ⟨v10, h_6, H⟩ := HS.bnd H
          try simp -implicitDefEqProofs +decide (maxSteps := 2000000) [-selQ_sel, hokQ_of, h_5, h_6]
          obtain ⟨v11, h_7, H⟩ := HS.bnd H
          try simp -implicitDefEqProofs +decide (maxSteps := 2000000) [-selQ_sel, hokQ_of, h_5, h_6, h_7]
          refine Hid.selQ (fun h_8 => ?_) (fun h_8 => ?_)
          · replace H := HS.cnd_t h_8 H
            try simp -implicitDefEqProofs +decide (maxSteps := 2000000) [-selQ_sel, hokQ_of, h_5, h_6, h_7, h_8]
            obtain ⟨v12, h_9, H⟩ := HS.bnd H
            try simp -implicitDefEqProofs +decide (maxSteps := 2000000) [-selQ_sel, hokQ_of, h_5, h_6, h_7, h_8, h_9]
            refine Hid.brV (fun h_10 => ?_) (fun h_10 => ?_)
            · replace H := HS.cnd_t h_10 H
              try simp -implicitDefEqProofs +decide (maxSteps := 2000000) [-selQ_sel, hokQ_of, h_5, h_6, h_7, h_8, h_9, h_10]
              obtain ⟨q, h_11, H⟩ := HS.bnd H
              refine Hid.mk (Tr.weak (s' := (spec_CacheOk_l0_S a0 x9) 0) (Wk.ofk [0] hk (by rfl) (by simp -implicitDefEqProofs [spec_CacheOk_l0_S, h_5, h_6, h_7, h_8, h_9, h_10]) (by simp -implicitDefEqProofs [spec_CacheOk_l0_S, h_5, h_6, h_7, h_8, h_9, h_10])) ?_)
              refine wp_loop_of (S := (spec_CacheOk_l0_S a0 x9)) (f := (spec_CacheOk_l0 a0 x9)) (xt := (spec_CacheOk_l0_X a0 x9)) ?_ ?_ h_11 ?_
              · intro q; rcases q with ⟨⟩ | ⟨⟩ <;> simp [spec_CacheOk_l0_X]
              · clear H h_11 q
                rintro x15 o R hf hR
                have H : HS (spec_CacheOk_l0 a0 x9 x15) o := hf
                clear hf; unfold spec_CacheOk_l0 at H
                try simp -implicitDefEqProofs at H
                refine Tr.of_vc (cl := tabC [(73, spec_l01In_x), (74, spec_MaskOk_x)]) (E := E0) [] (tab_cons k_spec_l01In (tab_cons k_spec_MaskOk tab_nil)) hm (by rw [hn]; decide +kernel) ?_
                try simp -implicitDefEqProofs +decide (maxSteps := 2000000) [-selQ_sel, hokQ_of, spec_CacheOk_l0_S]
                refine Hid.brV (fun h_12 => ?_) (fun h_12 => ?_)
                · replace H := HS.cnd_t h_12 H
                  try simp -implicitDefEqProofs +decide (maxSteps := 2000000) [-selQ_sel, hokQ_of, h_12]
                  have hr := (HS.some H).symm; subst hr
                  exact Hid.mk ⟨(spec_CacheOk_l0_X a0 x9 (.inl ())).2, Wk.ofk [0] hk (by rfl) (by simp -implicitDefEqProofs [spec_CacheOk_l0_X, h_12]) (by simp -implicitDefEqProofs [spec_CacheOk_l0_X, h_12]), hR⟩
                · replace H := HS.cnd_f h_12 H
                  try simp -implicitDefEqProofs +decide (maxSteps := 2000000) [-selQ_sel, hokQ_of, h_12]
                  obtain ⟨v16, h_13, H⟩ := HS.bnd H
                  try simp -implicitDefEqProofs +decide (maxSteps := 2000000) [-selQ_sel, hokQ_of, h_12, h_13]
                  obtain ⟨v17, h_14, H⟩ := HS.bnd H
                  try simp -implicitDefEqProofs +decide (maxSteps := 2000000) [-selQ_sel, hokQ_of, h_12, h_13, h_14]
                  refine Hid.brV (fun h_15 => ?_) (fun h_15 => ?_)
                  · replace H := HS.cnd_t h_15 H
                    try simp -implicitDefEqProofs +decide (maxSteps := 2000000) [-selQ_sel, hokQ_of, h_12, h_13, h_14, h_15]
                    have hr := (HS.some H).symm; subst hr
                    exact Hid.mk ⟨(spec_CacheOk_l0_X a0 x9 (.inr ())).2, Wk.ofk [] hk (by rfl) (by simp -implicitDefEqProofs [spec_CacheOk_l0_X, h_12, h_13, h_14, h_15]) (by simp -implicitDefEqProofs [spec_CacheOk_l0_X, h_12, h_13, h_14, h_15]), hR⟩
                  · replace H := HS.cnd_f h_15 H
                    try simp -implicitDefEqProofs +decide (maxSteps := 2000000) [-selQ_sel, hokQ_of, h_12, h_13, h_14, h_15]
                    have hr := (HS.some H).symm; subst hr
                    exact Hid.mk ⟨spec_CacheOk_l0_S a0 x9 (IntKind.i64.wrap (x15 + 1)), Wk.ofk [0] hk (by rfl) (by simp -implicitDefEqProofs [spec_CacheOk_l0_S, h_12, h_13, h_14, h_15]) (by simp -implicitDefEqProofs [spec_CacheOk_l0_S, h_12, h_13, h_14, h_15]), hR⟩
              · rcases q with ⟨⟩ | ⟨⟩
                · dsimp only at H
                  try simp -implicitDefEqProofs +decide (maxSteps := 2000000) [-selQ_sel, hokQ_of, h_5, h_6, h_7, h_8, h_9, h_10, spec_CacheOk_l0_X]
                  have hr := (HS.some H).symm; subst hr
                  exact Hid.mk ⟨spec_CacheOk_l1_S a0 (IntKind.i64.wrap (x9 + 1)), Wk.ofk [0] hk (by rfl) (by simp -implicitDefEqProofs [spec_CacheOk_l1_S, h_5, h_6, h_7, h_8, h_9, h_10]) (by simp -implicitDefEqProofs [spec_CacheOk_l1_S, h_5, h_6, h_7, h_8, h_9, h_10]), hR⟩
                · dsimp only at H
                  try simp -implicitDefEqProofs +decide (maxSteps := 2000000) [-selQ_sel, hokQ_of, h_5, h_6, h_7, h_8, h_9, h_10, spec_CacheOk_l0_X]
                  have hr := (HS.some H).symm; subst hr
                  exact Hid.mk ⟨(spec_CacheOk_l1_X a0 (.inr ())).2, Wk.ofk [] hk (by rfl) (by simp -implicitDefEqProofs [spec_CacheOk_l1_X, h_5, h_6, h_7, h_8, h_9, h_10]) (by simp -implicitDefEqProofs [spec_CacheOk_l1_X, h_5, h_6, h_7, h_8, h_9, h_10]), hR⟩
            · replace H := HS.cnd_f h_10 H
              try simp -implicitDefEqProofs +decide (maxSteps := 2000000) [-selQ_sel, hokQ_of, h_5, h_6, h_7, h_8, h_9, h_10]
              have hr := (HS.some H).symm; subst hr
              exact Hid.mk ⟨(spec_CacheOk_l1_X a0 (.inr ())).2, Wk.ofk [] hk (by rfl) (by simp -implicitDefEqProofs [spec_CacheOk_l1_X, h_5, h_6, h_7, h_8, h_9, h_10]) (by simp -implicitDefEqProofs [spec_CacheOk_l1_X, h_5, h_6, h_7, h_8, h_9, h_10]), hR⟩
          · replace H := HS.cnd_f h_8 H
            try simp -implicitDefEqProofs +decide (maxSteps := 2000000) [-selQ_sel, hokQ_of, h_5, h_6, h_7, h_8]
            have hr := (HS.some H).symm; subst hr
            exact Hid.mk ⟨(spec_CacheOk_l1_X a0 (.inr ())).2, Wk.ofk [] hk (by rfl) (by simp -implicitDefEqProofs [spec_CacheOk_l1_X, h_5, h_6, h_7, h_8]) (by simp -implicitDefEqProofs [spec_CacheOk_l1_X, h_5, h_6, h_7, h_8]), hR⟩
      · rcases q with ⟨⟩ | ⟨⟩
        · dsimp only at H
          try simp -implicitDefEqProofs +decide (maxSteps := 2000000) [-selQ_sel, hokQ_of, h_1, h_2, h_3, spec_CacheOk_l1_X]
          have hr := (HS.some H).symm; subst hr
          refine Hid.mk ⟨_, Wk.refl _, ?_⟩
          try simp -implicitDefEqProofs +decide (maxSteps := 2000000) [-selQ_sel, hokQ_of, h_1, h_2, h_3]
        · dsimp only at H
          try simp -implicitDefEqProofs +decide (maxSteps := 2000000) [-selQ_sel, hokQ_of, h_1, h_2, h_3, spec_CacheOk_l1_X]
          have hr := (HS.some H).symm; subst hr
          refine Hid.mk ⟨_, Wk.refl _, ?_⟩
          try simp -implicitDefEqProofs +decide (maxSteps := 2000000) [-selQ_sel, hokQ_of, h_1, h_2, h_3]
    · replace H := HS.cnd_f h_3 H
      try simp -implicitDefEqProofs +decide (maxSteps := 2000000) [-selQ_sel, hokQ_of, h_1, h_2, h_3]
      have hr := (HS.some H).symm; subst hr
      refine Hid.mk ⟨_, Wk.refl _, ?_⟩
      try simp -implicitDefEqProofs +decide (maxSteps := 2000000) [-selQ_sel, hokQ_of, h_1, h_2, h_3]
  · replace H := HS.cnd_f h_2 H
    try simp -implicitDefEqProofs +decide (maxSteps := 2000000) [-selQ_sel, hokQ_of, h_1, h_2]
    have hr := (HS.some H).symm; subst hr
    refine Hid.mk ⟨_, Wk.refl _, ?_⟩
    try simp -implicitDefEqProofs +decide (maxSteps := 2000000) [-selQ_sel, hokQ_of, h_1, h_2]
theorem spec_MaskOk_ok0 (hm : Try.prog.follows .mixedOrders = true) (k_spec_l11Box : Sound Try.prog 148 spec_l11Box_x) (k_spec_l01In : Sound Try.prog 73 spec_l01In_x) : Sound Try.prog 74 spec_MaskOk_x := by
  refine xOf_sound fun q r h => ?_
  revert h; revert r; revert q; intro a0 r h
  refine fn_ok E0 hm Try.func74 rfl (by decide +kernel) (by rfl) fun Γ hn hk => ?_
  dsimp only [spec_MaskOk_e, spec_MaskOk_v]
  replace hn : Γ.n = 51 := hn
  replace hk : Γ.k = 0 := hk
  have H : HS (spec_MaskOk a0) r := h
  clear h; unfold spec_MaskOk at H
  try simp -implicitDefEqProofs at H
  refine Tr.of_vc (cl := tabC [(148, spec_l11Box_x), (73, spec_l01In_x)]) (E := E0) [] (tab_cons k_spec_l11Box (tab_cons k_spec_l01In tab_nil)) hm (by rw [hn]; decide +kernel) ?_
  try simp -implicitDefEqProofs (maxSteps := 2000000) [-selQ_sel]
  refine Hid.brV (fun h_1 => ?_) (fun h_1 => ?_)
  · replace H := HS.cnd_t h_1 H
    try simp -implicitDefEqProofs (maxSteps := 2000000) [-selQ_sel, h_1]
    have hr := (HS.some H).symm; subst hr
    refine Hid.mk ⟨_, Wk.refl _, ?_⟩
    try simp -implicitDefEqProofs (maxSteps := 2000000) [-selQ_sel, h_1]
  · replace H := HS.cnd_f h_1 H
    try simp -implicitDefEqProofs (maxSteps := 2000000) [-selQ_sel, h_1]
    obtain ⟨v1, h_2, H⟩ := HS.bnd H
    try simp -implicitDefEqProofs (maxSteps := 2000000) [-selQ_sel, h_1, h_2]
    refine Hid.selQ (fun h_3 => ?_) (fun h_3 => ?_)
    · replace H := HS.cnd_t h_3 H
      try simp -implicitDefEqProofs (maxSteps := 2000000) [-selQ_sel, h_1, h_2, h_3]
      refine Hid.brV (fun h_4 => ?_) (fun h_4 => ?_)
      · replace H := HS.cnd_t h_4 H
        try simp -implicitDefEqProofs (maxSteps := 2000000) [-selQ_sel, h_1, h_2, h_3, h_4]
        obtain ⟨q, h_5, H⟩ := HS.bnd H
        refine Hid.mk (Tr.weak (s' := (spec_MaskOk_l0_S a0) 0) (Wk.ofk [0] hk (by rfl) (by simp -implicitDefEqProofs [spec_MaskOk_l0_S, h_1, h_2, h_3, h_4]) (by simp -implicitDefEqProofs [spec_MaskOk_l0_S, h_1, h_2, h_3, h_4])) ?_)
        refine wp_loop_of (S := (spec_MaskOk_l0_S a0)) (f := (spec_MaskOk_l0 a0)) (xt := (spec_MaskOk_l0_X a0)) ?_ ?_ h_5 ?_
        · intro q; rcases q with ⟨⟩ | ⟨⟩ <;> simp [spec_MaskOk_l0_X]
        · clear H h_5 q
          rintro x4 o R hf hR
          have H : HS (spec_MaskOk_l0 a0 x4) o := hf
          clear hf; unfold spec_MaskOk_l0 at H
          try simp -implicitDefEqProofs at H
          refine Tr.of_vc (cl := tabC [(148, spec_l11Box_x), (73, spec_l01In_x)]) (E := E0) [] (tab_cons k_spec_l11Box (tab_cons k_spec_l01In tab_nil)) hm (by rw [hn]; decide +kernel) ?_
          try simp -implicitDefEqProofs (maxSteps := 2000000) [-selQ_sel, spec_MaskOk_l0_S]
          refine Hid.brV (fun h_6 => ?_) (fun h_6 => ?_)
          · replace H := HS.cnd_t h_6 H
            try simp -implicitDefEqProofs (maxSteps := 2000000) [-selQ_sel, h_6]
            have hr := (HS.some H).symm; subst hr
            exact Hid.mk ⟨(spec_MaskOk_l0_X a0 (.inl ())).2, Wk.ofk [] hk (by rfl) (by simp -implicitDefEqProofs [spec_MaskOk_l0_X, h_6]) (by simp -implicitDefEqProofs [spec_MaskOk_l0_X, h_6]), hR⟩
          · replace H := HS.cnd_f h_6 H
            try simp -implicitDefEqProofs (maxSteps := 2000000) [-selQ_sel, h_6]
            obtain ⟨v5, h_7, H⟩ := HS.bnd H
            try simp -implicitDefEqProofs (maxSteps := 2000000) [-selQ_sel, h_6, h_7]
            obtain ⟨v6, h_8, H⟩ := HS.bnd H
            try simp -implicitDefEqProofs (maxSteps := 2000000) [-selQ_sel, h_6, h_7, h_8]
            refine Hid.brV (fun h_9 => ?_) (fun h_9 => ?_)
            · replace H := HS.cnd_t h_9 H
              try simp -implicitDefEqProofs (maxSteps := 2000000) [-selQ_sel, h_6, h_7, h_8, h_9]
              have hr := (HS.some H).symm; subst hr
              exact Hid.mk ⟨spec_MaskOk_l0_S a0 (IntKind.i64.wrap (x4 + 1)), Wk.ofk [0] hk (by rfl) (by simp -implicitDefEqProofs [spec_MaskOk_l0_S, h_6, h_7, h_8, h_9]) (by simp -implicitDefEqProofs [spec_MaskOk_l0_S, h_6, h_7, h_8, h_9]), hR⟩
            · replace H := HS.cnd_f h_9 H
              try simp -implicitDefEqProofs (maxSteps := 2000000) [-selQ_sel, h_6, h_7, h_8, h_9]
              have hr := (HS.some H).symm; subst hr
              exact Hid.mk ⟨(spec_MaskOk_l0_X a0 (.inr ())).2, Wk.ofk [] hk (by rfl) (by simp -implicitDefEqProofs [spec_MaskOk_l0_X, h_6, h_7, h_8, h_9]) (by simp -implicitDefEqProofs [spec_MaskOk_l0_X, h_6, h_7, h_8, h_9]), hR⟩
        · rcases q with ⟨⟩ | ⟨⟩
          · dsimp only at H
            try simp -implicitDefEqProofs (maxSteps := 2000000) [-selQ_sel, h_1, h_2, h_3, h_4, spec_MaskOk_l0_X]
            have hr := (HS.some H).symm; subst hr
            refine Hid.mk ⟨_, Wk.refl _, ?_⟩
            try simp -implicitDefEqProofs (maxSteps := 2000000) [-selQ_sel, h_1, h_2, h_3, h_4]
          · dsimp only at H
            try simp -implicitDefEqProofs (maxSteps := 2000000) [-selQ_sel, h_1, h_2, h_3, h_4, spec_MaskOk_l0_X]
            have hr := (HS.some H).symm; subst hr
            refine Hid.mk ⟨_, Wk.refl _, ?_⟩
            try simp -implicitDefEqProofs (maxSteps := 2000000) [-selQ_sel, h_1, h_2, h_3, h_4]
      · replace H := HS.cnd_f h_4 H
        try simp -implicitDefEqProofs (maxSteps := 2000000) [-selQ_sel, h_1, h_2, h_3, h_4]
        have hr := (HS.some H).symm; subst hr
        refine Hid.mk ⟨_, Wk.refl _, ?_⟩
        try simp -implicitDefEqProofs (maxSteps := 2000000) [-selQ_sel, h_1, h_2, h_3, h_4]
    · replace H := HS.cnd_f h_3 H
      try simp -implicitDefEqProofs (maxSteps := 2000000) [-selQ_sel, h_1, h_2, h_3]
      have hr := (HS.some H).symm; subst hr
      refine Hid.mk ⟨_, Wk.refl _, ?_⟩
      try simp -implicitDefEqProofs (maxSteps := 2000000) [-selQ_sel, h_1, h_2, h_3]
theorem laws_eqKeptS_ok0 (hm : Try.prog.follows .mixedOrders = true) (k_laws_eqKept : Sound Try.prog 153 laws_eqKept_x) : Sound Try.prog 79 laws_eqKeptS_x := by
  refine xOf_sound fun q r h => ?_
  obtain ⟨a0, a1⟩ := q
  refine fn_ok E0 hm Try.func79 rfl (by decide +kernel) (by rfl) fun Γ hn hk => ?_
  dsimp only [laws_eqKeptS_e, laws_eqKeptS_v]
  replace hn : Γ.n = 27 := hn
  replace hk : Γ.k = 0 := hk
  have H : HS (laws_eqKeptS a0 a1) r := h
  clear h; unfold laws_eqKeptS at H
  try simp -implicitDefEqProofs at H
  refine Tr.of_vc (cl := tabC [(153, laws_eqKept_x)]) (E := E0) [] (tab_cons k_laws_eqKept tab_nil) hm (by rw [hn]; decide +kernel) ?_
  try simp -implicitDefEqProofs +decide (maxSteps := 2000000) [-selQ_sel, hokQ_of]
  refine Hid.brV (fun h_1 => ?_) (fun h_1 => ?_)
  · replace H := HS.cnd_t h_1 H
    try simp -implicitDefEqProofs +decide (maxSteps := 2000000) [-selQ_sel, hokQ_of, h_1]
    obtain ⟨q, h_2, H⟩ := HS.bnd H
    refine Hid.mk (Tr.weak (s' := (laws_eqKeptS_l0_S a0 a1) 0) (Wk.ofk [] hk (by rfl) (by simp -implicitDefEqProofs [laws_eqKeptS_l0_S, h_1]) (by simp -implicitDefEqProofs [laws_eqKeptS_l0_S, h_1])) ?_)
    refine wp_loop_of (S := (laws_eqKeptS_l0_S a0 a1)) (f := (laws_eqKeptS_l0 a0 a1)) (xt := (laws_eqKeptS_l0_X a0 a1)) ?_ ?_ h_2 ?_
    · intro q; rcases q with ⟨⟩ | ⟨⟩ <;> simp [laws_eqKeptS_l0_X]
    · clear H h_2 q
      rintro x4 o R hf hR
      have H : HS (laws_eqKeptS_l0 a0 a1 x4) o := hf
      clear hf; unfold laws_eqKeptS_l0 at H
      try simp -implicitDefEqProofs at H
      refine Tr.of_vc (cl := tabC [(153, laws_eqKept_x)]) (E := E0) [] (tab_cons k_laws_eqKept tab_nil) hm (by rw [hn]; decide +kernel) ?_
      try simp -implicitDefEqProofs +decide (maxSteps := 2000000) [-selQ_sel, hokQ_of, laws_eqKeptS_l0_S]
      refine Hid.brV (fun h_3 => ?_) (fun h_3 => ?_)
      · replace H := HS.cnd_t h_3 H
        try simp -implicitDefEqProofs +decide (maxSteps := 2000000) [-selQ_sel, hokQ_of, h_3]
        have hr := (HS.some H).symm; subst hr
        exact Hid.mk ⟨(laws_eqKeptS_l0_X a0 a1 (.inl ())).2, Wk.ofk [] hk (by rfl) (by simp -implicitDefEqProofs [laws_eqKeptS_l0_X, h_3]) (by simp -implicitDefEqProofs [laws_eqKeptS_l0_X, h_3]), hR⟩
      · replace H := HS.cnd_f h_3 H
        try simp -implicitDefEqProofs +decide (maxSteps := 2000000) [-selQ_sel, hokQ_of, h_3]
        obtain ⟨v5, h_4, H⟩ := HS.bnd H
        try simp -implicitDefEqProofs +decide (maxSteps := 2000000) [-selQ_sel, hokQ_of, h_3, h_4]
        obtain ⟨v6, h_5, H⟩ := HS.bnd H
        try simp -implicitDefEqProofs +decide (maxSteps := 2000000) [-selQ_sel, hokQ_of, h_3, h_4, h_5]
        obtain ⟨v7, h_6, H⟩ := HS.bnd H
        try simp -implicitDefEqProofs +decide (maxSteps := 2000000) [-selQ_sel, hokQ_of, h_3, h_4, h_5, h_6]
        refine Hid.brV (fun h_7 => ?_) (fun h_7 => ?_)
        · replace H := HS.cnd_t h_7 H
          try simp -implicitDefEqProofs +decide (maxSteps := 2000000) [-selQ_sel, hokQ_of, h_3, h_4, h_5, h_6, h_7]
          have hr := (HS.some H).symm; subst hr
          exact Hid.mk ⟨laws_eqKeptS_l0_S a0 a1 (IntKind.i64.wrap (x4 + 1)), Wk.ofk [] hk (by rfl) (by simp -implicitDefEqProofs [laws_eqKeptS_l0_S, h_3, h_4, h_5, h_6, h_7]) (by simp -implicitDefEqProofs [laws_eqKeptS_l0_S, h_3, h_4, h_5, h_6, h_7]), hR⟩
        · replace H := HS.cnd_f h_7 H
          try simp -implicitDefEqProofs +decide (maxSteps := 2000000) [-selQ_sel, hokQ_of, h_3, h_4, h_5, h_6, h_7]
          have hr := (HS.some H).symm; subst hr
          exact Hid.mk ⟨(laws_eqKeptS_l0_X a0 a1 (.inr ())).2, Wk.ofk [] hk (by rfl) (by simp -implicitDefEqProofs [laws_eqKeptS_l0_X, h_3, h_4, h_5, h_6, h_7]) (by simp -implicitDefEqProofs [laws_eqKeptS_l0_X, h_3, h_4, h_5, h_6, h_7]), hR⟩
    · rcases q with ⟨⟩ | ⟨⟩
      · dsimp only at H
        try simp -implicitDefEqProofs +decide (maxSteps := 2000000) [-selQ_sel, hokQ_of, h_1, laws_eqKeptS_l0_X]
        have hr := (HS.some H).symm; subst hr
        refine Hid.mk ⟨_, Wk.refl _, ?_⟩
        try simp -implicitDefEqProofs +decide (maxSteps := 2000000) [-selQ_sel, hokQ_of, h_1]
      · dsimp only at H
        try simp -implicitDefEqProofs +decide (maxSteps := 2000000) [-selQ_sel, hokQ_of, h_1, laws_eqKeptS_l0_X]
        have hr := (HS.some H).symm; subst hr
        refine Hid.mk ⟨_, Wk.refl _, ?_⟩
        try simp -implicitDefEqProofs +decide (maxSteps := 2000000) [-selQ_sel, hokQ_of, h_1]
  · replace H := HS.cnd_f h_1 H
    try simp -implicitDefEqProofs +decide (maxSteps := 2000000) [-selQ_sel, hokQ_of, h_1]
    have hr := (HS.some H).symm; subst hr
    refine Hid.mk ⟨_, Wk.refl _, ?_⟩
    try simp -implicitDefEqProofs +decide (maxSteps := 2000000) [-selQ_sel, hokQ_of, h_1]
theorem laws_szKeptS_ok0 (hm : Try.prog.follows .mixedOrders = true) (k_laws_szKept : Sound Try.prog 147 laws_szKept_x) : Sound Try.prog 72 laws_szKeptS_x := by
  refine xOf_sound fun q r h => ?_
  obtain ⟨a0, a1⟩ := q
  refine fn_ok E0 hm Try.func72 rfl (by decide +kernel) (by rfl) fun Γ hn hk => ?_
  dsimp only [laws_szKeptS_e, laws_szKeptS_v]
  replace hn : Γ.n = 27 := hn
  replace hk : Γ.k = 0 := hk
  have H : HS (laws_szKeptS a0 a1) r := h
  clear h; unfold laws_szKeptS at H
  try simp -implicitDefEqProofs at H
  refine Tr.of_vc (cl := tabC [(147, laws_szKept_x)]) (E := E0) [] (tab_cons k_laws_szKept tab_nil) hm (by rw [hn]; decide +kernel) ?_
  try simp -implicitDefEqProofs (maxSteps := 2000000) [-selQ_sel]
  refine Hid.brV (fun h_1 => ?_) (fun h_1 => ?_)
  · replace H := HS.cnd_t h_1 H
    try simp -implicitDefEqProofs (maxSteps := 2000000) [-selQ_sel, h_1]
    obtain ⟨q, h_2, H⟩ := HS.bnd H
    refine Hid.mk (Tr.weak (s' := (laws_szKeptS_l0_S a0) ((IntKind.i64.wrap (a1 - (List.length a0 : Int))), 0)) (Wk.ofk [] hk (by rfl) (by simp -implicitDefEqProofs [laws_szKeptS_l0_S, h_1]) (by simp -implicitDefEqProofs [laws_szKeptS_l0_S, h_1])) ?_)
    refine wp_loop_of (S := (laws_szKeptS_l0_S a0)) (f := (laws_szKeptS_l0 a0)) (xt := (laws_szKeptS_l0_X a0)) ?_ ?_ h_2 ?_
    · intro q; rcases q with y7 | ⟨⟩ <;> simp [laws_szKeptS_l0_X]
    · clear H h_2 q
      rintro ⟨x3, x4⟩ o R hf hR
      have H : HS (laws_szKeptS_l0 a0 (x3, x4)) o := hf
      clear hf; unfold laws_szKeptS_l0 at H
      try simp -implicitDefEqProofs at H
      refine Tr.of_vc (cl := tabC [(147, laws_szKept_x)]) (E := E0) [] (tab_cons k_laws_szKept tab_nil) hm (by rw [hn]; decide +kernel) ?_
      try simp -implicitDefEqProofs (maxSteps := 2000000) [-selQ_sel, laws_szKeptS_l0_S]
      refine Hid.brV (fun h_3 => ?_) (fun h_3 => ?_)
      · replace H := HS.cnd_t h_3 H
        try simp -implicitDefEqProofs (maxSteps := 2000000) [-selQ_sel, h_3]
        have hr := (HS.some H).symm; subst hr
        exact Hid.mk ⟨(laws_szKeptS_l0_X a0 (.inl x3)).2, Wk.ofk [] hk (by rfl) (by simp -implicitDefEqProofs [laws_szKeptS_l0_X, h_3]) (by simp -implicitDefEqProofs [laws_szKeptS_l0_X, h_3]), hR⟩
      · replace H := HS.cnd_f h_3 H
        try simp -implicitDefEqProofs (maxSteps := 2000000) [-selQ_sel, h_3]
        obtain ⟨v5, h_4, H⟩ := HS.bnd H
        try simp -implicitDefEqProofs (maxSteps := 2000000) [-selQ_sel, h_3, h_4]
        obtain ⟨v6, h_5, H⟩ := HS.bnd H
        try simp -implicitDefEqProofs (maxSteps := 2000000) [-selQ_sel, h_3, h_4, h_5]
        refine Hid.brV (fun h_6 => ?_) (fun h_6 => ?_)
        · replace H := HS.cnd_t h_6 H
          try simp -implicitDefEqProofs (maxSteps := 2000000) [-selQ_sel, h_3, h_4, h_5, h_6]
          have hr := (HS.some H).symm; subst hr
          exact Hid.mk ⟨laws_szKeptS_l0_S a0 (v6, (IntKind.i64.wrap (x4 + 1))), Wk.ofk [] hk (by rfl) (by simp -implicitDefEqProofs [laws_szKeptS_l0_S, h_3, h_4, h_5, h_6]) (by simp -implicitDefEqProofs [laws_szKeptS_l0_S, h_3, h_4, h_5, h_6]), hR⟩
        · replace H := HS.cnd_f h_6 H
          try simp -implicitDefEqProofs (maxSteps := 2000000) [-selQ_sel, h_3, h_4, h_5, h_6]
          have hr := (HS.some H).symm; subst hr
          exact Hid.mk ⟨(laws_szKeptS_l0_X a0 (.inr ())).2, Wk.ofk [] hk (by rfl) (by simp -implicitDefEqProofs [laws_szKeptS_l0_X, h_3, h_4, h_5, h_6]) (by simp -implicitDefEqProofs [laws_szKeptS_l0_X, h_3, h_4, h_5, h_6]), hR⟩
    · rcases q with y7 | ⟨⟩
      · dsimp only at H
        try simp -implicitDefEqProofs (maxSteps := 2000000) [-selQ_sel, h_1, laws_szKeptS_l0_X]
        have hr := (HS.some H).symm; subst hr
        refine Hid.mk ⟨_, Wk.refl _, ?_⟩
        try simp -implicitDefEqProofs (maxSteps := 2000000) [-selQ_sel, h_1]
      · dsimp only at H
        try simp -implicitDefEqProofs (maxSteps := 2000000) [-selQ_sel, h_1, laws_szKeptS_l0_X]
        have hr := (HS.some H).symm; subst hr
        refine Hid.mk ⟨_, Wk.refl _, ?_⟩
        try simp -implicitDefEqProofs (maxSteps := 2000000) [-selQ_sel, h_1]
  · replace H := HS.cnd_f h_1 H
    try simp -implicitDefEqProofs (maxSteps := 2000000) [-selQ_sel, h_1]
    have hr := (HS.some H).symm; subst hr
    refine Hid.mk ⟨_, Wk.refl _, ?_⟩
    try simp -implicitDefEqProofs (maxSteps := 2000000) [-selQ_sel, h_1]
theorem slices_IndexFunc_Kept_ok0 (hm : Try.prog.follows .mixedOrders = true) (k_impl_Cache_keptAt_1 : Sound Try.prog 151 impl_Cache_keptAt_1_x) : Sound Try.prog 150 slices_IndexFunc_Kept_x := by
  refine xOf_sound fun q r h => ?_
  obtain ⟨a0, a1⟩ := q
  refine fn_ok E0 hm Try.func150 rfl (by decide +kernel) (by rfl) fun Γ hn hk => ?_
  dsimp only [slices_IndexFunc_Kept_e, slices_IndexFunc_Kept_v]
  replace hn : Γ.n = 19 := hn
  replace hk : Γ.k = 0 := hk
  have H : HS (slices_IndexFunc_Kept a0 a1) r := h
  clear h; unfold slices_IndexFunc_Kept at H
  try simp -implicitDefEqProofs at H
  refine Tr.of_vc (cl := tabC [(151, impl_Cache_keptAt_1_x)]) (E := E0) [] (tab_cons k_impl_Cache_keptAt_1 tab_nil) hm (by rw [hn]; decide +kernel) ?_
  try simp -implicitDefEqProofs (maxSteps := 2000000) [-selQ_sel]
  obtain ⟨q, h_1, H⟩ := HS.bnd H
  refine Hid.mk (Tr.weak (s' := (slices_IndexFunc_Kept_l0_S a0 a1) 0) (Wk.ofk [] hk (by rfl) (by simp -implicitDefEqProofs [slices_IndexFunc_Kept_l0_S]) (by simp -implicitDefEqProofs [slices_IndexFunc_Kept_l0_S])) ?_)
  refine wp_loop_of (S := (slices_IndexFunc_Kept_l0_S a0 a1)) (f := (slices_IndexFunc_Kept_l0 a0 a1)) (xt := (slices_IndexFunc_Kept_l0_X a0 a1)) ?_ ?_ h_1 ?_
  · intro q; rcases q with ⟨⟩ | y6 <;> simp [slices_IndexFunc_Kept_l0_X]
  · clear H h_1 q
    rintro x3 o R hf hR
    have H : HS (slices_IndexFunc_Kept_l0 a0 a1 x3) o := hf
    clear hf; unfold slices_IndexFunc_Kept_l0 at H
    try simp -implicitDefEqProofs at H
    refine Tr.of_vc (cl := tabC [(151, impl_Cache_keptAt_1_x)]) (E := E0) [] (tab_cons k_impl_Cache_keptAt_1 tab_nil) hm (by rw [hn]; decide +kernel) ?_
    try simp -implicitDefEqProofs (maxSteps := 2000000) [-selQ_sel, slices_IndexFunc_Kept_l0_S]
    refine Hid.brV (fun h_2 => ?_) (fun h_2 => ?_)
    · replace H := HS.cnd_t h_2 H
      try simp -implicitDefEqProofs (maxSteps := 2000000) [-selQ_sel, h_2]
      have hr := (HS.some H).symm; subst hr
      exact Hid.mk ⟨(slices_IndexFunc_Kept_l0_X a0 a1 (.inl ())).2, Wk.ofk [] hk (by rfl) (by simp -implicitDefEqProofs [slices_IndexFunc_Kept_l0_X, h_2]) (by simp -implicitDefEqProofs [slices_IndexFunc_Kept_l0_X, h_2]), hR⟩
    · replace H := HS.cnd_f h_2 H
      try simp -implicitDefEqProofs (maxSteps := 2000000) [-selQ_sel, h_2]
      obtain ⟨v4, h_3, H⟩ := HS.bnd H
      try simp -implicitDefEqProofs (maxSteps := 2000000) [-selQ_sel, h_2, h_3]
      obtain ⟨v5, h_4, H⟩ := HS.bnd H
      try simp -implicitDefEqProofs (maxSteps := 2000000) [-selQ_sel, h_2, h_3, h_4]
      refine Hid.brV (fun h_5 => ?_) (fun h_5 => ?_)
      · replace H := HS.cnd_t h_5 H
        try simp -implicitDefEqProofs (maxSteps := 2000000) [-selQ_sel, h_2, h_3, h_4, h_5]
        have hr := (HS.some H).symm; subst hr
        exact Hid.mk ⟨(slices_IndexFunc_Kept_l0_X a0 a1 (.inr x3)).2, Wk.ofk [] hk (by rfl) (by simp -implicitDefEqProofs [slices_IndexFunc_Kept_l0_X, h_2, h_3, h_4, h_5]) (by simp -implicitDefEqProofs [slices_IndexFunc_Kept_l0_X, h_2, h_3, h_4, h_5]), hR⟩
      · replace H := HS.cnd_f h_5 H
        try simp -implicitDefEqProofs (maxSteps := 2000000) [-selQ_sel, h_2, h_3, h_4, h_5]
        have hr := (HS.some H).symm; subst hr
        exact Hid.mk ⟨slices_IndexFunc_Kept_l0_S a0 a1 (IntKind.i64.wrap (x3 + 1)), Wk.ofk [] hk (by rfl) (by simp -implicitDefEqProofs [slices_IndexFunc_Kept_l0_S, h_2, h_3, h_4, h_5]) (by simp -implicitDefEqProofs [slices_IndexFunc_Kept_l0_S, h_2, h_3, h_4, h_5]), hR⟩
  · rcases q with ⟨⟩ | y6
    · dsimp only at H
      try simp -implicitDefEqProofs (maxSteps := 2000000) [-selQ_sel, slices_IndexFunc_Kept_l0_X]
      have hr := (HS.some H).symm; subst hr
      refine Hid.mk ⟨_, Wk.refl _, ?_⟩
      try simp -implicitDefEqProofs (maxSteps := 2000000) [-selQ_sel]
    · dsimp only at H
      try simp -implicitDefEqProofs (maxSteps := 2000000) [-selQ_sel, slices_IndexFunc_Kept_l0_X]
      have hr := (HS.some H).symm; subst hr
      refine Hid.mk ⟨_, Wk.refl _, ?_⟩
      try simp -implicitDefEqProofs (maxSteps := 2000000) [-selQ_sel]
theorem laws_toIntS_ok0 (hm : Try.prog.follows .mixedOrders = true) : Sound Try.prog 86 laws_toIntS_x := by
  refine xOf_sound fun q r h => ?_
  revert h; revert r; revert q; intro a0 r h
  refine fn_ok E0 hm Try.func86 rfl (by decide +kernel) (by rfl) fun Γ hn hk => ?_
  dsimp only [laws_toIntS_e, laws_toIntS_v]
  replace hn : Γ.n = 22 := hn
  replace hk : Γ.k = 0 := hk
  have H : HS (laws_toIntS a0) r := h
  clear h; unfold laws_toIntS at H
  try simp -implicitDefEqProofs at H
  refine Tr.of_vc (cl := tabC []) (E := E0) [] tab_nil hm (by rw [hn]; decide +kernel) ?_
  try simp -implicitDefEqProofs (maxSteps := 2000000) [-selQ_sel]
  obtain ⟨h_1, H⟩ := HS.chkP H
  try simp -implicitDefEqProofs (maxSteps := 2000000) [-selQ_sel, h_1]
  obtain ⟨l1, h_2, H⟩ := HS.nam H
  have m_3 := congrArg (List.map (AV.int .i64)) h_2
  have q_4 := congrArg List.length h_2
  simp -implicitDefEqProofs at m_3 q_4
  try simp only [q_4] at m_3
  try simp only [q_4] at h_1
  try simp -implicitDefEqProofs (maxSteps := 2000000) [-selQ_sel, h_1, m_3, q_4]
  obtain ⟨q, h_5, H⟩ := HS.bnd H
  refine Hid.mk (Tr.weak (s' := (laws_toIntS_l0_S a0) (0, l1)) (Wk.ofk [0] hk (by rfl) (by simp -implicitDefEqProofs [laws_toIntS_l0_S, h_1, m_3, q_4]) (by simp -implicitDefEqProofs [laws_toIntS_l0_S, h_1, m_3, q_4])) ?_)
  refine wp_loop_of (S := (laws_toIntS_l0_S a0)) (f := (laws_toIntS_l0 a0)) (xt := (laws_toIntS_l0_X a0)) ?_ ?_ h_5 ?_
  · intro q; simp [laws_toIntS_l0_X]
  · clear H h_5 q
    rintro ⟨x5, x6⟩ o R hf hR
    have H : HS (laws_toIntS_l0 a0 (x5, x6)) o := hf
    clear hf; unfold laws_toIntS_l0 at H
    try simp -implicitDefEqProofs at H
    refine Tr.of_vc (cl := tabC []) (E := E0) [] tab_nil hm (by rw [hn]; decide +kernel) ?_
    try simp -implicitDefEqProofs (maxSteps := 2000000) [-selQ_sel, laws_toIntS_l0_S]
    refine Hid.brV (fun h_6 => ?_) (fun h_6 => ?_)
    · replace H := HS.cnd_t h_6 H
      try simp -implicitDefEqProofs (maxSteps := 2000000) [-selQ_sel, h_6]
      have hr := (HS.some H).symm; subst hr
      exact Hid.mk ⟨(laws_toIntS_l0_X a0 x6).2, Wk.ofk [0] hk (by rfl) (by simp -implicitDefEqProofs [laws_toIntS_l0_X, h_6]) (by simp -implicitDefEqProofs [laws_toIntS_l0_X, h_6]), hR⟩
    · replace H := HS.cnd_f h_6 H
      try simp -implicitDefEqProofs (maxSteps := 2000000) [-selQ_sel, h_6]
      obtain ⟨v7, h_7, H⟩ := HS.bnd H
      try simp -implicitDefEqProofs (maxSteps := 2000000) [-selQ_sel, h_6, h_7]
      obtain ⟨v8, h_8, H⟩ := HS.bnd H
      have g_9 := idx_get h_8
      try simp -implicitDefEqProofs (maxSteps := 2000000) [-selQ_sel, h_6, h_7, h_8, g_9]
      obtain ⟨l9, h_10, H⟩ := HS.nam H
      have m_11 := congrArg (List.map (AV.int .i64)) h_10
      have q_12 := congrArg List.length h_10
      simp -implicitDefEqProofs at m_11 q_12
      try simp only [q_12] at m_11
      try simp only [q_12] at g_9
      try simp -implicitDefEqProofs (maxSteps := 2000000) [-selQ_sel, h_6, h_7, h_8, g_9, m_11, q_12]
      have hr := (HS.some H).symm; subst hr
      exact Hid.mk ⟨laws_toIntS_l0_S a0 ((IntKind.i64.wrap (x5 + 1)), l9), Wk.ofk [0] hk (by rfl) (by simp -implicitDefEqProofs [laws_toIntS_l0_S, h_6, h_7, h_8, g_9, m_11, q_12]) (by simp -implicitDefEqProofs [laws_toIntS_l0_S, h_6, h_7, h_8, g_9, m_11, q_12]), hR⟩
  · revert H h_5; revert q; intro y10 h_5 H
    try dsimp only at H
    try simp -implicitDefEqProofs (maxSteps := 2000000) [-selQ_sel, h_1, m_3, q_4, laws_toIntS_l0_X]
    have hr := (HS.some H).symm; subst hr
    refine Hid.mk ⟨⟨[(2, AV.osl 0 0 (List.length y10) (List.length y10))], [(0, Ob.arr 1 (List.map (AV.int .i64) y10) false)], 1⟩, Wk.ofk [0] hk (by rfl) (by simp -implicitDefEqProofs [h_1, m_3, q_4]) (by simp -implicitDefEqProofs [h_1, m_3, q_4]), ?_⟩
    try simp -implicitDefEqProofs (maxSteps := 2000000) [-selQ_sel, h_1, m_3, q_4]
theorem laws_eqBox_ok0 (hm : Try.prog.follows .mixedOrders = true) : Sound Try.prog 139 laws_eqBox_x := by
  refine xOf_sound fun q r h => ?_
  obtain ⟨a0, a1⟩ := q
  refine fn_ok E0 hm Try.func139 rfl (by decide +kernel) (by rfl) fun Γ hn hk => ?_
  dsimp only [laws_eqBox_e, laws_eqBox_v]
  replace hn : Γ.n = 25 := hn
  replace hk : Γ.k = 0 := hk
  have H : HS (laws_eqBox a0 a1) r := h
  clear h; unfold laws_eqBox at H
  try simp -implicitDefEqProofs at H
  refine Tr.of_vc (cl := tabC []) (E := E0) [] tab_nil hm (by rw [hn]; decide +kernel) ?_
  try simp -implicitDefEqProofs (maxSteps := 2000000) [-selQ_sel]
  refine Hid.brV (fun h_1 => ?_) (fun h_1 => ?_)
  · replace H := HS.cnd_t h_1 H
    try simp -implicitDefEqProofs (maxSteps := 2000000) [-selQ_sel, h_1]
    refine Hid.brV (fun h_2 => ?_) (fun h_2 => ?_)
    · replace H := HS.cnd_t h_2 H
      try simp -implicitDefEqProofs (maxSteps := 2000000) [-selQ_sel, h_1, h_2]
      refine Hid.brV (fun h_3 => ?_) (fun h_3 => ?_)
      · replace H := HS.cnd_t h_3 H
        try simp -implicitDefEqProofs (maxSteps := 2000000) [-selQ_sel, h_1, h_2, h_3]
        refine Hid.brV (fun h_4 => ?_) (fun h_4 => ?_)
        · replace H := HS.cnd_t h_4 H
          try simp -implicitDefEqProofs (maxSteps := 2000000) [-selQ_sel, h_1, h_2, h_3, h_4]
          have hr := (HS.some H).symm; subst hr
          refine Hid.mk ⟨_, Wk.refl _, ?_⟩
          try simp -implicitDefEqProofs (maxSteps := 2000000) [-selQ_sel, h_1, h_2, h_3, h_4]
        · replace H := HS.cnd_f h_4 H
          try simp -implicitDefEqProofs (maxSteps := 2000000) [-selQ_sel, h_1, h_2, h_3, h_4]
          have hr := (HS.some H).symm; subst hr
          refine Hid.mk ⟨_, Wk.refl _, ?_⟩
          try simp -implicitDefEqProofs (maxSteps := 2000000) [-selQ_sel, h_1, h_2, h_3, h_4]
      · replace H := HS.cnd_f h_3 H
        try simp -implicitDefEqProofs (maxSteps := 2000000) [-selQ_sel, h_1, h_2, h_3]
        have hr := (HS.some H).symm; subst hr
        refine Hid.mk ⟨_, Wk.refl _, ?_⟩
        try simp -implicitDefEqProofs (maxSteps := 2000000) [-selQ_sel, h_1, h_2, h_3]
    · replace H := HS.cnd_f h_2 H
      try simp -implicitDefEqProofs (maxSteps := 2000000) [-selQ_sel, h_1, h_2]
      have hr := (HS.some H).symm; subst hr
      refine Hid.mk ⟨_, Wk.refl _, ?_⟩
      try simp -implicitDefEqProofs (maxSteps := 2000000) [-selQ_sel, h_1, h_2]
  · replace H := HS.cnd_f h_1 H
    try simp -implicitDefEqProofs (maxSteps := 2000000) [-selQ_sel, h_1]
    have hr := (HS.some H).symm; subst hr
    refine Hid.mk ⟨_, Wk.refl _, ?_⟩
    try simp -implicitDefEqProofs (maxSteps := 2000000) [-selQ_sel, h_1]
theorem laws_eqKept_ok0 (hm : Try.prog.follows .mixedOrders = true) (k_laws_eqMask : Sound Try.prog 70 laws_eqMask_x) : Sound Try.prog 153 laws_eqKept_x := by
  refine xOf_sound fun q r h => ?_
  obtain ⟨a0, a1⟩ := q
  refine fn_ok E0 hm Try.func153 rfl (by decide +kernel) (by rfl) fun Γ hn hk => ?_
  dsimp only [laws_eqKept_e, laws_eqKept_v]
  replace hn : Γ.n = 16 := hn
  replace hk : Γ.k = 0 := hk
  have H : HS (laws_eqKept a0 a1) r := h
  clear h; unfold laws_eqKept at H
  try simp -implicitDefEqProofs at H
  refine Tr.of_vc (cl := tabC [(70, laws_eqMask_x)]) (E := E0) [] (tab_cons k_laws_eqMask tab_nil) hm (by rw [hn]; decide +kernel) ?_
  try simp -implicitDefEqProofs (maxSteps := 2000000) [-selQ_sel]
  refine Hid.brV (fun h_1 => ?_) (fun h_1 => ?_)
  · replace H := HS.cnd_t h_1 H
    try simp -implicitDefEqProofs (maxSteps := 2000000) [-selQ_sel, h_1]
    obtain ⟨v1, h_2, H⟩ := HS.bnd H
    try simp -implicitDefEqProofs (maxSteps := 2000000) [-selQ_sel, h_1, h_2]
    refine Hid.brV (fun h_3 => ?_) (fun h_3 => ?_)
    · replace H := HS.cnd_t h_3 H
      try simp -implicitDefEqProofs (maxSteps := 2000000) [-selQ_sel, h_1, h_2, h_3]
      have hr := (HS.some H).symm; subst hr
      refine Hid.mk ⟨_, Wk.refl _, ?_⟩
      try simp -implicitDefEqProofs (maxSteps := 2000000) [-selQ_sel, h_1, h_2, h_3]
    · replace H := HS.cnd_f h_3 H
      try simp -implicitDefEqProofs (maxSteps := 2000000) [-selQ_sel, h_1, h_2, h_3]
      have hr := (HS.some H).symm; subst hr
      refine Hid.mk ⟨_, Wk.refl _, ?_⟩
      try simp -implicitDefEqProofs (maxSteps := 2000000) [-selQ_sel, h_1, h_2, h_3]
  · replace H := HS.cnd_f h_1 H
    try simp -implicitDefEqProofs (maxSteps := 2000000) [-selQ_sel, h_1]
    have hr := (HS.some H).symm; subst hr
    refine Hid.mk ⟨_, Wk.refl _, ?_⟩
    try simp -implicitDefEqProofs (maxSteps := 2000000) [-selQ_sel, h_1]
theorem laws_szCache_ok0 (hm : Try.prog.follows .mixedOrders = true) (k_laws_szKeptS : Sound Try.prog 72 laws_szKeptS_x) : Sound Try.prog 12 laws_szCache_x := by
  refine xOf_sound fun q r h => ?_
  obtain ⟨a0, a1⟩ := q
  refine fn_ok E0 hm Try.func12 rfl (by decide +kernel) (by rfl) fun Γ hn hk => ?_
  dsimp only [laws_szCache_e, laws_szCache_v]
  replace hn : Γ.n = 12 := hn
  replace hk : Γ.k = 0 := hk
  have H : HS (laws_szCache a0 a1) r := h
  clear h; unfold laws_szCache at H
  try simp -implicitDefEqProofs at H
  refine Tr.of_vc (cl := tabC [(72, laws_szKeptS_x)]) (E := E0) [] (tab_cons k_laws_szKeptS tab_nil) hm (by rw [hn]; decide +kernel) ?_
  try simp -implicitDefEqProofs (maxSteps := 2000000) [-selQ_sel]
  obtain ⟨v1, h_1, H⟩ := HS.bnd H
  try simp -implicitDefEqProofs (maxSteps := 2000000) [-selQ_sel, h_1]
  refine Hid.brV (fun h_2 => ?_) (fun h_2 => ?_)
  · replace H := HS.cnd_t h_2 H
    try simp -implicitDefEqProofs (maxSteps := 2000000) [-selQ_sel, h_1, h_2]
    have hr := (HS.some H).symm; subst hr
    refine Hid.mk ⟨_, Wk.refl _, ?_⟩
    try simp -implicitDefEqProofs (maxSteps := 2000000) [-selQ_sel, h_1, h_2]
  · replace H := HS.cnd_f h_2 H
    try simp -implicitDefEqProofs (maxSteps := 2000000) [-selQ_sel, h_1, h_2]
    have hr := (HS.some H).symm; subst hr
    refine Hid.mk ⟨_, Wk.refl _, ?_⟩
    try simp -implicitDefEqProofs (maxSteps := 2000000) [-selQ_sel, h_1, h_2]
theorem laws_szKept_ok0 (hm : Try.prog.follows .mixedOrders = true) (k_laws_szMask : Sound Try.prog 66 laws_szMask_x) : Sound Try.prog 147 laws_szKept_x := by
  refine xOf_sound fun q r h => ?_
  obtain ⟨a0, a1⟩ := q
  refine fn_ok E0 hm Try.func147 rfl (by decide +kernel) (by rfl) fun Γ hn hk => ?_
  dsimp only [laws_szKept_e, laws_szKept_v]
  replace hn : Γ.n = 12 := hn
  replace hk : Γ.k = 0 := hk
  have H : HS (laws_szKept a0 a1) r := h
  clear h; unfold laws_szKept at H
  try simp -implicitDefEqProofs at H
  refine Tr.of_vc (cl := tabC [(66, laws_szMask_x)]) (E := E0) [] (tab_cons k_laws_szMask tab_nil) hm (by rw [hn]; decide +kernel) ?_
  try simp -implicitDefEqProofs (maxSteps := 2000000) [-selQ_sel]
  obtain ⟨v1, h_1, H⟩ := HS.bnd H
  try simp -implicitDefEqProofs (maxSteps := 2000000) [-selQ_sel, h_1]
  refine Hid.brV (fun h_2 => ?_) (fun h_2 => ?_)
  · replace H := HS.cnd_t h_2 H
    try simp -implicitDefEqProofs (maxSteps := 2000000) [-selQ_sel, h_1, h_2]
    have hr := (HS.some H).symm; subst hr
    refine Hid.mk ⟨_, Wk.refl _, ?_⟩
    try simp -implicitDefEqProofs (maxSteps := 2000000) [-selQ_sel, h_1, h_2]
  · replace H := HS.cnd_f h_2 H
    try simp -implicitDefEqProofs (maxSteps := 2000000) [-selQ_sel, h_1, h_2]
    have hr := (HS.some H).symm; subst hr
    refine Hid.mk ⟨_, Wk.refl _, ?_⟩
    try simp -implicitDefEqProofs (maxSteps := 2000000) [-selQ_sel, h_1, h_2]
theorem impl_Empty_ok0 (hm : Try.prog.follows .mixedOrders = true) : Sound Try.prog 158 impl_Empty_x := by
  refine xOf_sound fun q r h => ?_
  revert h; revert r; revert q; intro a0 r h
  refine fn_ok E0 hm Try.func158 rfl (by decide +kernel) (by rfl) fun Γ hn hk => ?_
  dsimp only [impl_Empty_e, impl_Empty_v]
  replace hn : Γ.n = 15 := hn
  replace hk : Γ.k = 0 := hk
  have H : HS (impl_Empty a0) r := h
  clear h; unfold impl_Empty at H
  try simp -implicitDefEqProofs at H
  refine Tr.of_vc (cl := tabC []) (E := E0) [] tab_nil hm (by rw [hn]; decide +kernel) ?_
  try simp -implicitDefEqProofs (maxSteps := 2000000) [-selQ_sel]
  refine Hid.selQ (fun h_1 => ?_) (fun h_1 => ?_)
  · replace H := HS.cnd_t h_1 H
    try simp -implicitDefEqProofs (maxSteps := 2000000) [-selQ_sel, h_1]
    have hr := (HS.some H).symm; subst hr
    refine Hid.mk ⟨_, Wk.refl _, ?_⟩
    try simp -implicitDefEqProofs (maxSteps := 2000000) [-selQ_sel, h_1]
  · replace H := HS.cnd_f h_1 H
    try simp -implicitDefEqProofs (maxSteps := 2000000) [-selQ_sel, h_1]
    have hr := (HS.some H).symm; subst hr
    refine Hid.mk ⟨_, Wk.refl _, ?_⟩
    try simp -implicitDefEqProofs (maxSteps := 2000000) [-selQ_sel, h_1]
theorem impl_inRange_ok0 (hm : Try.prog.follows .mixedOrders = true) : Sound Try.prog 76 impl_inRange_x := by
  refine xOf_sound fun q r h => ?_
  obtain ⟨a0, a1, a2⟩ := q
  refine fn_ok E0 hm Try.func76 rfl (by decide +kernel) (by rfl) fun Γ hn hk => ?_
  dsimp only [impl_inRange_e, impl_inRange_v]
  replace hn : Γ.n = 15 := hn
  replace hk : Γ.k = 0 := hk
  have H : HS (impl_inRange a0 a1 a2) r := h
  clear h; unfold impl_inRange at H
  try simp -implicitDefEqProofs at H
  refine Tr.of_vc (cl := tabC []) (E := E0) [] tab_nil hm (by rw [hn]; decide +kernel) ?_
  try simp -implicitDefEqProofs (maxSteps := 2000000) [-selQ_sel]
  refine Hid.selQ (fun h_1 => ?_) (fun h_1 => ?_)
  · replace H := HS.cnd_t h_1 H
    try simp -implicitDefEqProofs (maxSteps := 2000000) [-selQ_sel, h_1]
    have hr := (HS.some H).symm; subst hr
    refine Hid.mk ⟨_, Wk.refl _, ?_⟩
    try simp -implicitDefEqProofs (maxSteps := 2000000) [-selQ_sel, h_1]
  · replace H := HS.cnd_f h_1 H
    try simp -implicitDefEqProofs (maxSteps := 2000000) [-selQ_sel, h_1]
    have hr := (HS.some H).symm; subst hr
    refine Hid.mk ⟨_, Wk.refl _, ?_⟩
    try simp -implicitDefEqProofs (maxSteps := 2000000) [-selQ_sel, h_1]
theorem impl_Cache_keptAt_ok0 (hm : Try.prog.follows .mixedOrders = true) (k_slices_IndexFunc_Kept : Sound Try.prog 150 slices_IndexFunc_Kept_x) : Sound Try.prog 77 impl_Cache_keptAt_x := by
  refine xOf_sound fun q r h => ?_
  obtain ⟨a0, a1⟩ := q
  refine fn_ok E0 hm Try.func77 rfl (by decide +kernel) (by rfl) fun Γ hn hk => ?_
  dsimp only [impl_Cache_keptAt_e, impl_Cache_keptAt_v]
  replace hn : Γ.n = 11 := hn
  replace hk : Γ.k = 0 := hk
  have H : HS (impl_Cache_keptAt a0 a1) r := h
  clear h; unfold impl_Cache_keptAt at H
  try simp -implicitDefEqProofs at H
  refine Tr.of_vc (cl := tabC [(150, slices_IndexFunc_Kept_x)]) (E := E0) [] (tab_cons k_slices_IndexFunc_Kept tab_nil) hm (by rw [hn]; decide +kernel) ?_
  try simp -implicitDefEqProofs (maxSteps := 2000000) [-selQ_sel]
  obtain ⟨v1, h_1, H⟩ := HS.bnd H
  try simp -implicitDefEqProofs (maxSteps := 2000000) [-selQ_sel, h_1]
  have hr := (HS.some H).symm; subst hr
  refine Hid.mk ⟨_, Wk.refl _, ?_⟩
  try simp -implicitDefEqProofs (maxSteps := 2000000) [-selQ_sel, h_1]
theorem laws_toKept_ok0 (hm : Try.prog.follows .mixedOrders = true) (k_laws_toMask : Sound Try.prog 68 laws_toMask_x) : Sound Try.prog 149 laws_toKept_x := by
  refine xOf_sound fun q r h => ?_
  revert h; revert r; revert q; intro a0 r h
  refine fn_ok E0 hm Try.func149 rfl (by decide +kernel) (by rfl) fun Γ hn hk => ?_
  dsimp only [laws_toKept_e, laws_toKept_v]
  replace hn : Γ.n = 12 := hn
  replace hk : Γ.k = 0 := hk
  have H : HS (laws_toKept a0) r := h
  clear h; unfold laws_toKept at H
  try simp -implicitDefEqProofs at H
  refine Tr.of_vc (cl := tabC [(68, laws_toMask_x)]) (E := E0) [] (tab_cons k_laws_toMask tab_nil) hm (by rw [hn]; decide +kernel) ?_
  try simp -implicitDefEqProofs (maxSteps := 2000000) [-selQ_sel]
  obtain ⟨⟨w2, w3⟩, h_1, H⟩ := HS.bnd H
  dsimp only at H
  try simp -implicitDefEqProofs (maxSteps := 2000000) [-selQ_sel, h_1]
  have hr := (HS.some H).symm; subst hr
  refine Hid.mk ⟨_, Wk.refl _, ?_⟩
  try simp -implicitDefEqProofs (maxSteps := 2000000) [-selQ_sel, h_1]
theorem impl_Cache_keptAt_1_ok0 (hm : Try.prog.follows .mixedOrders = true) : Sound Try.prog 151 impl_Cache_keptAt_1_x := by
  refine xOf_sound fun q r h => ?_
  obtain ⟨a0, a1⟩ := q
  refine fn_ok E0 hm Try.func151 rfl (by decide +kernel) (by rfl) fun Γ hn hk => ?_
  dsimp only [impl_Cache_keptAt_1_e, impl_Cache_keptAt_1_v]
  replace hn : Γ.n = 8 := hn
  replace hk : Γ.k = 0 := hk
  have H : HS (impl_Cache_keptAt_1 a0 a1) r := h
  clear h; unfold impl_Cache_keptAt_1 at H
  try simp -implicitDefEqProofs at H
  refine Tr.of_vc (cl := tabC []) (E := E0) [] tab_nil hm (by rw [hn]; decide +kernel) ?_
  try simp -implicitDefEqProofs (maxSteps := 2000000) [-selQ_sel]
  have hr := (HS.some H).symm; subst hr
  refine Hid.mk ⟨_, Wk.refl _, ?_⟩
  try simp -implicitDefEqProofs (maxSteps := 2000000) [-selQ_sel]
end Go.Proofs.Ytoafihhhdnmliaa.Am
