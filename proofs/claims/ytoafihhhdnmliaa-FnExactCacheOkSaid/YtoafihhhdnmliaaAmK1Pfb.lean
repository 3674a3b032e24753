import Derived.Test.YtoafihhhdnmliaaAmK1Mo
set_option linter.unusedVariables false
set_option linter.unusedSimpArgs false
set_option linter.unusedSectionVars false
namespace Go.Proofs.Ytoafihhhdnmliaa.Am
open Go Go.Proofs
set_option maxRecDepth 100000
set_option linter.unusedSimpArgs false
set_option linter.unusedVariables false
set_option maxHeartbeats 4000000
theorem impl_CacheOk_ok0 (hm : Try.prog.follows .mixedOrders = true) (k_impl_inRange : Sound Try.prog 76 impl_inRange_x) (k_impl_Cache_keptAt : Sound Try.prog 77 impl_Cache_keptAt_x) (k_impl_MaskOk : Sound Try.prog 78 impl_MaskOk_x) : Sound Try.prog 15 impl_CacheOk_x := by
  refine xOf_sound fun q r h => ?_
  revert h; revert r; revert q; intro a0 r h
  refine fn_ok E0 hm Try.func15 rfl (by decide +kernel) (by rfl) fun Γ hn hk => ?_
  dsimp only [impl_CacheOk_e, impl_CacheOk_v]
  replace hn : Γ.n = 42 := hn
  replace hk : Γ.k = 0 := hk
  have H : HS (impl_CacheOk a0) r := h
  clear h; unfold impl_CacheOk at H
  try simp -implicitDefEqProofs at H
  refine Tr.of_vc (cl := tabC [(76, impl_inRange_x), (77, impl_Cache_keptAt_x), (78, impl_MaskOk_x)]) (E := E0) [] (tab_cons k_impl_inRange (tab_cons k_impl_Cache_keptAt (tab_cons k_impl_MaskOk tab_nil))) hm (by rw [hn]; decide +kernel) ?_
  try simp -implicitDefEqProofs (maxSteps := 2000000) [-selQ_sel]
  obtain ⟨q, h_1, H⟩ := HS.bnd H
  refine Hid.mk (Tr.weak (s' := (impl_CacheOk_l0_S a0) 0) (Wk.ofk [0] hk (by rfl) (by simp -implicitDefEqProofs [impl_CacheOk_l0_S]) (by simp -implicitDefEqProofs [impl_CacheOk_l0_S])) ?_)
  refine wp_loop_of (S := (impl_CacheOk_l0_S a0)) (f := (impl_CacheOk_l0 a0)) (xt := (impl_CacheOk_l0_X a0)) ?_ ?_ h_1 ?_
  · intro q; rcases q with ⟨⟩ | ⟨⟩ <;> simp [impl_CacheOk_l0_X]
  · clear H h_1 q
    rintro x5 o R hf hR
    have H : HS (impl_CacheOk_l0 a0 x5) o := hf
    clear hf; unfold impl_CacheOk_l0 at H
    try simp -implicitDefEqProofs at H
    refine Tr.of_vc (cl := tabC [(76, impl_inRange_x), (77, impl_Cache_keptAt_x), (78, impl_MaskOk_x)]) (E := E0) [] (tab_cons k_impl_inRange (tab_cons k_impl_Cache_keptAt (tab_cons k_impl_MaskOk tab_nil))) hm (by rw [hn]; decide +kernel) ?_
    try simp -implicitDefEqProofs (maxSteps := 2000000) [-selQ_sel, impl_CacheOk_l0_S]
    refine Hid.brV (fun h_2 => ?_) (fun h_2 => ?_)
    · replace H := HS.cnd_t h_2 H
      try simp -implicitDefEqProofs (maxSteps := 2000000) [-selQ_sel, h_2]
      have hr := (HS.some H).symm; subst hr
      exact Hid.mk ⟨(impl_CacheOk_l0_X a0 (.inl ())).2, Wk.ofk [0] hk (by rfl) (by simp -implicitDefEqProofs [impl_CacheOk_l0_X, h_2]) (by simp -implicitDefEqProofs [impl_CacheOk_l0_X, h_2]), hR⟩
    · replace H := HS.cnd_f h_2 H
      try simp -implicitDefEqProofs (maxSteps := 2000000) [-selQ_sel, h_2]
      obtain ⟨v6, h_3, H⟩ := HS.bnd H
      try simp -implicitDefEqProofs (maxSteps := 2000000) [-selQ_sel, h_2, h_3]
      obtain ⟨v7, h_4, H⟩ := HS.bnd H
      try simp -implicitDefEqProofs (maxSteps := 2000000) [-selQ_sel, h_2, h_3, h_4]
      refine Hid.selQ (fun h_5 => ?_) (fun h_5 => ?_)
      · replace H := HS.cnd_t h_5 H
        try simp -implicitDefEqProofs (maxSteps := 2000000) [-selQ_sel, h_2, h_3, h_4, h_5]
        obtain ⟨v8, h_6, H⟩ := HS.bnd H
        try simp -implicitDefEqProofs (maxSteps := 2000000) [-selQ_sel, h_2, h_3, h_4, h_5, h_6]
        refine Hid.selQ (fun h_7 => ?_) (fun h_7 => ?_)
        · replace H := HS.cnd_t h_7 H
          try simp -implicitDefEqProofs (maxSteps := 2000000) [-selQ_sel, h_2, h_3, h_4, h_5, h_6, h_7]
          obtain ⟨v9, h_8, H⟩ := HS.bnd H
          try simp -implicitDefEqProofs (maxSteps := 2000000) [-selQ_sel, h_2, h_3, h_4, h_5, h_6, h_7, h_8]
          refine Hid.brV (fun h_9 => ?_) (fun h_9 => ?_)
          · replace H := HS.cnd_t h_9 H
            try simp -implicitDefEqProofs (maxSteps := 2000000) [-selQ_sel, h_2, h_3, h_4, h_5, h_6, h_7, h_8, h_9]
            have hr := (HS.some H).symm; subst hr
            exact Hid.mk ⟨impl_CacheOk_l0_S a0 (IntKind.i64.wrap (x5 + 1)), Wk.ofk [0] hk (by rfl) (by simp -implicitDefEqProofs [impl_CacheOk_l0_S, h_2, h_3, h_4, h_5, h_6, h_7, h_8, h_9]) (by simp -implicitDefEqProofs [impl_CacheOk_l0_S, h_2, h_3, h_4, h_5, h_6, h_7, h_8, h_9]), hR⟩
          · replace H := HS.cnd_f h_9 H
            try simp -implicitDefEqProofs (maxSteps := 2000000) [-selQ_sel, h_2, h_3, h_4, h_5, h_6, h_7, h_8, h_9]
            have hr := (HS.some H).symm; subst hr
            exact Hid.mk ⟨(impl_CacheOk_l0_X a0 (.inr ())).2, Wk.ofk [] hk (by rfl) (by simp -implicitDefEqProofs [impl_CacheOk_l0_X, h_2, h_3, h_4, h_5, h_6, h_7, h_8, h_9]) (by simp -implicitDefEqProofs [impl_CacheOk_l0_X, h_2, h_3, h_4, h_5, h_6, h_7, h_8, h_9]), hR⟩
        · replace H := HS.cnd_f h_7 H
          try simp -implicitDefEqProofs (maxSteps := 2000000) [-selQ_sel, h_2, h_3, h_4, h_5, h_6, h_7]
          have hr := (HS.some H).symm; subst hr
          exact Hid.mk ⟨(impl_CacheOk_l0_X a0 (.inr ())).2, Wk.ofk [] hk (by rfl) (by simp -implicitDefEqProofs [impl_CacheOk_l0_X, h_2, h_3, h_4, h_5, h_6, h_7]) (by simp -implicitDefEqProofs [impl_CacheOk_l0_X, h_2, h_3, h_4, h_5, h_6, h_7]), hR⟩
      · replace H := HS.cnd_f h_5 H
        try simp -implicitDefEqProofs (maxSteps := 2000000) [-selQ_sel, h_2, h_3, h_4, h_5]
        have hr := (HS.some H).symm; subst hr
        exact Hid.mk ⟨(impl_CacheOk_l0_X a0 (.inr ())).2, Wk.ofk [] hk (by rfl) (by simp -implicitDefEqProofs [impl_CacheOk_l0_X, h_2, h_3, h_4, h_5]) (by simp -implicitDefEqProofs [impl_CacheOk_l0_X, h_2, h_3, h_4, h_5]), hR⟩
  · rcases q with ⟨⟩ | ⟨⟩
    · dsimp only at H
      try simp -implicitDefEqProofs (maxSteps := 2000000) [-selQ_sel, impl_CacheOk_l0_X]
      obtain ⟨v10, h_10, H⟩ := HS.bnd H
      try simp -implicitDefEqProofs (maxSteps := 2000000) [-selQ_sel, h_10]
      refine Hid.selQ (fun h_11 => ?_) (fun h_11 => ?_)
      · replace H := HS.cnd_t h_11 H
        try simp -implicitDefEqProofs (maxSteps := 2000000) [-selQ_sel, h_10, h_11]
        have hr := (HS.some H).symm; subst hr
        refine Hid.mk ⟨_, Wk.refl _, ?_⟩
        try simp -implicitDefEqProofs (maxSteps := 2000000) [-selQ_sel, h_10, h_11]
      · replace H := HS.cnd_f h_11 H
        try simp -implicitDefEqProofs (maxSteps := 2000000) [-selQ_sel, h_10, h_11]
        have hr := (HS.some H).symm; subst hr
        refine Hid.mk ⟨_, Wk.refl _, ?_⟩
        try simp -implicitDefEqProofs (maxSteps := 2000000) [-selQ_sel, h_10, h_11]
    · dsimp only at H
      try simp -implicitDefEqProofs (maxSteps := 2000000) [-selQ_sel, impl_CacheOk_l0_X]
      have hr := (HS.some H).symm; subst hr
      refine Hid.mk ⟨_, Wk.refl _, ?_⟩
      try simp -implicitDefEqProofs (maxSteps := 2000000) [-selQ_sel]
theorem impl_MaskOk_ok0 (hm : Try.prog.follows .mixedOrders = true) (k_impl_isMaskBox : Sound Try.prog 152 impl_isMaskBox_x) (k_impl_inRange : Sound Try.prog 76 impl_inRange_x) : Sound Try.prog 78 impl_MaskOk_x := by
  refine xOf_sound fun q r h => ?_
  revert h; revert r; revert q; intro a0 r h
  refine fn_ok E0 hm Try.func78 rfl (by decide +kernel) (by rfl) fun Γ hn hk => ?_
  dsimp only [impl_MaskOk_e, impl_MaskOk_v]
  replace hn : Γ.n = 49 := hn
  replace hk : Γ.k = 0 := hk
  have H : HS (impl_MaskOk a0) r := h
  clear h; unfold impl_MaskOk at H
  try simp -implicitDefEqProofs at H
  refine Tr.of_vc (cl := tabC [(152, impl_isMaskBox_x), (76, impl_inRange_x)]) (E := E0) [] (tab_cons k_impl_isMaskBox (tab_cons k_impl_inRange tab_nil)) hm (by rw [hn]; decide +kernel) ?_
  try simp -implicitDefEqProofs (maxSteps := 2000000) [-selQ_sel]
  refine Hid.brV (fun h_1 => ?_) (fun h_1 => ?_)
  · replace H := HS.cnd_t h_1 H
    try simp -implicitDefEqProofs (maxSteps := 2000000) [-selQ_sel, h_1]
    have hr := (HS.some H).symm; subst hr
    refine Hid.mk ⟨_, Wk.refl _, ?_⟩
    try simp -implicitDefEqProofs (maxSteps := 2000000) [-selQ_sel, h_1]
  · replace H := HS.cnd_f h_1 H
    try simp -implicitDefEqProofs (maxSteps := 2000000) [-selQ_sel, h_1]
    obtain ⟨v1, h_2, H⟩ := HS.bnd H
    try simp -implicitDefEqProofs (maxSteps := 2000000) [-selQ_sel, h_1, h_2]
    refine Hid.selQ (fun h_3 => ?_) (fun h_3 => ?_)
    · replace H := HS.cnd_t h_3 H
      try simp -implicitDefEqProofs (maxSteps := 2000000) [-selQ_sel, h_1, h_2, h_3]
      refine Hid.brV (fun h_4 => ?_) (fun h_4 => ?_)
      · replace H := HS.cnd_t h_4 H
        try simp -implicitDefEqProofs (maxSteps := 2000000) [-selQ_sel, h_1, h_2, h_3, h_4]
        obtain ⟨q, h_5, H⟩ := HS.bnd H
        refine Hid.mk (Tr.weak (s' := (impl_MaskOk_l0_S a0) 0) (Wk.ofk [] hk (by rfl) (by simp -implicitDefEqProofs [impl_MaskOk_l0_S, h_1, h_2, h_3, h_4]) (by simp -implicitDefEqProofs [impl_MaskOk_l0_S, h_1, h_2, h_3, h_4])) ?_)
        refine wp_loop_of (S := (impl_MaskOk_l0_S a0)) (f := (impl_MaskOk_l0 a0)) (xt := (impl_MaskOk_l0_X a0)) ?_ ?_ h_5 ?_
        · intro q; rcases q with ⟨⟩ | ⟨⟩ <;> simp [impl_MaskOk_l0_X]
        · clear H h_5 q
          rintro x4 o R hf hR
          have H : HS (impl_MaskOk_l0 a0 x4) o := hf
          clear hf; unfold impl_MaskOk_l0 at H
          try simp -implicitDefEqProofs at H
          refine Tr.of_vc (cl := tabC [(152, impl_isMaskBox_x), (76, impl_inRange_x)]) (E := E0) [] (tab_cons k_impl_isMaskBox (tab_cons k_impl_inRange tab_nil)) hm (by rw [hn]; decide +kernel) ?_
          try simp -implicitDefEqProofs (maxSteps := 2000000) [-selQ_sel, impl_MaskOk_l0_S]
          refine Hid.brV (fun h_6 => ?_) (fun h_6 => ?_)
          · replace H := HS.cnd_t h_6 H
            try simp -implicitDefEqProofs (maxSteps := 2000000) [-selQ_sel, h_6]
            have hr := (HS.some H).symm; subst hr
            exact Hid.mk ⟨(impl_MaskOk_l0_X a0 (.inl ())).2, Wk.ofk [] hk (by rfl) (by simp -implicitDefEqProofs [impl_MaskOk_l0_X, h_6]) (by simp -implicitDefEqProofs [impl_MaskOk_l0_X, h_6]), hR⟩
          · replace H := HS.cnd_f h_6 H
            try simp -implicitDefEqProofs (maxSteps := 2000000) [-selQ_sel, h_6]
            obtain ⟨v5, h_7, H⟩ := HS.bnd H
            try simp -implicitDefEqProofs (maxSteps := 2000000) [-selQ_sel, h_6, h_7]
            obtain ⟨v6, h_8, H⟩ := HS.bnd H
            try simp -implicitDefEqProofs (maxSteps := 2000000) [-selQ_sel, h_6, h_7, h_8]
            refine Hid.brV (fun h_9 => ?_) (fun h_9 => ?_)
            · replace H := HS.cnd_t h_9 H
              try simp -implicitDefEqProofs (maxSteps := 2000000) [-selQ_sel, h_6, h_7, h_8, h_9]
              have hr := (HS.some H).symm; subst hr
              exact Hid.mk ⟨impl_MaskOk_l0_S a0 (IntKind.i64.wrap (x4 + 1)), Wk.ofk [] hk (by rfl) (by simp -implicitDefEqProofs [impl_MaskOk_l0_S, h_6, h_7, h_8, h_9]) (by simp -implicitDefEqProofs [impl_MaskOk_l0_S, h_6, h_7, h_8, h_9]), hR⟩
            · replace H := HS.cnd_f h_9 H
              try simp -implicitDefEqProofs (maxSteps := 2000000) [-selQ_sel, h_6, h_7, h_8, h_9]
              have hr := (HS.some H).symm; subst hr
              exact Hid.mk ⟨(impl_MaskOk_l0_X a0 (.inr ())).2, Wk.ofk [] hk (by rfl) (by simp -implicitDefEqProofs [impl_MaskOk_l0_X, h_6, h_7, h_8, h_9]) (by simp -implicitDefEqProofs [impl_MaskOk_l0_X, h_6, h_7, h_8, h_9]), hR⟩
        · rcases q with ⟨⟩ | ⟨⟩
          · dsimp only at H
            try simp -implicitDefEqProofs (maxSteps := 2000000) [-selQ_sel, h_1, h_2, h_3, h_4, impl_MaskOk_l0_X]
            have hr := (HS.some H).symm; subst hr
            refine Hid.mk ⟨_, Wk.refl _, ?_⟩
            try simp -implicitDefEqProofs (maxSteps := 2000000) [-selQ_sel, h_1, h_2, h_3, h_4]
          · dsimp only at H
            try simp -implicitDefEqProofs (maxSteps := 2000000) [-selQ_sel, h_1, h_2, h_3, h_4, impl_MaskOk_l0_X]
            have hr := (HS.some H).symm; subst hr
            refine Hid.mk ⟨_, Wk.refl _, ?_⟩
            try simp -implicitDefEqProofs (maxSteps := 2000000) [-selQ_sel, h_1, h_2, h_3, h_4]
      · replace H := HS.cnd_f h_4 H
        try simp -implicitDefEqProofs (maxSteps := 2000000) [-selQ_sel, h_1, h_2, h_3, h_4]
        have hr := (HS.some H).symm; subst hr
        refine Hid.mk ⟨_, Wk.refl _, ?_⟩
        try simp -implicitDefEqProofs (maxSteps := 2000000) [-selQ_sel, h_1, h_2, h_3, h_4]
    · replace H := HS.cnd_f h_3 H
      try simp -implicitDefEqProofs (maxSteps := 2000000) [-selQ_sel, h_1, h_2, h_3]
      have hr := (HS.some H).symm; subst hr
      refine Hid.mk ⟨_, Wk.refl _, ?_⟩
      try simp -implicitDefEqProofs (maxSteps := 2000000) [-selQ_sel, h_1, h_2, h_3]
theorem spec_l11Box_ok0 (hm : Try.prog.follows .mixedOrders = true) (k_spec_Empty : Sound Try.prog 84 spec_Empty_x) (k_spec_l01In : Sound Try.prog 73 spec_l01In_x) : Sound Try.prog 148 spec_l11Box_x := by
  refine xOf_sound fun q r h => ?_
  revert h; revert r; revert q; intro a0 r h
  refine fn_ok E0 hm Try.func148 rfl (by decide +kernel) (by rfl) fun Γ hn hk => ?_
  dsimp only [spec_l11Box_e, spec_l11Box_v]
  replace hn : Γ.n = 42 := hn
  replace hk : Γ.k = 0 := hk
  have H : HS (spec_l11Box a0) r := h
  clear h; unfold spec_l11Box at H
  try simp -implicitDefEqProofs at H
  refine Tr.of_vc (cl := tabC [(84, spec_Empty_x), (73, spec_l01In_x)]) (E := E0) [] (tab_cons k_spec_Empty (tab_cons k_spec_l01In tab_nil)) hm (by rw [hn]; decide +kernel) ?_
  try simp -implicitDefEqProofs (maxSteps := 2000000) [-selQ_sel]
  obtain ⟨v1, h_1, H⟩ := HS.bnd H
  try simp -implicitDefEqProofs (maxSteps := 2000000) [-selQ_sel, h_1]
  refine Hid.selQ (fun h_2 => ?_) (fun h_2 => ?_)
  · replace H := HS.cnd_t h_2 H
    try simp -implicitDefEqProofs (maxSteps := 2000000) [-selQ_sel, h_1, h_2]
    have hr := (HS.some H).symm; subst hr
    refine Hid.mk ⟨_, Wk.refl _, ?_⟩
    try simp -implicitDefEqProofs (maxSteps := 2000000) [-selQ_sel, h_1, h_2]
  · replace H := HS.cnd_f h_2 H
    try simp -implicitDefEqProofs (maxSteps := 2000000) [-selQ_sel, h_1, h_2]
    obtain ⟨v2, h_3, H⟩ := HS.bnd H
    try simp -implicitDefEqProofs (maxSteps := 2000000) [-selQ_sel, h_1, h_2, h_3]
    refine Hid.selQ (fun h_4 => ?_) (fun h_4 => ?_)
    · replace H := HS.cnd_t h_4 H
      try simp -implicitDefEqProofs (maxSteps := 2000000) [-selQ_sel, h_1, h_2, h_3, h_4]
      obtain ⟨v3, h_5, H⟩ := HS.bnd H
      try simp -implicitDefEqProofs (maxSteps := 2000000) [-selQ_sel, h_1, h_2, h_3, h_4, h_5]
      refine Hid.selQ (fun h_6 => ?_) (fun h_6 => ?_)
      · replace H := HS.cnd_t h_6 H
        try simp -implicitDefEqProofs (maxSteps := 2000000) [-selQ_sel, h_1, h_2, h_3, h_4, h_5, h_6]
        obtain ⟨v4, h_7, H⟩ := HS.bnd H
        try simp -implicitDefEqProofs (maxSteps := 2000000) [-selQ_sel, h_1, h_2, h_3, h_4, h_5, h_6, h_7]
        refine Hid.selQ (fun h_8 => ?_) (fun h_8 => ?_)
        · replace H := HS.cnd_t h_8 H
          try simp -implicitDefEqProofs (maxSteps := 2000000) [-selQ_sel, h_1, h_2, h_3, h_4, h_5, h_6, h_7, h_8]
          obtain ⟨v5, h_9, H⟩ := HS.bnd H
          try simp -implicitDefEqProofs (maxSteps := 2000000) [-selQ_sel, h_1, h_2, h_3, h_4, h_5, h_6, h_7, h_8, h_9]
          refine Hid.selQ (fun h_10 => ?_) (fun h_10 => ?_)
          · replace H := HS.cnd_t h_10 H
            try simp -implicitDefEqProofs (maxSteps := 2000000) [-selQ_sel, h_1, h_2, h_3, h_4, h_5, h_6, h_7, h_8, h_9, h_10]
            refine Hid.selQ (fun h_11 => ?_) (fun h_11 => ?_)
            · replace H := HS.cnd_t h_11 H
              try simp -implicitDefEqProofs (maxSteps := 2000000) [-selQ_sel, h_1, h_2, h_3, h_4, h_5, h_6, h_7, h_8, h_9, h_10, h_11]
              have hr := (HS.some H).symm; subst hr
              refine Hid.mk ⟨_, Wk.refl _, ?_⟩
              try simp -implicitDefEqProofs (maxSteps := 2000000) [-selQ_sel, h_1, h_2, h_3, h_4, h_5, h_6, h_7, h_8, h_9, h_10, h_11]
            · replace H := HS.cnd_f h_11 H
              try simp -implicitDefEqProofs (maxSteps := 2000000) [-selQ_sel, h_1, h_2, h_3, h_4, h_5, h_6, h_7, h_8, h_9, h_10, h_11]
              have hr := (HS.some H).symm; subst hr
              refine Hid.mk ⟨_, Wk.refl _, ?_⟩
              try simp -implicitDefEqProofs (maxSteps := 2000000) [-selQ_sel, h_1, h_2, h_3, h_4, h_5, h_6, h_7, h_8, h_9, h_10, h_11]
          · replace H := HS.cnd_f h_10 H
            try simp -implicitDefEqProofs (maxSteps := 2000000) [-selQ_sel, h_1, h_2, h_3, h_4, h_5, h_6, h_7, h_8, h_9, h_10]
            have hr := (HS.some H).symm; subst hr
            refine Hid.mk ⟨_, Wk.refl _, ?_⟩
            try simp -implicitDefEqProofs (maxSteps := 2000000) [-selQ_sel, h_1, h_2, h_3, h_4, h_5, h_6, h_7, h_8, h_9, h_10]
        · replace H := HS.cnd_f h_8 H
          try simp -implicitDefEqProofs (maxSteps := 2000000) [-selQ_sel, h_1, h_2, h_3, h_4, h_5, h_6, h_7, h_8]
          have hr := (HS.some H).symm; subst hr
          refine Hid.mk ⟨_, Wk.refl _, ?_⟩
          try simp -implicitDefEqProofs (maxSteps := 2000000) [-selQ_sel, h_1, h_2, h_3, h_4, h_5, h_6, h_7, h_8]
      · replace H := HS.cnd_f h_6 H
        try simp -implicitDefEqProofs (maxSteps := 2000000) [-selQ_sel, h_1, h_2, h_3, h_4, h_5, h_6]
        have hr := (HS.some H).symm; subst hr
        refine Hid.mk ⟨_, Wk.refl _, ?_⟩
        try simp -implicitDefEqProofs (maxSteps := 2000000) [-selQ_sel, h_1, h_2, h_3, h_4, h_5, h_6]
    · replace H := HS.cnd_f h_4 H
      try simp -implicitDefEqProofs (maxSteps := 2000000) [-selQ_sel, h_1, h_2, h_3, h_4]
      have hr := (HS.some H).symm; subst hr
      refine Hid.mk ⟨_, Wk.refl _, ?_⟩
      try simp -implicitDefEqProofs (maxSteps := 2000000) [-selQ_sel, h_1, h_2, h_3, h_4]
theorem laws_eqIntS_ok0 (hm : Try.prog.follows .mixedOrders = true) : Sound Try.prog 56 laws_eqIntS_x := by
  refine xOf_sound fun q r h => ?_
  obtain ⟨a0, a1⟩ := q
  refine fn_ok E0 hm Try.func56 rfl (by decide +kernel) (by rfl) fun Γ hn hk => ?_
  dsimp only [laws_eqIntS_e, laws_eqIntS_v]
  replace hn : Γ.n = 26 := hn
  replace hk : Γ.k = 0 := hk
  have H : HS (laws_eqIntS a0 a1) r := h
  clear h; unfold laws_eqIntS at H
  try simp -implicitDefEqProofs at H
  refine Tr.of_vc (cl := tabC []) (E := E0) [] tab_nil hm (by rw [hn]; decide +kernel) ?_
  try simp -implicitDefEqProofs +decide (maxSteps := 2000000) [-selQ_sel, hokQ_of]
  refine Hid.brV (fun h_1 => ?_) (fun h_1 => ?_)
  · replace H := HS.cnd_t h_1 H
    try simp -implicitDefEqProofs +decide (maxSteps := 2000000) [-selQ_sel, hokQ_of, h_1]
    obtain ⟨q, h_2, H⟩ := HS.bnd H
    refine Hid.mk (Tr.weak (s' := (laws_eqIntS_l0_S a0 a1) 0) (Wk.ofk [] hk (by rfl) (by simp -implicitDefEqProofs [laws_eqIntS_l0_S, h_1]) (by simp -implicitDefEqProofs [laws_eqIntS_l0_S, h_1])) ?_)
    refine wp_loop_of (S := (laws_eqIntS_l0_S a0 a1)) (f := (laws_eqIntS_l0 a0 a1)) (xt := (laws_eqIntS_l0_X a0 a1)) ?_ ?_ h_2 ?_
    · intro q; rcases q with ⟨⟩ | ⟨⟩ <;> simp [laws_eqIntS_l0_X]
    · clear H h_2 q
      rintro x3 o R hf hR
      have H : HS (laws_eqIntS_l0 a0 a1 x3) o := hf
      clear hf; unfold laws_eqIntS_l0 at H
      try simp -implicitDefEqProofs at H
      refine Tr.of_vc (cl := tabC []) (E := E0) [] tab_nil hm (by rw [hn]; decide +kernel) ?_
      try simp -implicitDefEqProofs +decide (maxSteps := 2000000) [-selQ_sel, hokQ_of, laws_eqIntS_l0_S]
      refine Hid.brV (fun h_3 => ?_) (fun h_3 => ?_)
      · replace H := HS.cnd_t h_3 H
        try simp -implicitDefEqProofs +decide (maxSteps := 2000000) [-selQ_sel, hokQ_of, h_3]
        have hr := (HS.some H).symm; subst hr
        exact Hid.mk ⟨(laws_eqIntS_l0_X a0 a1 (.inl ())).2, Wk.ofk [] hk (by rfl) (by simp -implicitDefEqProofs [laws_eqIntS_l0_X, h_3]) (by simp -implicitDefEqProofs [laws_eqIntS_l0_X, h_3]), hR⟩
      · replace H := HS.cnd_f h_3 H
        try simp -implicitDefEqProofs +decide (maxSteps := 2000000) [-selQ_sel, hokQ_of, h_3]
        obtain ⟨v4, h_4, H⟩ := HS.bnd H
        try simp -implicitDefEqProofs +decide (maxSteps := 2000000) [-selQ_sel, hokQ_of, h_3, h_4]
        obtain ⟨v5, h_5, H⟩ := HS.bnd H
        try simp -implicitDefEqProofs +decide (maxSteps := 2000000) [-selQ_sel, hokQ_of, h_3, h_4, h_5]
        refine Hid.brV (fun h_6 => ?_) (fun h_6 => ?_)
        · replace H := HS.cnd_t h_6 H
          try simp -implicitDefEqProofs +decide (maxSteps := 2000000) [-selQ_sel, hokQ_of, h_3, h_4, h_5, h_6]
          have hr := (HS.some H).symm; subst hr
          exact Hid.mk ⟨laws_eqIntS_l0_S a0 a1 (IntKind.i64.wrap (x3 + 1)), Wk.ofk [] hk (by rfl) (by simp -implicitDefEqProofs [laws_eqIntS_l0_S, h_3, h_4, h_5, h_6]) (by simp -implicitDefEqProofs [laws_eqIntS_l0_S, h_3, h_4, h_5, h_6]), hR⟩
        · replace H := HS.cnd_f h_6 H
          try simp -implicitDefEqProofs +decide (maxSteps := 2000000) [-selQ_sel, hokQ_of, h_3, h_4, h_5, h_6]
          have hr := (HS.some H).symm; subst hr
          exact Hid.mk ⟨(laws_eqIntS_l0_X a0 a1 (.inr ())).2, Wk.ofk [] hk (by rfl) (by simp -implicitDefEqProofs [laws_eqIntS_l0_X, h_3, h_4, h_5, h_6]) (by simp -implicitDefEqProofs [laws_eqIntS_l0_X, h_3, h_4, h_5, h_6]), hR⟩
    · rcases q with ⟨⟩ | ⟨⟩
      · dsimp only at H
        try simp -implicitDefEqProofs +decide (maxSteps := 2000000) [-selQ_sel, hokQ_of, h_1, laws_eqIntS_l0_X]
        have hr := (HS.some H).symm; subst hr
        refine Hid.mk ⟨_, Wk.refl _, ?_⟩
        try simp -implicitDefEqProofs +decide (maxSteps := 2000000) [-selQ_sel, hokQ_of, h_1]
      · dsimp only at H
        try simp -implicitDefEqProofs +decide (maxSteps := 2000000) [-selQ_sel, hokQ_of, h_1, laws_eqIntS_l0_X]
        have hr := (HS.some H).symm; subst hr
        refine Hid.mk ⟨_, Wk.refl _, ?_⟩
        try simp -implicitDefEqProofs +decide (maxSteps := 2000000) [-selQ_sel, hokQ_of, h_1]
  · replace H := HS.cnd_f h_1 H
    try simp -implicitDefEqProofs +decide (maxSteps := 2000000) [-selQ_sel, hokQ_of, h_1]
    have hr := (HS.some H).symm; subst hr
    refine Hid.mk ⟨_, Wk.refl _, ?_⟩
    try simp -implicitDefEqProofs +decide (maxSteps := 2000000) [-selQ_sel, hokQ_of, h_1]
theorem impl_isMaskBox_ok0 (hm : Try.prog.follows .mixedOrders = true) (k_impl_Empty : Sound Try.prog 158 impl_Empty_x) : Sound Try.prog 152 impl_isMaskBox_x := by
  refine xOf_sound fun q r h => ?_
  revert h; revert r; revert q; intro a0 r h
  refine fn_ok E0 hm Try.func152 rfl (by decide +kernel) (by rfl) fun Γ hn hk => ?_
  dsimp only [impl_isMaskBox_e, impl_isMaskBox_v]
  replace hn : Γ.n = 39 := hn
  replace hk : Γ.k = 0 := hk
  have H : HS (impl_isMaskBox a0) r := h
  clear h; unfold impl_isMaskBox at H
  try simp -implicitDefEqProofs at H
  refine Tr.of_vc (cl := tabC [(158, impl_Empty_x)]) (E := E0) [] (tab_cons k_impl_Empty tab_nil) hm (by rw [hn]; decide +kernel) ?_
  try simp -implicitDefEqProofs (maxSteps := 2000000) [-selQ_sel]
  obtain ⟨v1, h_1, H⟩ := HS.bnd H
  try simp -implicitDefEqProofs (maxSteps := 2000000) [-selQ_sel, h_1]
  refine Hid.selQ (fun h_2 => ?_) (fun h_2 => ?_)
  · replace H := HS.cnd_t h_2 H
    try simp -implicitDefEqProofs (maxSteps := 2000000) [-selQ_sel, h_1, h_2]
    have hr := (HS.some H).symm; subst hr
    refine Hid.mk ⟨_, Wk.refl _, ?_⟩
    try simp -implicitDefEqProofs (maxSteps := 2000000) [-selQ_sel, h_1, h_2]
  · replace H := HS.cnd_f h_2 H
    try simp -implicitDefEqProofs (maxSteps := 2000000) [-selQ_sel, h_1, h_2]
    refine Hid.selQ (fun h_3 => ?_) (fun h_3 => ?_)
    · replace H := HS.cnd_t h_3 H
      try simp -implicitDefEqProofs (maxSteps := 2000000) [-selQ_sel, h_1, h_2, h_3]
      refine Hid.selQ (fun h_4 => ?_) (fun h_4 => ?_)
      · replace H := HS.cnd_t h_4 H
        try simp -implicitDefEqProofs (maxSteps := 2000000) [-selQ_sel, h_1, h_2, h_3, h_4]
        refine Hid.selQ (fun h_5 => ?_) (fun h_5 => ?_)
        · replace H := HS.cnd_t h_5 H
          try simp -implicitDefEqProofs (maxSteps := 2000000) [-selQ_sel, h_1, h_2, h_3, h_4, h_5]
          refine Hid.brV (fun h_6 => ?_) (fun h_6 => ?_)
          · replace H := HS.cnd_t h_6 H
            try simp -implicitDefEqProofs (maxSteps := 2000000) [-selQ_sel, h_1, h_2, h_3, h_4, h_5, h_6]
            refine Hid.selQ (fun h_7 => ?_) (fun h_7 => ?_)
            · replace H := HS.cnd_t h_7 H
              try simp -implicitDefEqProofs (maxSteps := 2000000) [-selQ_sel, h_1, h_2, h_3, h_4, h_5, h_6, h_7]
              have hr := (HS.some H).symm; subst hr
              refine Hid.mk ⟨_, Wk.refl _, ?_⟩
              try simp -implicitDefEqProofs (maxSteps := 2000000) [-selQ_sel, h_1, h_2, h_3, h_4, h_5, h_6, h_7]
            · replace H := HS.cnd_f h_7 H
              try simp -implicitDefEqProofs (maxSteps := 2000000) [-selQ_sel, h_1, h_2, h_3, h_4, h_5, h_6, h_7]
              have hr := (HS.some H).symm; subst hr
              refine Hid.mk ⟨_, Wk.refl _, ?_⟩
              try simp -implicitDefEqProofs (maxSteps := 2000000) [-selQ_sel, h_1, h_2, h_3, h_4, h_5, h_6, h_7]
          · replace H := HS.cnd_f h_6 H
            try simp -implicitDefEqProofs (maxSteps := 2000000) [-selQ_sel, h_1, h_2, h_3, h_4, h_5, h_6]
            have hr := (HS.some H).symm; subst hr
            refine Hid.mk ⟨_, Wk.refl _, ?_⟩
            try simp -implicitDefEqProofs (maxSteps := 2000000) [-selQ_sel, h_1, h_2, h_3, h_4, h_5, h_6]
        · replace H := HS.cnd_f h_5 H
          try simp -implicitDefEqProofs (maxSteps := 2000000) [-selQ_sel, h_1, h_2, h_3, h_4, h_5]
          have hr := (HS.some H).symm; subst hr
          refine Hid.mk ⟨_, Wk.refl _, ?_⟩
          try simp -implicitDefEqProofs (maxSteps := 2000000) [-selQ_sel, h_1, h_2, h_3, h_4, h_5]
      · replace H := HS.cnd_f h_4 H
        try simp -implicitDefEqProofs (maxSteps := 2000000) [-selQ_sel, h_1, h_2, h_3, h_4]
        have hr := (HS.some H).symm; subst hr
        refine Hid.mk ⟨_, Wk.refl _, ?_⟩
        try simp -implicitDefEqProofs (maxSteps := 2000000) [-selQ_sel, h_1, h_2, h_3, h_4]
    · replace H := HS.cnd_f h_3 H
      try simp -implicitDefEqProofs (maxSteps := 2000000) [-selQ_sel, h_1, h_2, h_3]
      have hr := (HS.some H).symm; subst hr
      refine Hid.mk ⟨_, Wk.refl _, ?_⟩
      try simp -implicitDefEqProofs (maxSteps := 2000000) [-selQ_sel, h_1, h_2, h_3]
theorem laws_toKeptS_ok0 (hm : Try.prog.follows .mixedOrders = true) (k_laws_toKept : Sound Try.prog 149 laws_toKept_x) : Sound Try.prog 75 laws_toKeptS_x := by
  refine xOf_sound fun q r h => ?_
  revert h; revert r; revert q; intro a0 r h
  refine fn_ok E0 hm Try.func75 rfl (by decide +kernel) (by rfl) fun Γ hn hk => ?_
  dsimp only [laws_toKeptS_e, laws_toKeptS_v]
  replace hn : Γ.n = 23 := hn
  replace hk : Γ.k = 0 := hk
  have H : HS (laws_toKeptS a0) r := h
  clear h; unfold laws_toKeptS at H
  try simp -implicitDefEqProofs at H
  refine Tr.of_vc (cl := tabC [(149, laws_toKept_x)]) (E := E0) [] (tab_cons k_laws_toKept tab_nil) hm (by rw [hn]; decide +kernel) ?_
  try simp -implicitDefEqProofs (maxSteps := 2000000) [-selQ_sel]
  obtain ⟨h_1, H⟩ := HS.chkP H
  try simp -implicitDefEqProofs (maxSteps := 2000000) [-selQ_sel, h_1]
  obtain ⟨l1, h_2, H⟩ := HS.nam H
  have m_3 := congrArg (List.map eKept) h_2
  have q_4 := congrArg List.length h_2
  simp -implicitDefEqProofs at m_3 q_4
  try simp only [q_4] at m_3
  try simp only [q_4] at h_1
  try simp -implicitDefEqProofs (maxSteps := 2000000) [-selQ_sel, h_1, m_3, q_4]
  obtain ⟨q, h_5, H⟩ := HS.bnd H
  refine Hid.mk (Tr.weak (s' := (laws_toKeptS_l0_S a0) (0, l1)) (Wk.ofk [0] hk (by rfl) (by simp -implicitDefEqProofs [laws_toKeptS_l0_S, h_1, m_3, q_4]) (by simp -implicitDefEqProofs [laws_toKeptS_l0_S, h_1, m_3, q_4])) ?_)
  refine wp_loop_of (S := (laws_toKeptS_l0_S a0)) (f := (laws_toKeptS_l0 a0)) (xt := (laws_toKeptS_l0_X a0)) ?_ ?_ h_5 ?_
  · intro q; simp [laws_toKeptS_l0_X]
  · clear H h_5 q
    rintro ⟨x6, x7⟩ o R hf hR
    have H : HS (laws_toKeptS_l0 a0 (x6, x7)) o := hf
    clear hf; unfold laws_toKeptS_l0 at H
    try simp -implicitDefEqProofs at H
    refine Tr.of_vc (cl := tabC [(149, laws_toKept_x)]) (E := E0) [] (tab_cons k_laws_toKept tab_nil) hm (by rw [hn]; decide +kernel) ?_
    try simp -implicitDefEqProofs (maxSteps := 2000000) [-selQ_sel, laws_toKeptS_l0_S]
    refine Hid.brV (fun h_6 => ?_) (fun h_6 => ?_)
    · replace H := HS.cnd_t h_6 H
      try simp -implicitDefEqProofs (maxSteps := 2000000) [-selQ_sel, h_6]
      have hr := (HS.some H).symm; subst hr
      exact Hid.mk ⟨(laws_toKeptS_l0_X a0 x7).2, Wk.ofk [0] hk (by rfl) (by simp -implicitDefEqProofs [laws_toKeptS_l0_X, h_6]) (by simp -implicitDefEqProofs [laws_toKeptS_l0_X, h_6]), hR⟩
    · replace H := HS.cnd_f h_6 H
      try simp -implicitDefEqProofs (maxSteps := 2000000) [-selQ_sel, h_6]
      obtain ⟨v8, h_7, H⟩ := HS.bnd H
      try simp -implicitDefEqProofs (maxSteps := 2000000) [-selQ_sel, h_6, h_7]
      obtain ⟨v9, h_8, H⟩ := HS.bnd H
      try simp -implicitDefEqProofs (maxSteps := 2000000) [-selQ_sel, h_6, h_7, h_8]
      obtain ⟨v10, h_9, H⟩ := HS.bnd H
      have g_10 := idx_get h_9
      try simp -implicitDefEqProofs (maxSteps := 2000000) [-selQ_sel, h_6, h_7, h_8, h_9, g_10]
      obtain ⟨l11, h_11, H⟩ := HS.nam H
      have m_12 := congrArg (List.map eKept) h_11
      have q_13 := congrArg List.length h_11
      simp -implicitDefEqProofs at m_12 q_13
      try simp only [q_13] at m_12
      try simp only [q_13] at g_10
      try simp -implicitDefEqProofs (maxSteps := 2000000) [-selQ_sel, h_6, h_7, h_8, h_9, g_10, m_12, q_13]
      have hr := (HS.some H).symm; subst hr
      exact Hid.mk ⟨laws_toKeptS_l0_S a0 ((IntKind.i64.wrap (x6 + 1)), l11), Wk.ofk [0] hk (by rfl) (by simp -implicitDefEqProofs [laws_toKeptS_l0_S, h_6, h_7, h_8, h_9, g_10, m_12, q_13]) (by simp -implicitDefEqProofs [laws_toKeptS_l0_S, h_6, h_7, h_8, h_9, g_10, m_12, q_13]), hR⟩
  · revert H h_5; revert q; intro y12 h_5 H
    try dsimp only at H
    try simp -implicitDefEqProofs (maxSteps := 2000000) [-selQ_sel, h_1, m_3, q_4, laws_toKeptS_l0_X]
    have hr := (HS.some H).symm; subst hr
    refine Hid.mk ⟨_, Wk.refl _, ?_⟩
    try simp -implicitDefEqProofs (maxSteps := 2000000) [-selQ_sel, h_1, m_3, q_4]
theorem laws_FnExactCacheOk_ok0 (hm : Try.prog.follows .mixedOrders = true) (k_laws_szCache : Sound Try.prog 12 laws_szCache_x) (k_laws_toCache : Sound Try.prog 14 laws_toCache_x) (k_spec_CacheOk : Sound Try.prog 13 spec_CacheOk_x) (k_impl_CacheOk : Sound Try.prog 15 impl_CacheOk_x) (k_laws_eqCache : Sound Try.prog 16 laws_eqCache_x) : Sound Try.prog 3 laws_FnExactCacheOk_x := by
  refine xOf_sound fun q r h => ?_
  revert h; revert r; revert q; intro a0 r h
  refine fn_ok E0 hm Try.func3 rfl (by decide +kernel) (by rfl) fun Γ hn hk => ?_
  dsimp only [laws_FnExactCacheOk_e, laws_FnExactCacheOk_v]
  replace hn : Γ.n = 27 := hn
  replace hk : Γ.k = 0 := hk
  have H : HS (laws_FnExactCacheOk a0) r := h
  clear h; unfold laws_FnExactCacheOk at H
  try simp -implicitDefEqProofs at H
  refine Tr.of_vc (cl := tabC [(12, laws_szCache_x), (14, laws_toCache_x), (13, spec_CacheOk_x), (15, impl_CacheOk_x), (16, laws_eqCache_x)]) (E := E0) [] (tab_cons k_laws_szCache (tab_cons k_laws_toCache (tab_cons k_spec_CacheOk (tab_cons k_impl_CacheOk (tab_cons k_laws_eqCache tab_nil))))) hm (by rw [hn]; decide +kernel) ?_
  try simp -implicitDefEqProofs +decide (maxSteps := 2000000) [-selQ_sel, hokQ_of]
  obtain ⟨v1, h_1, H⟩ := HS.bnd H
  try simp -implicitDefEqProofs +decide (maxSteps := 2000000) [-selQ_sel, hokQ_of, h_1]
  refine Hid.brV (fun h_2 => ?_) (fun h_2 => ?_)
  · replace H := HS.cnd_t h_2 H
    try simp -implicitDefEqProofs +decide (maxSteps := 2000000) [-selQ_sel, hokQ_of, h_1, h_2]
    obtain ⟨v2, h_3, H⟩ := HS.bnd H
    try simp -implicitDefEqProofs +decide (maxSteps := 2000000) [-selQ_sel, hokQ_of, h_1, h_2, h_3]
    obtain ⟨v3, h_4, H⟩ := HS.bnd H
    try simp -implicitDefEqProofs +decide (maxSteps := 2000000) [-selQ_sel, hokQ_of, h_1, h_2, h_3, h_4]
    obtain ⟨v4, h_5, H⟩ := HS.bnd H
    try simp -implicitDefEqProofs +decide (maxSteps := 2000000) [-selQ_sel, hokQ_of, h_1, h_2, h_3, h_4, h_5]
    refine Hid.brV (fun h_6 => ?_) (fun h_6 => ?_)
    · replace H := HS.cnd_t h_6 H
      try simp -implicitDefEqProofs +decide (maxSteps := 2000000) [-selQ_sel, hokQ_of, h_1, h_2, h_3, h_4, h_5, h_6]
      obtain ⟨v5, h_7, H⟩ := HS.bnd H
      try simp -implicitDefEqProofs +decide (maxSteps := 2000000) [-selQ_sel, hokQ_of, h_1, h_2, h_3, h_4, h_5, h_6, h_7]
      refine Hid.brV (fun h_8 => ?_) (fun h_8 => ?_)
      · replace H := HS.cnd_t h_8 H
        try simp -implicitDefEqProofs +decide (maxSteps := 2000000) [-selQ_sel, hokQ_of, h_1, h_2, h_3, h_4, h_5, h_6, h_7, h_8]
        have hr := (HS.some H).symm; subst hr
        refine Hid.mk ⟨_, Wk.refl _, ?_⟩
        try simp -implicitDefEqProofs +decide (maxSteps := 2000000) [-selQ_sel, hokQ_of, h_1, h_2, h_3, h_4, h_5, h_6, h_7, h_8]
      · replace H := HS.cnd_f h_8 H
        try simp -implicitDefEqProofs +decide (maxSteps := 2000000) [-selQ_sel, hokQ_of, h_1, h_2, h_3, h_4, h_5, h_6, h_7, h_8]
        have hr := (HS.some H).symm; subst hr
        refine Hid.mk ⟨_, Wk.refl _, ?_⟩
        try simp -implicitDefEqProofs +decide (maxSteps := 2000000) [-selQ_sel, hokQ_of, h_1, h_2, h_3, h_4, h_5, h_6, h_7, h_8]
    · replace H := HS.cnd_f h_6 H
      try simp -implicitDefEqProofs +decide (maxSteps := 2000000) [-selQ_sel, hokQ_of, h_1, h_2, h_3, h_4, h_5, h_6]
      have hr := (HS.some H).symm; subst hr
      refine Hid.mk ⟨_, Wk.refl _, ?_⟩
      try simp -implicitDefEqProofs +decide (maxSteps := 2000000) [-selQ_sel, hokQ_of, h_1, h_2, h_3, h_4, h_5, h_6]
  · replace H := HS.cnd_f h_2 H
    try simp -implicitDefEqProofs +decide (maxSteps := 2000000) [-selQ_sel, hokQ_of, h_1, h_2]
    have hr := (HS.some H).symm; subst hr
    refine Hid.mk ⟨_, Wk.refl _, ?_⟩
    try simp -implicitDefEqProofs +decide (maxSteps := 2000000) [-selQ_sel, hokQ_of, h_1, h_2]
theorem laws_eqMask_ok0 (hm : Try.prog.follows .mixedOrders = true) (k_laws_eqBox : Sound Try.prog 139 laws_eqBox_x) (k_laws_eqIntS : Sound Try.prog 56 laws_eqIntS_x) : Sound Try.prog 70 laws_eqMask_x := by
  refine xOf_sound fun q r h => ?_
  obtain ⟨a0, a1⟩ := q
  refine fn_ok E0 hm Try.func70 rfl (by decide +kernel) (by rfl) fun Γ hn hk => ?_
  dsimp only [laws_eqMask_e, laws_eqMask_v]
  replace hn : Γ.n = 17 := hn
  replace hk : Γ.k = 0 := hk
  have H : HS (laws_eqMask a0 a1) r := h
  clear h; unfold laws_eqMask at H
  try simp -implicitDefEqProofs at H
  refine Tr.of_vc (cl := tabC [(139, laws_eqBox_x), (56, laws_eqIntS_x)]) (E := E0) [] (tab_cons k_laws_eqBox (tab_cons k_laws_eqIntS tab_nil)) hm (by rw [hn]; decide +kernel) ?_
  try simp -implicitDefEqProofs (maxSteps := 2000000) [-selQ_sel]
  obtain ⟨v1, h_1, H⟩ := HS.bnd H
  try simp -implicitDefEqProofs (maxSteps := 2000000) [-selQ_sel, h_1]
  refine Hid.brV (fun h_2 => ?_) (fun h_2 => ?_)
  · replace H := HS.cnd_t h_2 H
    try simp -implicitDefEqProofs (maxSteps := 2000000) [-selQ_sel, h_1, h_2]
    obtain ⟨v2, h_3, H⟩ := HS.bnd H
    try simp -implicitDefEqProofs (maxSteps := 2000000) [-selQ_sel, h_1, h_2, h_3]
    refine Hid.brV (fun h_4 => ?_) (fun h_4 => ?_)
    · replace H := HS.cnd_t h_4 H
      try simp -implicitDefEqProofs (maxSteps := 2000000) [-selQ_sel, h_1, h_2, h_3, h_4]
      have hr := (HS.some H).symm; subst hr
      refine Hid.mk ⟨_, Wk.refl _, ?_⟩
      try simp -implicitDefEqProofs (maxSteps := 2000000) [-selQ_sel, h_1, h_2, h_3, h_4]
    · replace H := HS.cnd_f h_4 H
      try simp -implicitDefEqProofs (maxSteps := 2000000) [-selQ_sel, h_1, h_2, h_3, h_4]
      have hr := (HS.some H).symm; subst hr
      refine Hid.mk ⟨_, Wk.refl _, ?_⟩
      try simp -implicitDefEqProofs (maxSteps := 2000000) [-selQ_sel, h_1, h_2, h_3, h_4]
  · replace H := HS.cnd_f h_2 H
    try simp -implicitDefEqProofs (maxSteps := 2000000) [-selQ_sel, h_1, h_2]
    have hr := (HS.some H).symm; subst hr
    refine Hid.mk ⟨_, Wk.refl _, ?_⟩
    try simp -implicitDefEqProofs (maxSteps := 2000000) [-selQ_sel, h_1, h_2]
theorem laws_eqCache_ok0 (hm : Try.prog.follows .mixedOrders = true) (k_laws_eqKeptS : Sound Try.prog 79 laws_eqKeptS_x) : Sound Try.prog 16 laws_eqCache_x := by
  refine xOf_sound fun q r h => ?_
  obtain ⟨a0, a1⟩ := q
  refine fn_ok E0 hm Try.func16 rfl (by decide +kernel) (by rfl) fun Γ hn hk => ?_
  dsimp only [laws_eqCache_e, laws_eqCache_v]
  replace hn : Γ.n = 16 := hn
  replace hk : Γ.k = 0 := hk
  have H : HS (laws_eqCache a0 a1) r := h
  clear h; unfold laws_eqCache at H
  try simp -implicitDefEqProofs at H
  refine Tr.of_vc (cl := tabC [(79, laws_eqKeptS_x)]) (E := E0) [] (tab_cons k_laws_eqKeptS tab_nil) hm (by rw [hn]; decide +kernel) ?_
  try simp -implicitDefEqProofs (maxSteps := 2000000) [-selQ_sel]
  refine Hid.brV (fun h_1 => ?_) (fun h_1 => ?_)
  · replace H := HS.cnd_t h_1 H
    try simp -implicitDefEqProofs (maxSteps := 2000000) [-selQ_sel, h_1]
    obtain ⟨v1, h_2, H⟩ := HS.bnd H
    try simp -implicitDefEqProofs (maxSteps := 2000000) [-selQ_sel, h_1, h_2]
    refine Hid.brV (fun h_3 => ?_) (fun h_3 => ?_)
    · replace H := HS.cnd_t h_3 H
      try simp -implicitDefEqProofs (maxSteps := 2000000) [-selQ_sel, h_1, h_2, h_3]
      have hr := (HS.some H).symm; subst hr
      refine Hid.mk ⟨_, Wk.refl _, ?_⟩
      try simp -implicitDefEqProofs (maxSteps := 2000000) [-selQ_sel, h_1, h_2, h_3]
    · replace H := HS.cnd_f h_3 H
      try simp -implicitDefEqProofs (maxSteps := 2000000) [-selQ_sel, h_1, h_2, h_3]
      have hr := (HS.some H).symm; subst hr
      refine Hid.mk ⟨_, Wk.refl _, ?_⟩
      try simp -implicitDefEqProofs (maxSteps := 2000000) [-selQ_sel, h_1, h_2, h_3]
  · replace H := HS.cnd_f h_1 H
    try simp -implicitDefEqProofs (maxSteps := 2000000) [-selQ_sel, h_1]
    have hr := (HS.some H).symm; subst hr
    refine Hid.mk ⟨_, Wk.refl _, ?_⟩
    try simp -implicitDefEqProofs (maxSteps := 2000000) [-selQ_sel, h_1]
theorem laws_toMask_ok0 (hm : Try.prog.follows .mixedOrders = true) (k_laws_toBox : Sound Try.prog 137 laws_toBox_x) (k_laws_toIntS : Sound Try.prog 86 laws_toIntS_x) : Sound Try.prog 68 laws_toMask_x := by
  refine xOf_sound fun q r h => ?_
  revert h; revert r; revert q; intro a0 r h
  refine fn_ok E0 hm Try.func68 rfl (by decide +kernel) (by rfl) fun Γ hn hk => ?_
  dsimp only [laws_toMask_e, laws_toMask_v]
  replace hn : Γ.n = 13 := hn
  replace hk : Γ.k = 0 := hk
  have H : HS (laws_toMask a0) r := h
  clear h; unfold laws_toMask at H
  try simp -implicitDefEqProofs at H
  refine Tr.of_vc (cl := tabC [(137, laws_toBox_x), (86, laws_toIntS_x)]) (E := E0) [] (tab_cons k_laws_toBox (tab_cons k_laws_toIntS tab_nil)) hm (by rw [hn]; decide +kernel) ?_
  try simp -implicitDefEqProofs (maxSteps := 2000000) [-selQ_sel]
  obtain ⟨v1, h_1, H⟩ := HS.bnd H
  try simp -implicitDefEqProofs (maxSteps := 2000000) [-selQ_sel, h_1]
  obtain ⟨v2, h_2, H⟩ := HS.bnd H
  try simp -implicitDefEqProofs (maxSteps := 2000000) [-selQ_sel, h_1, h_2]
  have hr := (HS.some H).symm; subst hr
  refine Hid.mk ⟨⟨[(2, AV.optr 0 0 5)], [(0, Ob.box [AV.int .i64 v1.x0, AV.int .i64 v1.y0, AV.int .i64 v1.x1, AV.int .i64 v1.y1, AV.osl 1 0 (List.length v2) (List.length v2)]), (1, Ob.arr 1 (List.map (AV.int .i64) v2) false)], 2⟩, Wk.ofk [1, 3] hk (by rfl) (by simp -implicitDefEqProofs [h_1, h_2]) (by simp -implicitDefEqProofs [h_1, h_2]), ?_⟩
  try simp -implicitDefEqProofs (maxSteps := 2000000) [-selQ_sel, h_1, h_2]
theorem laws_szMask_ok0 (hm : Try.prog.follows .mixedOrders = true) (k_laws_szIntS : Sound Try.prog 80 laws_szIntS_x) : Sound Try.prog 66 laws_szMask_x := by
  refine xOf_sound fun q r h => ?_
  obtain ⟨a0, a1⟩ := q
  refine fn_ok E0 hm Try.func66 rfl (by decide +kernel) (by rfl) fun Γ hn hk => ?_
  dsimp only [laws_szMask_e, laws_szMask_v]
  replace hn : Γ.n = 12 := hn
  replace hk : Γ.k = 0 := hk
  have H : HS (laws_szMask a0 a1) r := h
  clear h; unfold laws_szMask at H
  try simp -implicitDefEqProofs at H
  refine Tr.of_vc (cl := tabC [(80, laws_szIntS_x)]) (E := E0) [] (tab_cons k_laws_szIntS tab_nil) hm (by rw [hn]; decide +kernel) ?_
  try simp -implicitDefEqProofs (maxSteps := 2000000) [-selQ_sel]
  obtain ⟨v1, h_1, H⟩ := HS.bnd H
  try simp -implicitDefEqProofs (maxSteps := 2000000) [-selQ_sel, h_1]
  refine Hid.brV (fun h_2 => ?_) (fun h_2 => ?_)
  · replace H := HS.cnd_t h_2 H
    try simp -implicitDefEqProofs (maxSteps := 2000000) [-selQ_sel, h_1, h_2]
    have hr := (HS.some H).symm; subst hr
    refine Hid.mk ⟨_, Wk.refl _, ?_⟩
    try simp -implicitDefEqProofs (maxSteps := 2000000) [-selQ_sel, h_1, h_2]
  · replace H := HS.cnd_f h_2 H
    try simp -implicitDefEqProofs (maxSteps := 2000000) [-selQ_sel, h_1, h_2]
    have hr := (HS.some H).symm; subst hr
    refine Hid.mk ⟨_, Wk.refl _, ?_⟩
    try simp -implicitDefEqProofs (maxSteps := 2000000) [-selQ_sel, h_1, h_2]
theorem spec_Empty_ok0 (hm : Try.prog.follows .mixedOrders = true) : Sound Try.prog 84 spec_Empty_x := by
  refine xOf_sound fun q r h => ?_
  revert h; revert r; revert q; intro a0 r h
  refine fn_ok E0 hm Try.func84 rfl (by decide +kernel) (by rfl) fun Γ hn hk => ?_
  dsimp only [spec_Empty_e, spec_Empty_v]
  replace hn : Γ.n = 15 := hn
  replace hk : Γ.k = 0 := hk
  have H : HS (spec_Empty a0) r := h
  clear h; unfold spec_Empty at H
  try simp -implicitDefEqProofs at H
  refine Tr.of_vc (cl := tabC []) (E := E0) [] tab_nil hm (by rw [hn]; decide +kernel) ?_
  try simp -implicitDefEqProofs (maxSteps := 2000000) [-selQ_sel]
  refine Hid.selQ (fun h_1 => ?_) (fun h_1 => ?_)
  · replace H := HS.cnd_t h_1 H
    try simp -implicitDefEqProofs (maxSteps := 2000000) [-selQ_sel, h_1]
    have hr := (HS.some H).symm; subst hr
    refine Hid.mk ⟨_, Wk.refl _, ?_⟩
    try simp -implicitDefEqProofs (maxSteps := 2000000) [-selQ_sel, h_1]
  · replace H := HS.cnd_f h_1 H
    try simp -implicitDefEqProofs (maxSteps := 2000000) [-selQ_sel, h_1]
    have hr := (HS.some H).symm; subst hr
    refine Hid.mk ⟨_, Wk.refl _, ?_⟩
    try simp -implicitDefEqProofs (maxSteps := 2000000) [-selQ_sel, h_1]
theorem spec_l01In_ok0 (hm : Try.prog.follows .mixedOrders = true) : Sound Try.prog 73 spec_l01In_x := by
  refine xOf_sound fun q r h => ?_
  obtain ⟨a0, a1, a2⟩ := q
  refine fn_ok E0 hm Try.func73 rfl (by decide +kernel) (by rfl) fun Γ hn hk => ?_
  dsimp only [spec_l01In_e, spec_l01In_v]
  replace hn : Γ.n = 15 := hn
  replace hk : Γ.k = 0 := hk
  have H : HS (spec_l01In a0 a1 a2) r := h
  clear h; unfold spec_l01In at H
  try simp -implicitDefEqProofs at H
  refine Tr.of_vc (cl := tabC []) (E := E0) [] tab_nil hm (by rw [hn]; decide +kernel) ?_
  try simp -implicitDefEqProofs (maxSteps := 2000000) [-selQ_sel]
  refine Hid.selQ (fun h_1 => ?_) (fun h_1 => ?_)
  · replace H := HS.cnd_t h_1 H
    try simp -implicitDefEqProofs (maxSteps := 2000000) [-selQ_sel, h_1]
    have hr := (HS.some H).symm; subst hr
    refine Hid.mk ⟨_, Wk.refl _, ?_⟩
    try simp -implicitDefEqProofs (maxSteps := 2000000) [-selQ_sel, h_1]
  · replace H := HS.cnd_f h_1 H
    try simp -implicitDefEqProofs (maxSteps := 2000000) [-selQ_sel, h_1]
    have hr := (HS.some H).symm; subst hr
    refine Hid.mk ⟨_, Wk.refl _, ?_⟩
    try simp -implicitDefEqProofs (maxSteps := 2000000) [-selQ_sel, h_1]
theorem laws_szIntS_ok0 (hm : Try.prog.follows .mixedOrders = true) : Sound Try.prog 80 laws_szIntS_x := by
  refine xOf_sound fun q r h => ?_
  obtain ⟨a0, a1⟩ := q
  refine fn_ok E0 hm Try.func80 rfl (by decide +kernel) (by rfl) fun Γ hn hk => ?_
  dsimp only [laws_szIntS_e, laws_szIntS_v]
  replace hn : Γ.n = 12 := hn
  replace hk : Γ.k = 0 := hk
  have H : HS (laws_szIntS a0 a1) r := h
  clear h; unfold laws_szIntS at H
  try simp -implicitDefEqProofs at H
  refine Tr.of_vc (cl := tabC []) (E := E0) [] tab_nil hm (by rw [hn]; decide +kernel) ?_
  try simp -implicitDefEqProofs (maxSteps := 2000000) [-selQ_sel]
  refine Hid.brV (fun h_1 => ?_) (fun h_1 => ?_)
  · replace H := HS.cnd_t h_1 H
    try simp -implicitDefEqProofs (maxSteps := 2000000) [-selQ_sel, h_1]
    have hr := (HS.some H).symm; subst hr
    refine Hid.mk ⟨_, Wk.refl _, ?_⟩
    try simp -implicitDefEqProofs (maxSteps := 2000000) [-selQ_sel, h_1]
  · replace H := HS.cnd_f h_1 H
    try simp -implicitDefEqProofs (maxSteps := 2000000) [-selQ_sel, h_1]
    have hr := (HS.some H).symm; subst hr
    refine Hid.mk ⟨_, Wk.refl _, ?_⟩
    try simp -implicitDefEqProofs (maxSteps := 2000000) [-selQ_sel, h_1]
theorem laws_toCache_ok0 (hm : Try.prog.follows .mixedOrders = true) (k_laws_toKeptS : Sound Try.prog 75 laws_toKeptS_x) : Sound Try.prog 14 laws_toCache_x := by
  refine xOf_sound fun q r h => ?_
  revert h; revert r; revert q; intro a0 r h
  refine fn_ok E0 hm Try.func14 rfl (by decide +kernel) (by rfl) fun Γ hn hk => ?_
  dsimp only [laws_toCache_e, laws_toCache_v]
  replace hn : Γ.n = 12 := hn
  replace hk : Γ.k = 0 := hk
  have H : HS (laws_toCache a0) r := h
  clear h; unfold laws_toCache at H
  try simp -implicitDefEqProofs at H
  refine Tr.of_vc (cl := tabC [(75, laws_toKeptS_x)]) (E := E0) [] (tab_cons k_laws_toKeptS tab_nil) hm (by rw [hn]; decide +kernel) ?_
  try simp -implicitDefEqProofs (maxSteps := 2000000) [-selQ_sel]
  obtain ⟨v1, h_1, H⟩ := HS.bnd H
  try simp -implicitDefEqProofs (maxSteps := 2000000) [-selQ_sel, h_1]
  have hr := (HS.some H).symm; subst hr
  refine Hid.mk ⟨_, Wk.refl _, ?_⟩
  try simp -implicitDefEqProofs (maxSteps := 2000000) [-selQ_sel, h_1]
theorem laws_toBox_ok0 (hm : Try.prog.follows .mixedOrders = true) : Sound Try.prog 137 laws_toBox_x := by
  refine xOf_sound fun q r h => ?_
  revert h; revert r; revert q; intro a0 r h
  refine fn_ok E0 hm Try.func137 rfl (by decide +kernel) (by rfl) fun Γ hn hk => ?_
  dsimp only [laws_toBox_e, laws_toBox_v]
  replace hn : Γ.n = 17 := hn
  replace hk : Γ.k = 0 := hk
  have H : HS (laws_toBox a0) r := h
  clear h; unfold laws_toBox at H
  try simp -implicitDefEqProofs at H
  refine Tr.of_vc (cl := tabC []) (E := E0) [] tab_nil hm (by rw [hn]; decide +kernel) ?_
  try simp -implicitDefEqProofs (maxSteps := 2000000) [-selQ_sel]
  have hr := (HS.some H).symm; subst hr
  refine Hid.mk ⟨_, Wk.refl _, ?_⟩
  try simp -implicitDefEqProofs (maxSteps := 2000000) [-selQ_sel]
end Go.Proofs.Ytoafihhhdnmliaa.Am
