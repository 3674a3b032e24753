import Derived.Test.YtafljhadfoaceaaAmCcMo
set_option linter.unusedVariables false
set_option linter.unusedSimpArgs false
set_option linter.unusedSectionVars false
namespace Go.Proofs.Ytafljhadfoaceaa.Am
open Go Go.Proofs
set_option maxRecDepth 100000
set_option linter.unusedSimpArgs false
set_option linter.unusedVariables false
set_option maxHeartbeats 4000000
theorem laws_FnCaches_ok0 (hm : Try.prog.follows .mixedOrders = true) (k_laws_big : Sound Try.prog 38 laws_big_x) (k_spec_DrawRightCache : Sound Try.prog 39 spec_DrawRightCache_x) (k_spec_DrawMasks : Sound Try.prog 40 spec_DrawMasks_x) (k_spec_DrawPlaces : Sound Try.prog 41 spec_DrawPlaces_x) (k_impl_Remember : Sound Try.prog 32 impl_Remember_x) (k_impl_Recall : Sound Try.prog 36 impl_Recall_x) (k_impl_Forget : Sound Try.prog 23 impl_Forget_x) (k_impl_CacheOk : Sound Try.prog 42 impl_CacheOk_x) (k_laws_sameMask : Sound Try.prog 43 laws_sameMask_x) : Sound Try.prog 7 laws_FnCaches_x := by
  refine xOf_sound fun q r h => ?_
  revert h; revert r; revert q; intro a0 r h
  refine fn_ok E0 hm Try.func7 rfl (by decide +kernel) (by rfl) fun Γ hn hk => ?_
  dsimp only [laws_FnCaches_e, laws_FnCaches_v]
  replace hn : Γ.n = 171 := hn
  replace hk : Γ.k = 0 := hk
  have H : HS (laws_FnCaches a0) r := h
  clear h; unfold laws_FnCaches at H
  try simp -implicitDefEqProofs at H
  refine Tr.of_vc (cl := tabC [(38, laws_big_x), (39, spec_DrawRightCache_x), (40, spec_DrawMasks_x), (41, spec_DrawPlaces_x), (32, impl_Remember_x), (36, impl_Recall_x), (23, impl_Forget_x), (42, impl_CacheOk_x), (43, laws_sameMask_x)]) (E := E0) [] (tab_cons k_laws_big (tab_cons k_spec_DrawRightCache (tab_cons k_spec_DrawMasks (tab_cons k_spec_DrawPlaces (tab_cons k_impl_Remember (tab_cons k_impl_Recall (tab_cons k_impl_Forget (tab_cons k_impl_CacheOk (tab_cons k_laws_sameMask tab_nil))))))))) hm (by rw [hn]; decide +kernel) ?_
  try simp -implicitDefEqProofs +decide (maxSteps := 2000000) [-selQ_sel, hokQ_of]
  obtain ⟨v1, h_1, H⟩ := HS.bnd H
  try simp -implicitDefEqProofs +decide (maxSteps := 2000000) [-selQ_sel, hokQ_of, h_1]
  refine Hid.brV (fun h_2 => ?_) (fun h_2 => ?_)
  · replace H := HS.cnd_t h_2 H
    try simp -implicitDefEqProofs +decide (maxSteps := 2000000) [-selQ_sel, hokQ_of, h_1, h_2]
    have hr := (HS.some H).symm; subst hr
    refine Hid.mk ⟨_, Wk.refl _, ?_⟩
    try simp -implicitDefEqProofs +decide (maxSteps := 2000000) [-selQ_sel, hokQ_of, h_1, h_2]
  · replace H := HS.cnd_f h_2 H
    try simp -implicitDefEqProofs +decide (maxSteps := 2000000) [-selQ_sel, hokQ_of, h_1, h_2]
    obtain ⟨v2, h_3, H⟩ := HS.bnd H
    try simp -implicitDefEqProofs +decide (maxSteps := 2000000) [-selQ_sel, hokQ_of, h_1, h_2, h_3]
    obtain ⟨⟨w4, w5⟩, h_4, H⟩ := HS.bnd H
    dsimp only at H
    try simp -implicitDefEqProofs +decide (maxSteps := 2000000) [-selQ_sel, hokQ_of, h_1, h_2, h_3, h_4]
    obtain ⟨v6, h_5, H⟩ := HS.bnd H
    try simp -implicitDefEqProofs +decide (maxSteps := 2000000) [-selQ_sel, hokQ_of, h_1, h_2, h_3, h_4, h_5]
    obtain ⟨v7, h_6, H⟩ := HS.bnd H
    try simp -implicitDefEqProofs +decide (maxSteps := 2000000) [-selQ_sel, hokQ_of, h_1, h_2, h_3, h_4, h_5, h_6]
    obtain ⟨v8, h_7, H⟩ := HS.bnd H
    try simp -implicitDefEqProofs +decide (maxSteps := 2000000) [-selQ_sel, hokQ_of, h_1, h_2, h_3, h_4, h_5, h_6, h_7]
    obtain ⟨⟨w10, w11, w12⟩, h_8, H⟩ := HS.bnd H
    dsimp only at H
    try simp -implicitDefEqProofs +decide (maxSteps := 2000000) [-selQ_sel, hokQ_of, h_1, h_2, h_3, h_4, h_5, h_6, h_7, h_8]
    obtain ⟨v13, h_9, H⟩ := HS.bnd H
    have k_10 := impl_Forget_k v8.most v8.list [(IntKind.i64.wrap (1 + (Int.tmod v7 6)))]
    simp -implicitDefEqProofs [-impl_Forget_k] at k_10
    try simp -implicitDefEqProofs +decide (maxSteps := 2000000) [-selQ_sel, hokQ_of, h_1, h_2, h_3, h_4, h_5, h_6, h_7, h_8, h_9, k_10]
    obtain ⟨⟨w15, w16, w17⟩, h_11, H⟩ := HS.bnd H
    dsimp only at H
    try simp -implicitDefEqProofs +decide (maxSteps := 2000000) [-selQ_sel, hokQ_of, h_1, h_2, h_3, h_4, h_5, h_6, h_7, h_8, h_9, k_10, h_11]
    obtain ⟨v18, h_12, H⟩ := HS.bnd H
    try simp -implicitDefEqProofs +decide (maxSteps := 2000000) [-selQ_sel, hokQ_of, h_1, h_2, h_3, h_4, h_5, h_6, h_7, h_8, h_9, k_10, h_11, h_12]
    refine Hid.selQ (fun h_13 => ?_) (fun h_13 => ?_)
    · replace H := HS.cnd_t h_13 H
      try simp -implicitDefEqProofs +decide (maxSteps := 2000000) [-selQ_sel, hokQ_of, h_1, h_2, h_3, h_4, h_5, h_6, h_7, h_8, h_9, k_10, h_11, h_12, h_13]
      obtain ⟨v19, h_14, H⟩ := HS.bnd H
      try simp -implicitDefEqProofs +decide (maxSteps := 2000000) [-selQ_sel, hokQ_of, h_1, h_2, h_3, h_4, h_5, h_6, h_7, h_8, h_9, k_10, h_11, h_12, h_13, h_14]
      refine Hid.selQ (fun h_15 => ?_) (fun h_15 => ?_)
      · replace H := HS.cnd_t h_15 H
        try simp -implicitDefEqProofs +decide (maxSteps := 2000000) [-selQ_sel, hokQ_of, h_1, h_2, h_3, h_4, h_5, h_6, h_7, h_8, h_9, k_10, h_11, h_12, h_13, h_14, h_15]
        obtain ⟨v20, h_16, H⟩ := HS.bnd H
        try simp -implicitDefEqProofs +decide (maxSteps := 2000000) [-selQ_sel, hokQ_of, h_1, h_2, h_3, h_4, h_5, h_6, h_7, h_8, h_9, k_10, h_11, h_12, h_13, h_14, h_15, h_16]
        refine Hid.selQ (fun h_17 => ?_) (fun h_17 => ?_)
        · replace H := HS.cnd_t h_17 H
          try simp -implicitDefEqProofs +decide (maxSteps := 2000000) [-selQ_sel, hokQ_of, h_1, h_2, h_3, h_4, h_5, h_6, h_7, h_8, h_9, k_10, h_11, h_12, h_13, h_14, h_15, h_16, h_17]
          refine Hid.selQ (fun h_18 => ?_) (fun h_18 => ?_)
          · replace H := HS.cnd_t h_18 H
            try simp -implicitDefEqProofs +decide (maxSteps := 2000000) [-selQ_sel, hokQ_of, h_1, h_2, h_3, h_4, h_5, h_6, h_7, h_8, h_9, k_10, h_11, h_12, h_13, h_14, h_15, h_16, h_17, h_18]
            refine Hid.selQ (fun h_19 => ?_) (fun h_19 => ?_)
            · replace H := HS.cnd_t h_19 H
              try simp -implicitDefEqProofs +decide (maxSteps := 2000000) [-selQ_sel, hokQ_of, h_1, h_2, h_3, h_4, h_5, h_6, h_7, h_8, h_9, k_10, h_11, h_12, h_13, h_14, h_15, h_16, h_17, h_18, h_19]
              have hr := (HS.some H).symm; subst hr
              refine Hid.mk ⟨_, Wk.refl _, ?_⟩
              try simp -implicitDefEqProofs +decide (maxSteps := 2000000) [-selQ_sel, hokQ_of, h_1, h_2, h_3, h_4, h_5, h_6, h_7, h_8, h_9, k_10, h_11, h_12, h_13, h_14, h_15, h_16, h_17, h_18, h_19]
            · replace H := HS.cnd_f h_19 H
              try simp -implicitDefEqProofs +decide (maxSteps := 2000000) [-selQ_sel, hokQ_of, h_1, h_2, h_3, h_4, h_5, h_6, h_7, h_8, h_9, k_10, h_11, h_12, h_13, h_14, h_15, h_16, h_17, h_18, h_19]
              obtain ⟨v21, h_20, H⟩ := HS.bnd H
              try simp -implicitDefEqProofs +decide (maxSteps := 2000000) [-selQ_sel, hokQ_of, h_1, h_2, h_3, h_4, h_5, h_6, h_7, h_8, h_9, k_10, h_11, h_12, h_13, h_14, h_15, h_16, h_17, h_18, h_19, h_20]
              refine Hid.selQ (fun h_21 => ?_) (fun h_21 => ?_)
              · replace H := HS.cnd_t h_21 H
                try simp -implicitDefEqProofs +decide (maxSteps := 2000000) [-selQ_sel, hokQ_of, h_1, h_2, h_3, h_4, h_5, h_6, h_7, h_8, h_9, k_10, h_11, h_12, h_13, h_14, h_15, h_16, h_17, h_18, h_19, h_20, h_21]
                obtain ⟨v22, h_22, H⟩ := HS.bnd H
                try simp -implicitDefEqProofs +decide (maxSteps := 2000000) [-selQ_sel, hokQ_of, h_1, h_2, h_3, h_4, h_5, h_6, h_7, h_8, h_9, k_10, h_11, h_12, h_13, h_14, h_15, h_16, h_17, h_18, h_19, h_20, h_21, h_22]
                refine Hid.selQ (fun h_23 => ?_) (fun h_23 => ?_)
                · replace H := HS.cnd_t h_23 H
                  try simp -implicitDefEqProofs +decide (maxSteps := 2000000) [-selQ_sel, hokQ_of, h_1, h_2, h_3, h_4, h_5, h_6, h_7, h_8, h_9, k_10, h_11, h_12, h_13, h_14, h_15, h_16, h_17, h_18, h_19, h_20, h_21, h_22, h_23]
                  refine Hid.selQ (fun h_24 => ?_) (fun h_24 => ?_)
                  · replace H := HS.cnd_t h_24 H
                    try simp -implicitDefEqProofs +decide (maxSteps := 2000000) [-selQ_sel, hokQ_of, h_1, h_2, h_3, h_4, h_5, h_6, h_7, h_8, h_9, k_10, h_11, h_12, h_13, h_14, h_15, h_16, h_17, h_18, h_19, h_20, h_21, h_22, h_23, h_24]
                    refine Hid.brV (fun h_25 => ?_) (fun h_25 => ?_)
                    · replace H := HS.cnd_t h_25 H
                      try simp -implicitDefEqProofs +decide (maxSteps := 2000000) [-selQ_sel, hokQ_of, h_1, h_2, h_3, h_4, h_5, h_6, h_7, h_8, h_9, k_10, h_11, h_12, h_13, h_14, h_15, h_16, h_17, h_18, h_19, h_20, h_21, h_22, h_23, h_24, h_25]
                      obtain ⟨q, h_26, H⟩ := HS.bnd H
                      refine Hid.mk (Tr.weak (s' := (laws_FnCaches_l0_S v2 v7 v8) 0) (Wk.ofk [0, 3] hk (by rfl) (by simp -implicitDefEqProofs [laws_FnCaches_l0_S, h_1, h_2, h_3, h_4, h_5, h_6, h_7, h_8, h_9, k_10, h_11, h_12, h_13, h_14, h_15, h_16, h_17, h_18, h_19, h_20, h_21, h_22, h_23, h_24, h_25]) (by simp -implicitDefEqProofs [laws_FnCaches_l0_S, h_1, h_2, h_3, h_4, h_5, h_6, h_7, h_8, h_9, k_10, h_11, h_12, h_13, h_14, h_15, h_16, h_17, h_18, h_19, h_20, h_21, h_22, h_23, h_24, h_25])) ?_)
                      refine wp_loop_of (S := (laws_FnCaches_l0_S v2 v7 v8)) (f := (laws_FnCaches_l0 v2 v7 v8)) (xt := (laws_FnCaches_l0_X v2 v7 v8)) ?_ ?_ h_26 ?_
                      · intro q; rcases q with ⟨⟩ | ⟨⟩ <;> simp [laws_FnCaches_l0_X]
                      · clear H h_26 q
                        rintro x31 o R hf hR
                        have H : HS (laws_FnCaches_l0 v2 v7 v8 x31) o := hf
                        clear hf; unfold laws_FnCaches_l0 at H
                        try simp -implicitDefEqProofs at H
                        refine Tr.of_vc (cl := tabC [(38, laws_big_x), (39, spec_DrawRightCache_x), (40, spec_DrawMasks_x), (41, spec_DrawPlaces_x), (32, impl_Remember_x), (36, impl_Recall_x), (23, impl_Forget_x), (42, impl_CacheOk_x), (43, laws_sameMask_x)]) (E := E0) [] (tab_cons k_laws_big (tab_cons k_spec_DrawRightCache (tab_cons k_spec_DrawMasks (tab_cons k_spec_DrawPlaces (tab_cons k_impl_Remember (tab_cons k_impl_Recall (tab_cons k_impl_Forget (tab_cons k_impl_CacheOk (tab_cons k_laws_sameMask tab_nil))))))))) hm (by rw [hn]; decide +kernel) ?_
                        try simp -implicitDefEqProofs +decide (maxSteps := 2000000) [-selQ_sel, hokQ_of, laws_FnCaches_l0_S]
                        refine Hid.brV (fun h_27 => ?_) (fun h_27 => ?_)
                        · replace H := HS.cnd_t h_27 H
                          try simp -implicitDefEqProofs +decide (maxSteps := 2000000) [-selQ_sel, hokQ_of, h_27]
                          have hr := (HS.some H).symm; subst hr
                          exact Hid.mk ⟨(laws_FnCaches_l0_X v2 v7 v8 (.inl ())).2, Wk.ofk [0] hk (by rfl) (by simp -implicitDefEqProofs [laws_FnCaches_l0_X, h_27]) (by simp -implicitDefEqProofs [laws_FnCaches_l0_X, h_27]), hR⟩
                        · replace H := HS.cnd_f h_27 H
                          try simp -implicitDefEqProofs +decide (maxSteps := 2000000) [-selQ_sel, hokQ_of, h_27]
                          obtain ⟨v32, h_28, H⟩ := HS.bnd H
                          try simp -implicitDefEqProofs +decide (maxSteps := 2000000) [-selQ_sel, hokQ_of, h_27, h_28]
                          obtain ⟨⟨w34, w35, w36⟩, h_29, H⟩ := HS.bnd H
                          dsimp only at H
                          try simp -implicitDefEqProofs +decide (maxSteps := 2000000) [-selQ_sel, hokQ_of, h_27, h_28, h_29]
                          refine Hid.selQ (fun h_30 => ?_) (fun h_30 => ?_)
                          · replace H := HS.cnd_t h_30 H
                            try simp -implicitDefEqProofs +decide (maxSteps := 2000000) [-selQ_sel, hokQ_of, h_27, h_28, h_29, h_30]
                            refine Hid.selQ (fun h_31 => ?_) (fun h_31 => ?_)
                            · replace H := HS.cnd_t h_31 H
                              try simp -implicitDefEqProofs +decide (maxSteps := 2000000) [-selQ_sel, hokQ_of, h_27, h_28, h_29, h_30, h_31]
                              obtain ⟨v37, h_32, H⟩ := HS.bnd H
                              try simp -implicitDefEqProofs +decide (maxSteps := 2000000) [-selQ_sel, hokQ_of, h_27, h_28, h_29, h_30, h_31, h_32]
                              refine Hid.brV (fun h_33 => ?_) (fun h_33 => ?_)
                              · replace H := HS.cnd_t h_33 H
                                try simp -implicitDefEqProofs +decide (maxSteps := 2000000) [-selQ_sel, hokQ_of, h_27, h_28, h_29, h_30, h_31, h_32, h_33]
                                have hr := (HS.some H).symm; subst hr
                                exact Hid.mk ⟨laws_FnCaches_l0_S v2 v7 v8 (IntKind.i64.wrap (x31 + 1)), Wk.ofk [0, 1] hk (by rfl) (by simp -implicitDefEqProofs [laws_FnCaches_l0_S, h_27, h_28, h_29, h_30, h_31, h_32, h_33]) (by simp -implicitDefEqProofs [laws_FnCaches_l0_S, h_27, h_28, h_29, h_30, h_31, h_32, h_33]), hR⟩
                              · replace H := HS.cnd_f h_33 H
                                try simp -implicitDefEqProofs +decide (maxSteps := 2000000) [-selQ_sel, hokQ_of, h_27, h_28, h_29, h_30, h_31, h_32, h_33]
                                have hr := (HS.some H).symm; subst hr
                                exact Hid.mk ⟨(laws_FnCaches_l0_X v2 v7 v8 (.inr ())).2, Wk.ofk [] hk (by rfl) (by simp -implicitDefEqProofs [laws_FnCaches_l0_X, h_27, h_28, h_29, h_30, h_31, h_32, h_33]) (by simp -implicitDefEqProofs [laws_FnCaches_l0_X, h_27, h_28, h_29, h_30, h_31, h_32, h_33]), hR⟩
                            · replace H := HS.cnd_f h_31 H
                              try simp -implicitDefEqProofs +decide (maxSteps := 2000000) [-selQ_sel, hokQ_of, h_27, h_28, h_29, h_30, h_31]
                              obtain ⟨v38, h_34, H⟩ := HS.bnd H
                              try simp -implicitDefEqProofs +decide (maxSteps := 2000000) [-selQ_sel, hokQ_of, h_27, h_28, h_29, h_30, h_31, h_34]
                              refine Hid.selQ (fun h_35 => ?_) (fun h_35 => ?_)
                              · replace H := HS.cnd_t h_35 H
                                try simp -implicitDefEqProofs +decide (maxSteps := 2000000) [-selQ_sel, hokQ_of, h_27, h_28, h_29, h_30, h_31, h_34, h_35]
                                obtain ⟨v39, h_36, H⟩ := HS.bnd H
                                try simp -implicitDefEqProofs +decide (maxSteps := 2000000) [-selQ_sel, hokQ_of, h_27, h_28, h_29, h_30, h_31, h_34, h_35, h_36]
                                refine Hid.brV (fun h_37 => ?_) (fun h_37 => ?_)
                                · replace H := HS.cnd_t h_37 H
                                  try simp -implicitDefEqProofs +decide (maxSteps := 2000000) [-selQ_sel, hokQ_of, h_27, h_28, h_29, h_30, h_31, h_34, h_35, h_36, h_37]
                                  have hr := (HS.some H).symm; subst hr
                                  exact Hid.mk ⟨laws_FnCaches_l0_S v2 v7 v8 (IntKind.i64.wrap (x31 + 1)), Wk.ofk [0, 1] hk (by rfl) (by simp -implicitDefEqProofs [laws_FnCaches_l0_S, h_27, h_28, h_29, h_30, h_31, h_34, h_35, h_36, h_37]) (by simp -implicitDefEqProofs [laws_FnCaches_l0_S, h_27, h_28, h_29, h_30, h_31, h_34, h_35, h_36, h_37]), hR⟩
                                · replace H := HS.cnd_f h_37 H
                                  try simp -implicitDefEqProofs +decide (maxSteps := 2000000) [-selQ_sel, hokQ_of, h_27, h_28, h_29, h_30, h_31, h_34, h_35, h_36, h_37]
                                  have hr := (HS.some H).symm; subst hr
                                  exact Hid.mk ⟨(laws_FnCaches_l0_X v2 v7 v8 (.inr ())).2, Wk.ofk [] hk (by rfl) (by simp -implicitDefEqProofs [laws_FnCaches_l0_X, h_27, h_28, h_29, h_30, h_31, h_34, h_35, h_36, h_37]) (by simp -implicitDefEqProofs [laws_FnCaches_l0_X, h_27, h_28, h_29, h_30, h_31, h_34, h_35, h_36, h_37]), hR⟩
                              · replace H := HS.cnd_f h_35 H
                                try simp -implicitDefEqProofs +decide (maxSteps := 2000000) [-selQ_sel, hokQ_of, h_27, h_28, h_29, h_30, h_31, h_34, h_35]
                                have hr := (HS.some H).symm; subst hr
                                exact Hid.mk ⟨(laws_FnCaches_l0_X v2 v7 v8 (.inr ())).2, Wk.ofk [] hk (by rfl) (by simp -implicitDefEqProofs [laws_FnCaches_l0_X, h_27, h_28, h_29, h_30, h_31, h_34, h_35]) (by simp -implicitDefEqProofs [laws_FnCaches_l0_X, h_27, h_28, h_29, h_30, h_31, h_34, h_35]), hR⟩
                          · replace H := HS.cnd_f h_30 H
                            try simp -implicitDefEqProofs +decide (maxSteps := 2000000) [-selQ_sel, hokQ_of, h_27, h_28, h_29, h_30]
                            refine Hid.brV (fun h_38 => ?_) (fun h_38 => ?_)
                            · replace H := HS.cnd_t h_38 H
                              try simp -implicitDefEqProofs +decide (maxSteps := 2000000) [-selQ_sel, hokQ_of, h_27, h_28, h_29, h_30, h_38]
                              have hr := (HS.some H).symm; subst hr
                              exact Hid.mk ⟨laws_FnCaches_l0_S v2 v7 v8 (IntKind.i64.wrap (x31 + 1)), Wk.ofk [0, 1] hk (by rfl) (by simp -implicitDefEqProofs [laws_FnCaches_l0_S, h_27, h_28, h_29, h_30, h_38]) (by simp -implicitDefEqProofs [laws_FnCaches_l0_S, h_27, h_28, h_29, h_30, h_38]), hR⟩
                            · replace H := HS.cnd_f h_38 H
                              try simp -implicitDefEqProofs +decide (maxSteps := 2000000) [-selQ_sel, hokQ_of, h_27, h_28, h_29, h_30, h_38]
                              have hr := (HS.some H).symm; subst hr
                              exact Hid.mk ⟨(laws_FnCaches_l0_X v2 v7 v8 (.inr ())).2, Wk.ofk [] hk (by rfl) (by simp -implicitDefEqProofs [laws_FnCaches_l0_X, h_27, h_28, h_29, h_30, h_38]) (by simp -implicitDefEqProofs [laws_FnCaches_l0_X, h_27, h_28, h_29, h_30, h_38]), hR⟩
                      · rcases q with ⟨⟩ | ⟨⟩
                        · dsimp only at H
                          try simp -implicitDefEqProofs +decide (maxSteps := 2000000) [-selQ_sel, hokQ_of, h_1, h_2, h_3, h_4, h_5, h_6, h_7, h_8, h_9, k_10, h_11, h_12, h_13, h_14, h_15, h_16, h_17, h_18, h_19, h_20, h_21, h_22, h_23, h_24, h_25, laws_FnCaches_l0_X]
                          obtain ⟨v40, h_39, H⟩ := HS.bnd H
                          try simp -implicitDefEqProofs +decide (maxSteps := 2000000) [-selQ_sel, hokQ_of, h_1, h_2, h_3, h_4, h_5, h_6, h_7, h_8, h_9, k_10, h_11, h_12, h_13, h_14, h_15, h_16, h_17, h_18, h_19, h_20, h_21, h_22, h_23, h_24, h_25, h_39]
                          have hr := (HS.some H).symm; subst hr
                          refine Hid.mk ⟨_, Wk.refl _, ?_⟩
                          try simp -implicitDefEqProofs +decide (maxSteps := 2000000) [-selQ_sel, hokQ_of, h_1, h_2, h_3, h_4, h_5, h_6, h_7, h_8, h_9, k_10, h_11, h_12, h_13, h_14, h_15, h_16, h_17, h_18, h_19, h_20, h_21, h_22, h_23, h_24, h_25, h_39]
                        · dsimp only at H
                          try simp -implicitDefEqProofs +decide (maxSteps := 2000000) [-selQ_sel, hokQ_of, h_1, h_2, h_3, h_4, h_5, h_6, h_7, h_8, h_9, k_10, h_11, h_12, h_13, h_14, h_15, h_16, h_17, h_18, h_19, h_20, h_21, h_22, h_23, h_24, h_25, laws_FnCaches_l0_X]
                          have hr := (HS.some H).symm; subst hr
                          refine Hid.mk ⟨_, Wk.refl _, ?_⟩
                          try simp -implicitDefEqProofs +decide (maxSteps := 2000000) [-selQ_sel, hokQ_of, h_1, h_2, h_3, h_4, h_5, h_6, h_7, h_8, h_9, k_10, h_11, h_12, h_13, h_14, h_15, h_16, h_17, h_18, h_19, h_20, h_21, h_22, h_23, h_24, h_25]
                    · replace H := HS.cnd_f h_25 H
                      try simp -implicitDefEqProofs +decide (maxSteps := 2000000) [-selQ_sel, hokQ_of, h_1, h_2, h_3, h_4, h_5, h_6, h_7, h_8, h_9, k_10, h_11, h_12, h_13, h_14, h_15, h_16, h_17, h_18, h_19, h_20, h_21, h_22, h_23, h_24, h_25]
                      have hr := (HS.some H).symm; subst hr
                      refine Hid.mk ⟨_, Wk.refl _, ?_⟩
                      try simp -implicitDefEqProofs +decide (maxSteps := 2000000) [-selQ_sel, hokQ_of, h_1, h_2, h_3, h_4, h_5, h_6, h_7, h_8, h_9, k_10, h_11, h_12, h_13, h_14, h_15, h_16, h_17, h_18, h_19, h_20, h_21, h_22, h_23, h_24, h_25]
                  · replace H := HS.cnd_f h_24 H
                    try simp -implicitDefEqProofs +decide (maxSteps := 2000000) [-selQ_sel, hokQ_of, h_1, h_2, h_3, h_4, h_5, h_6, h_7, h_8, h_9, k_10, h_11, h_12, h_13, h_14, h_15, h_16, h_17, h_18, h_19, h_20, h_21, h_22, h_23, h_24]
                    have hr := (HS.some H).symm; subst hr
                    refine Hid.mk ⟨_, Wk.refl _, ?_⟩
                    try simp -implicitDefEqProofs +decide (maxSteps := 2000000) [-selQ_sel, hokQ_of, h_1, h_2, h_3, h_4, h_5, h_6, h_7, h_8, h_9, k_10, h_11, h_12, h_13, h_14, h_15, h_16, h_17, h_18, h_19, h_20, h_21, h_22, h_23, h_24]
                · replace H := HS.cnd_f h_23 H
                  try simp -implicitDefEqProofs +decide (maxSteps := 2000000) [-selQ_sel, hokQ_of, h_1, h_2, h_3, h_4, h_5, h_6, h_7, h_8, h_9, k_10, h_11, h_12, h_13, h_14, h_15, h_16, h_17, h_18, h_19, h_20, h_21, h_22, h_23]
                  have hr := (HS.some H).symm; subst hr
                  refine Hid.mk ⟨_, Wk.refl _, ?_⟩
                  try simp -implicitDefEqProofs +decide (maxSteps := 2000000) [-selQ_sel, hokQ_of, h_1, h_2, h_3, h_4, h_5, h_6, h_7, h_8, h_9, k_10, h_11, h_12, h_13, h_14, h_15, h_16, h_17, h_18, h_19, h_20, h_21, h_22, h_23]
              · replace H := HS.cnd_f h_21 H
                try simp -implicitDefEqProofs +decide (maxSteps := 2000000) [-selQ_sel, hokQ_of, h_1, h_2, h_3, h_4, h_5, h_6, h_7, h_8, h_9, k_10, h_11, h_12, h_13, h_14, h_15, h_16, h_17, h_18, h_19, h_20, h_21]
                have hr := (HS.some H).symm; subst hr
                refine Hid.mk ⟨_, Wk.refl _, ?_⟩
                try simp -implicitDefEqProofs +decide (maxSteps := 2000000) [-selQ_sel, hokQ_of, h_1, h_2, h_3, h_4, h_5, h_6, h_7, h_8, h_9, k_10, h_11, h_12, h_13, h_14, h_15, h_16, h_17, h_18, h_19, h_20, h_21]
          · replace H := HS.cnd_f h_18 H
            try simp -implicitDefEqProofs +decide (maxSteps := 2000000) [-selQ_sel, hokQ_of, h_1, h_2, h_3, h_4, h_5, h_6, h_7, h_8, h_9, k_10, h_11, h_12, h_13, h_14, h_15, h_16, h_17, h_18]
            have hr := (HS.some H).symm; subst hr
            refine Hid.mk ⟨_, Wk.refl _, ?_⟩
            try simp -implicitDefEqProofs +decide (maxSteps := 2000000) [-selQ_sel, hokQ_of, h_1, h_2, h_3, h_4, h_5, h_6, h_7, h_8, h_9, k_10, h_11, h_12, h_13, h_14, h_15, h_16, h_17, h_18]
        · replace H := HS.cnd_f h_17 H
          try simp -implicitDefEqProofs +decide (maxSteps := 2000000) [-selQ_sel, hokQ_of, h_1, h_2, h_3, h_4, h_5, h_6, h_7, h_8, h_9, k_10, h_11, h_12, h_13, h_14, h_15, h_16, h_17]
          have hr := (HS.some H).symm; subst hr
          refine Hid.mk ⟨_, Wk.refl _, ?_⟩
          try simp -implicitDefEqProofs +decide (maxSteps := 2000000) [-selQ_sel, hokQ_of, h_1, h_2, h_3, h_4, h_5, h_6, h_7, h_8, h_9, k_10, h_11, h_12, h_13, h_14, h_15, h_16, h_17]
      · replace H := HS.cnd_f h_15 H
        try simp -implicitDefEqProofs +decide (maxSteps := 2000000) [-selQ_sel, hokQ_of, h_1, h_2, h_3, h_4, h_5, h_6, h_7, h_8, h_9, k_10, h_11, h_12, h_13, h_14, h_15]
        have hr := (HS.some H).symm; subst hr
        refine Hid.mk ⟨_, Wk.refl _, ?_⟩
        try simp -implicitDefEqProofs +decide (maxSteps := 2000000) [-selQ_sel, hokQ_of, h_1, h_2, h_3, h_4, h_5, h_6, h_7, h_8, h_9, k_10, h_11, h_12, h_13, h_14, h_15]
    · replace H := HS.cnd_f h_13 H
      try simp -implicitDefEqProofs +decide (maxSteps := 2000000) [-selQ_sel, hokQ_of, h_1, h_2, h_3, h_4, h_5, h_6, h_7, h_8, h_9, k_10, h_11, h_12, h_13]
      have hr := (HS.some H).symm; subst hr
      refine Hid.mk ⟨_, Wk.refl _, ?_⟩
      try simp -implicitDefEqProofs +decide (maxSteps := 2000000) [-selQ_sel, hokQ_of, h_1, h_2, h_3, h_4, h_5, h_6, h_7, h_8, h_9, k_10, h_11, h_12, h_13]
theorem slices_Insert_Kept_shift (mixed : Try.prog.follows .mixedOrders = true) (b n c i vb m vc : Nat) (cur : Array Value) (te : TypeId) (vs : List Value) (va : Array Value) (tv : TypeId) (w : World) (hi : i < n) (hm : 0 < m) (hroom : n + m ≤ c) (hbig : (n + m) * 64 ≤ 17592186044416) (hvb : vb ≠ b)
    (hh : w.heap[b]? = some (.cells cur te (0, 0))) (hsz : cur.size = c * 6) (hvl : vs.length = m * 6) (hvh : w.heap[vb]? = some (.cells va tv (0, 0)))
    (hvs : ∀ j v, vs[j]? = some v → w.cell? ⟨vb, 0 + j, none⟩ = some v) (h1c : ∀ v ∈ mid 6 cur.toList i n, v.oneCell' = true) (h1v : ∀ v ∈ vs, v.oneCell' = true) :
    Calls Try.prog 164 #[.slice (some ⟨b, 0, none⟩) n c, .int .i64 i, .slice (some ⟨vb, 0, none⟩) m vc] w fun e w' =>
      e = .returned (.slice (some ⟨b, 0, none⟩) (n + m) c) ∧ ∃ w1, w1 = w.drew.setRow b (spl1 6 cur.toList i m n).toArray ∧ w' = w1.setRow b (spl2 6 cur.toList i m n vs).toArray := by
  have uS : ∀ w, (underlying 38).run Try.prog w = .ok (.slice 73) w := fun w => run_underlying (by kernel_rfl) w
  have zE : ∀ w, (sizeOf 73).run Try.prog w = .ok 6 w := fun w => rfl
  have hz1 : ¬ ((m : Int) = 0) := by omega
  have hz2 : ¬ ((i : Int) = (n : Int)) := by omega
  have hw1 : IntKind.i64.wrap ((i : Int) + (m : Int)) = (i : Int) + (m : Int) := by rw [IntKind.wrap_i64]; omega
  have hw2 : IntKind.i64.wrap ((n : Int) + (m : Int)) = (n : Int) + (m : Int) := by rw [IntKind.wrap_i64]; omega
  have hb1 : (0 : Int) ≤ (i : Int) + (m : Int) := by omega
  have hin : i ≤ n := by omega
  have htn : ((i : Int) + (m : Int)).toNat = i + m := by omega
  have htn2 : ((n : Int) + (m : Int)).toNat = n + m := by omega
  have hb2 : ¬ (c = i + m) := by omega
  have hb3 : (i : Int) ≤ (n : Int) + (m : Int) := by omega
  have hb4 : ¬ (c = i) := by omega
  have hov : ∀ lb cb, (callFunc 207 #[.slice (some ⟨vb, 0, none⟩) m vc, .slice (some ⟨b, (i + m) * 6, none⟩) lb cb]).run Try.prog w = .ok (.value (.bool false)) w := fun lb cb => by
    rw [run_callFunc_extern Try.func207 (by kernel_rfl) (by kernel_rfl) (by kernel_rfl) (e := Extern.SlicesOverlaps.overlaps #[38, 38] #[4]) (by kernel_rfl),
      Lib.run_overlaps_apart w 38 4 73 (by kernel_rfl) 6 zE ⟨vb, 0, none⟩ ⟨b, (i + m) * 6, none⟩ m vc lb cb hvb tv te va.size cur.size (by simp [World.shape?, hvh]) (by simp [World.shape?, hh]) (by rw [hsz]; omega) (by simp [World.frozen?, hvh]) (by simp [World.frozen?, hvh])]
    rfl
  have hcl : cur.toList.length = c * 6 := by simpa using hsz
  have hml : (mid 6 cur.toList i n).length = (n - i) * 6 := mid_len (c := c) (by omega) hcl
  have hs1 : (spl1 6 cur.toList i m n).length = c * 6 := by
    simp only [spl1, List.length_append, List.length_take, List.length_drop, hml, hcl]; omega
  obtain ⟨i0, hi0, hs0⟩ : ∃ i0, Try.prog.info? 73 = some i0 ∧ i0.size = 6 := ⟨_, rfl, rfl⟩
  have hcp1 : ∀ (W : World), W.heap[b]? = some (.cells cur te (0, 0)) → ∀ ty dc sc, (Builtin.copy_ #[38, 38] ty #[.slice (some ⟨b, (i + m) * 6, none⟩) (n + m - (i + m)) dc, .slice (some ⟨b, i * 6, none⟩) (n + m - i) sc]).run Try.prog W = .ok (goInt (n - i : Nat)) (W.setRow b (spl1 6 cur.toList i m n).toArray) := fun W hW ty dc sc => by
    refine run_copy_at (i := i0) W (elem := 73) (by kernel_rfl) hi0 (by simp only [Nat.min_def]; split <;> omega) ?_ hW (by rw [hml]; omega) h1c
    rw [hs0]
    refine run_firstCells_some W 6 (n - i) ⟨b, i * 6, none⟩ _ _ _ hml (fun j v hj => ?_)
    rw [Addr.add_lit, cell_at hW]
    unfold mid at hj
    rw [List.getElem?_take] at hj
    split at hj
    · rw [List.getElem?_drop] at hj; simpa using hj
    · cases hj
  have hcp2 : ∀ (W : World), W.heap[b]? = some (.cells (spl1 6 cur.toList i m n).toArray te (0, 0)) → (∀ j v, vs[j]? = some v → W.cell? ⟨vb, 0 + j, none⟩ = some v) → ∀ ty dc, (Builtin.copy_ #[38, 38] ty #[.slice (some ⟨b, i * 6, none⟩) (n + m - i) dc, .slice (some ⟨vb, 0, none⟩) m vc]).run Try.prog W = .ok (goInt m) (W.setRow b (spl2 6 cur.toList i m n vs).toArray) := fun W hW hv ty dc => by
    refine run_copy_at (i := i0) W (elem := 73) (by kernel_rfl) hi0 (by simp only [Nat.min_def]; split <;> omega) ?_ hW (by rw [List.size_toArray, hvl]; have h9 := hs1; unfold spl1 at h9; rw [h9]; have : (i + m) * 6 ≤ c * 6 := Nat.mul_le_mul_right _ (by omega); omega) h1v
    rw [hs0]
    exact run_firstCells_some W 6 m ⟨vb, 0, none⟩ _ _ _ hvl (fun j v hj => by rw [Addr.add_lit]; exact hv j v hj)
  have hWh : (w.drew.setRow b (spl1 6 cur.toList i m n).toArray).heap[b]? = some (.cells (spl1 6 cur.toList i m n).toArray te (0, 0)) := setRow_heap' (w := w.drew) hh _
  have hcp1' := hcp1 w.drew hh
  have hvs' : ∀ j v, vs[j]? = some v → (w.drew.setRow b (spl1 6 cur.toList i m n).toArray).cell? ⟨vb, 0 + j, none⟩ = some v := fun j v hj => by
    rw [← hvs j v hj]
    simp only [World.cell?]
    rw [show (w.drew.setRow b (spl1 6 cur.toList i m n).toArray).heap[vb]? = w.heap[vb]? from setRow_other w.drew b _ hvb]
  have e2 := hcp2 _ hWh hvs'
  clear hcp1 hcp2 hWh hvs'
  go_enter Try.func164, Try.ntmps164
  go_wp2_with (simp only [hov])
  go_region_law_o (refine step_copy_run rfl _ _ 38 38 rfl _ _ (by simp [Act.eval, Act.put]) (by simp [Act.eval, Act.put]) (hcp1' _ _ _) ?_)
  clear hcp1' hov
  go_wp2
  go_ret
  exact ⟨rfl, _, rfl, rfl⟩
theorem slices_Insert_Kept_grow (mixed : Try.prog.follows .mixedOrders = true) (b n c i vb m vc : Nat) (cur : Array Value) (te : TypeId) (vs : List Value) (w : World) (hi : i < n) (hm : 0 < m) (hnc : n ≤ c) (hroom : c < n + m) (hbig : (n + m) * 64 ≤ 17592186044416)
    (hh : w.heap[b]? = some (.cells cur te (0, 0))) (hsz : cur.size = c * 6) (hvl : vs.length = m * 6)
    (hvs : ∀ j v, vs[j]? = some v → w.cell? ⟨vb, 0 + j, none⟩ = some v) (h1c : ∀ v ∈ mid 6 cur.toList i n, v.oneCell' = true) (h1v : ∀ v ∈ vs, v.oneCell' = true) :
    Calls Try.prog 164 #[.slice (some ⟨b, 0, none⟩) n c, .int .i64 i, .slice (some ⟨vb, 0, none⟩) m vc] w fun e w' => ∃ (te : TypeId) (G : Nat) (ROW : Array Value) (w1 w2 : World),
      e = .returned (.slice (some ⟨w.heap.size, 0, none⟩) (n + m) G) ∧ n + m ≤ G ∧ ROW.size = G * 6 ∧ ROW.toList.take (i * 6) = cur.toList.take (i * 6) ∧
      w1 = (w.alloc (.cells ROW te)).drew ∧ w2 = (w1.setRow w.heap.size (gr1 6 ROW.toList i vs).toArray).drew ∧ w' = w2.setRow w.heap.size (gr2 6 ROW.toList cur.toList i m n vs).toArray := by
  have uS : ∀ w, (underlying 38).run Try.prog w = .ok (.slice 73) w := fun w => run_underlying (by kernel_rfl) w
  have zE : ∀ w, (sizeOf 73).run Try.prog w = .ok 6 w := fun w => rfl
  obtain ⟨i0, hi0, hs0, hb0, z, hz, hzc⟩ : ∃ i0, Try.prog.info? 73 = some i0 ∧ i0.size = 6 ∧ i0.bytes = 64 ∧ ∃ z, i0.zero = some z ∧ z.cells.size = 6 := ⟨_, rfl, rfl, rfl, _, rfl, rfl⟩
  have hz1 : ¬ ((m : Int) = 0) := by omega
  have hz2 : ¬ ((i : Int) = (n : Int)) := by omega
  have hz3 : (c : Int) < (n : Int) + (m : Int) := by omega
  have hkk : (n : Int) + (m : Int) - (i : Int) = ((n + m - i : Nat) : Int) := by omega
  have hik : i + (n + m - i) = n + m := by omega
  have hw1 : IntKind.i64.wrap ((i : Int) + (m : Int)) = (i : Int) + (m : Int) := by rw [IntKind.wrap_i64]; omega
  have hw2 : IntKind.i64.wrap ((n : Int) + (m : Int)) = (n : Int) + (m : Int) := by rw [IntKind.wrap_i64]; omega
  have hw3 : IntKind.i64.wrap ((n : Int) + (m : Int) - (i : Int)) = (n : Int) + (m : Int) - (i : Int) := by rw [IntKind.wrap_i64]; omega
  have hb1 : (0 : Int) ≤ (i : Int) + (m : Int) := by omega
  have hin : i ≤ n := by omega
  have htn : ((i : Int) + (m : Int)).toNat = i + m := by omega
  have hb3 : (i : Int) ≤ (n : Int) := by omega
  have hcl : cur.toList.length = c * 6 := by simpa using hsz
  have hml : (mid 6 cur.toList i n).length = (n - i) * 6 := mid_len (c := c) (by omega) hcl
  have hold : (Builtin.firstCells i0.size i (.slice (some ⟨b, 0, none⟩) i c)).run Try.prog w.drew = .ok (cur.toList.take (i * 6)).toArray w.drew := by
    rw [hs0]
    refine run_firstCells_some w.drew 6 i ⟨b, 0, none⟩ i c (cur.toList.take (i * 6)) (by rw [List.length_take, hcl]; have : i * 6 ≤ c * 6 := Nat.mul_le_mul_right _ (by omega); omega) fun j v hj => ?_
    rw [Addr.add_lit, cell_at (w := w.drew) hh, Nat.zero_add]
    rw [List.getElem?_take] at hj
    split at hj
    · simpa using hj
    · cases hj
  obtain ⟨G, hG⟩ : ∃ G, G = grownCap w (n + m) c 73 := ⟨_, rfl⟩
  obtain ⟨ROW, hROW⟩ : ∃ ROW : Array Value, ROW = (cur.toList.take (i * 6)).toArray ++ Builtin.zeroCells z.cells (n + m - i) ++ Builtin.zeroCells z.cells (G - (n + m)) := ⟨_, rfl⟩
  have hrz : ∀ ty, (Builtin.append_ #[38, 3] ty #[.slice (some ⟨b, 0, none⟩) i c, .int .i64 ((n : Int) + (m : Int) - (i : Int))]).run Try.prog w = .ok (.slice (some ⟨w.heap.size, 0, none⟩) (n + m) G) (w.drew.alloc (.cells ROW 73)) := fun ty => by
    have h := Lib.run_append_grow_zeros w 38 3 ty 73 i0 z .i64 .i64 (by kernel_rfl) (by kernel_rfl) hi0 hz (some ⟨b, 0, none⟩) i c (cur.toList.take (i * 6)) hold (n + m - i) (by omega) (by omega) (by omega) (by omega) (by rw [hb0]; omega) (by rw [hb0, hik]; exact fit_of (by unfold room; omega) hroom (by omega))
    rw [hik] at h
    rw [hkk, hROW, hG]
    exact h
  have hGn : n + m ≤ G := by rw [hG]; unfold grownCap; simp [Question.cut]
  have hG63 : G ≤ 9223372036854775807 := by
    have := grownCap_le_maxLen w (n + m) c 73 (by unfold maxLen; omega)
    rw [← hG] at this
    unfold maxLen at this
    omega
  have hRs : ROW.size = G * 6 := by
    have : i * 6 ≤ c * 6 := Nat.mul_le_mul_right _ (by omega)
    rw [hROW]; simp only [Array.size_append, List.size_toArray, List.length_take, hcl, Builtin.zeroCells, Array.size_map, Array.size_range, hzc]; omega
  have hRt : ROW.toList.take (i * 6) = cur.toList.take (i * 6) := by
    have : i * 6 ≤ c * 6 := Nat.mul_le_mul_right _ (by omega)
    have hl : (cur.toList.take (i * 6)).length = i * 6 := by rw [List.length_take, hcl]; omega
    rw [hROW]; simp only [Array.toList_append, List.append_assoc]
    rw [List.take_append_of_le_length (by omega)]; exact List.take_of_length_le (by omega)
  have hGi : ¬ (G = i) := by omega
  have hGim : ¬ (G = i + m) := by omega
  have hci : ¬ (c = i) := by omega
  clear hROW hG
  have hg1 : (gr1 6 ROW.toList i vs).length = G * 6 := by
    simp only [gr1, List.length_append, List.length_take, List.length_drop, Array.length_toList, hRs, hvl]; omega
  have hN : ∀ W : World, (W.alloc (.cells ROW 73)).heap[W.heap.size]? = some (.cells ROW 73 (0, 0)) := fun W => by show (W.heap.push _)[W.heap.size]? = _; simp
  have hbw : b < w.heap.size := (Array.getElem?_eq_some_iff.1 hh).1
  have hcpA : ∀ (W : World), W.heap[w.heap.size]? = some (.cells ROW 73 (0, 0)) → (∀ j v, vs[j]? = some v → W.cell? ⟨vb, 0 + j, none⟩ = some v) → ∀ ty dc, (Builtin.copy_ #[38, 38] ty #[.slice (some ⟨w.heap.size, i * 6, none⟩) (n + m - i) dc, .slice (some ⟨vb, 0, none⟩) m vc]).run Try.prog W = .ok (goInt m) (W.setRow w.heap.size (gr1 6 ROW.toList i vs).toArray) := fun W hW hv ty dc => by
    refine run_copy_at (i := i0) W (elem := 73) (by kernel_rfl) hi0 (by simp only [Nat.min_def]; split <;> omega) ?_ hW (by rw [hvl, hRs]; omega) h1v
    rw [hs0]
    exact run_firstCells_some W 6 m ⟨vb, 0, none⟩ _ _ _ hvl (fun j v hj => by rw [Addr.add_lit]; exact hv j v hj)
  have hcpB : ∀ (W : World), W.heap[w.heap.size]? = some (.cells (gr1 6 ROW.toList i vs).toArray 73 (0, 0)) → W.heap[b]? = some (.cells cur te (0, 0)) → ∀ ty dc sc, (Builtin.copy_ #[38, 38] ty #[.slice (some ⟨w.heap.size, (i + m) * 6, none⟩) (n + m - (i + m)) dc, .slice (some ⟨b, i * 6, none⟩) (n - i) sc]).run Try.prog W = .ok (goInt (n - i : Nat)) (W.setRow w.heap.size (gr2 6 ROW.toList cur.toList i m n vs).toArray) := fun W hW hv ty dc sc => by
    refine run_copy_at (i := i0) W (elem := 73) (by kernel_rfl) hi0 (by simp only [Nat.min_def]; split <;> omega) ?_ hW (by rw [List.size_toArray, hml]; have h9 := hg1; unfold gr1 at h9; rw [h9]; omega) h1c
    rw [hs0]
    refine run_firstCells_some W 6 (n - i) ⟨b, i * 6, none⟩ _ _ _ hml (fun j v hj => ?_)
    rw [Addr.add_lit, cell_at hv]
    unfold mid at hj
    rw [List.getElem?_take] at hj
    split at hj
    · rw [List.getElem?_drop] at hj; simpa using hj
    · cases hj
  have hvw : ∀ j v, vs[j]? = some v → vb < w.heap.size := fun j v hj => by
    have := hvs j v hj
    simp only [World.cell?] at this
    rcases Nat.lt_or_ge vb w.heap.size with h | h
    · exact h
    · rw [Array.getElem?_eq_none h] at this; cases this
  have eA := hcpA ((w.alloc (.cells ROW 73)).drew) (hN w) (fun j v hj => by
    rw [← hvs j v hj]
    have := hvw j v hj
    show World.cell? (w.alloc _) _ = _
    simp only [World.cell?, World.alloc]
    rw [Array.getElem?_push, if_neg (by show ¬ vb = w.heap.size; omega)])
  have hWB : ∀ W : World, W.heap = ((w.alloc (.cells ROW 73)).drew.setRow w.heap.size (gr1 6 ROW.toList i vs).toArray).heap → W.heap[w.heap.size]? = some (.cells (gr1 6 ROW.toList i vs).toArray 73 (0, 0)) ∧ W.heap[b]? = some (.cells cur te (0, 0)) := fun W hW => by
    constructor
    · rw [hW]; exact setRow_heap' (w := (w.alloc (.cells ROW 73)).drew) (hN w) _
    · rw [hW, setRow_other _ _ _ (by omega : b ≠ w.heap.size), ← hh]
      show (w.heap.push _)[b]? = _
      rw [Array.getElem?_push, if_neg (by omega)]
  have eB := hcpB (((w.alloc (.cells ROW 73)).drew.setRow w.heap.size (gr1 6 ROW.toList i vs).toArray).drew) (hWB _ rfl).1 (hWB _ rfl).2
  clear hcpA hcpB hWB hN hold hkk hik hvw
  go_enter Try.func164, Try.ntmps164
  go_wp2_with (at_builtin; refine Lib.wpList_append_run _ rfl _ _ _ _ rfl _ _ rfl rfl _ _ (hrz _) ?_)
  go_wp2
  go_region_law_o (refine step_copy_run rfl _ _ 38 38 rfl _ _ (by simp [Act.eval, Act.put]) (by simp [Act.eval, Act.put]) (eB _ _ _) ?_)
  go_wp2
  go_ret
  exact ⟨_, G, ROW, _, _, rfl, hGn, hRs, hRt, rfl, rfl, rfl⟩
theorem slices_Insert_Kept_ok0 (hm : Try.prog.follows .mixedOrders = true) : Sound Try.prog 164 slices_Insert_Kept_x := by
  refine xOf_sound fun q r h => ?_
  obtain ⟨a0, a1, a2, a3⟩ := q
  have H : HS (slices_Insert_Kept a0 a1 a2 a3) r := h
  clear h; unfold slices_Insert_Kept at H
  cases hq : (ieq a1 (a0 : Int)) with
  | false =>
    replace H := HS.cnd_f hq H
    obtain ⟨⟨h1, h2, h3, h4, h5⟩, H⟩ := HS.chkP H
    have hr := (HS.some H).symm; subst hr
    dsimp only [slices_Insert_Kept_e, slices_Insert_Kept_v]
    refine ⟨⟨Try.f164, _, Try.func164, rfl, by decide +kernel⟩, ?_⟩
    have hh := ins_ok (P := Try.prog) (f := 164) (K := 6) (B := 64) (by decide) (slices_Insert_Kept_shift hm) (slices_Insert_Kept_grow hm) (es := List.map eKept a2) (vs := List.map eKept a3) (k := a0) (i := a1) (ro := false) (by simpa using h3) h1 h2 (by simpa using h4) (by simpa using h5)
    have e1 := insR_len (c := a2) (v := a3) (k := a0) (i := a1) (by omega) h3
    have e2 := insL_len (c := a2) (v := a3) (k := a0) (i := a1) (by omega) h3
    simp only [List.length_map, ← insR_map, ← insL_map] at hh ⊢
    simp only [e1, e2] at hh ⊢
    first | exact hh | simpa using hh
  | true =>
  replace H := HS.cnd_t hq H
  refine fn_ok E0 hm Try.func164 rfl (by decide +kernel) (by rfl) fun Γ hn hk => ?_
  dsimp only [slices_Insert_Kept_e, slices_Insert_Kept_v]
  replace hn : Γ.n = 95 := hn
  replace hk : Γ.k = 2 := hk
  try simp -implicitDefEqProofs at H
  refine Tr.of_vc (cl := tabC []) (E := E0) [] tab_nil hm (by rw [hn]; decide +kernel) ?_
  try simp -implicitDefEqProofs +decide (maxSteps := 2000000) [-selQ_sel, hokQ_of, -appO_some, appO_part, appO_whole, hq]
  obtain ⟨h_1, H⟩ := HS.chkP H
  try simp -implicitDefEqProofs +decide (maxSteps := 2000000) [-selQ_sel, hokQ_of, -appO_some, appO_part, appO_whole, hq, h_1]
  obtain ⟨v1, h_2, H⟩ := HS.bnd H
  have s_3 := (slc_spec h_2).1
  have s_4 := slc_fit h_2
  have s_5 := slc_map (e := eKept) h_2
  have s_6 := (slc_spec h_2).2.1
  simp -implicitDefEqProofs at s_3 s_4 s_5 s_6
  try simp only [s_6] at s_4 s_5
  try simp -implicitDefEqProofs +decide (maxSteps := 2000000) [-selQ_sel, hokQ_of, -appO_some, appO_part, appO_whole, hq, h_1, h_2, s_3, s_4, s_5, s_6]
  refine Hid.brV (fun h_7 => ?_) (fun h_7 => ?_)
  · replace H := HS.cnd_t h_7 H
    try simp -implicitDefEqProofs +decide (maxSteps := 2000000) [-selQ_sel, hokQ_of, -appO_some, appO_part, appO_whole, hq, h_1, h_2, s_3, s_4, s_5, s_6, h_7]
    have hr := (HS.some H).symm; subst hr
    refine Hid.mk ⟨⟨[(6, AV.osl 0 0 a0 (List.length a2))], [(0, Ob.arr 6 (List.map eKept a2) false), (1, Ob.arr 6 (List.map eKept a3) false)], 2⟩, Wk.ofk [0, 1] hk (by rfl) (by simp -implicitDefEqProofs [hq, h_1, h_2, s_3, s_4, s_5, s_6, h_7]) (by simp -implicitDefEqProofs [hq, h_1, h_2, s_3, s_4, s_5, s_6, h_7]), ?_⟩
    try simp -implicitDefEqProofs +decide (maxSteps := 2000000) [-selQ_sel, hokQ_of, -appO_some, appO_part, appO_whole, hq, h_1, h_2, s_3, s_4, s_5, s_6, h_7]
  · replace H := HS.cnd_f h_7 H
    try simp -implicitDefEqProofs +decide (maxSteps := 2000000) [-selQ_sel, hokQ_of, -appO_some, appO_part, appO_whole, hq, h_1, h_2, s_3, s_4, s_5, s_6, h_7]
    cases h_8 : (ieq (a0 : Int) (List.length a2 : Int)) with
    | true =>
      replace H := HS.cnd_t h_8 H
      have h_9 : a0 = List.length a2 := by have := h_8; simp [ieq] at this; omega
      clear h_8
      try simp -implicitDefEqProofs +decide (maxSteps := 2000000) [-selQ_sel, hokQ_of, -appO_some, appO_part, appO_whole, hq, h_1, h_2, s_3, s_4, s_5, s_6, h_7, h_9]
      obtain ⟨h_10, H⟩ := HS.chkP H
      try simp -implicitDefEqProofs +decide (maxSteps := 2000000) [-selQ_sel, hokQ_of, -appO_some, appO_part, appO_whole, hq, h_1, h_2, s_3, s_4, s_5, s_6, h_7, h_9, h_10]
      obtain ⟨l2, h_11, H⟩ := HS.nam H
      have m_12 := congrArg (List.map eKept) h_11
      have q_13 := congrArg List.length h_11
      simp -implicitDefEqProofs at m_12 q_13
      try simp only [q_13] at m_12
      try simp only [q_13] at h_10
      try simp only [q_13] at s_3
      try simp only [q_13] at s_4
      try simp only [q_13] at s_5
      try simp only [q_13] at s_6
      try simp -implicitDefEqProofs +decide (maxSteps := 2000000) [-selQ_sel, hokQ_of, -appO_some, appO_part, appO_whole, hq, h_1, h_2, s_3, s_4, s_5, s_6, h_7, h_9, h_10, m_12, q_13]
      have hr := (HS.some H).symm; subst hr
      refine Hid.mk ⟨⟨[(6, AV.osl 0 0 (List.length l2) (List.length l2))], [(0, Ob.arr 6 (List.map eKept l2) false), (1, Ob.arr 6 (List.map eKept a3) false)], 2⟩, Wk.ofk [0, 1] hk (by rfl) (by simp -implicitDefEqProofs [hq, h_1, h_2, s_3, s_4, s_5, s_6, h_7, h_9, h_10, m_12, q_13]) (by simp -implicitDefEqProofs [hq, h_1, h_2, s_3, s_4, s_5, s_6, h_7, h_9, h_10, m_12, q_13]), ?_⟩
      try simp -implicitDefEqProofs +decide (maxSteps := 2000000) [-selQ_sel, hokQ_of, -appO_some, appO_part, appO_whole, hq, h_1, h_2, s_3, s_4, s_5, s_6, h_7, h_9, h_10, m_12, q_13]
    | false =>
      replace H := HS.cnd_f h_8 H
      try simp -implicitDefEqProofs +decide (maxSteps := 2000000) [-selQ_sel, hokQ_of, -appO_some, appO_part, appO_whole, hq, h_1, h_2, s_3, s_4, s_5, s_6, h_7, h_8]
      obtain ⟨h_14, H⟩ := HS.chkP H
      try simp -implicitDefEqProofs +decide (maxSteps := 2000000) [-selQ_sel, hokQ_of, -appO_some, appO_part, appO_whole, hq, h_1, h_2, s_3, s_4, s_5, s_6, h_7, h_8, h_14]
      obtain ⟨h_15, H⟩ := HS.chkP H
      try simp -implicitDefEqProofs +decide (maxSteps := 2000000) [-selQ_sel, hokQ_of, -appO_some, appO_part, appO_whole, hq, h_1, h_2, s_3, s_4, s_5, s_6, h_7, h_8, h_14, h_15]
      obtain ⟨l3, h_16, H⟩ := HS.nam H
      have m_17 := congrArg (List.map eKept) h_16
      have q_18 := congrArg List.length h_16
      rw [ovr_len (by simp -implicitDefEqProofs [h_1, h_2, s_3, s_4, s_5, s_6, h_7, h_8, h_14, h_15])] at q_18
      simp -implicitDefEqProofs at m_17 q_18
      try simp only [q_18] at m_17
      try simp only [q_18] at h_15
      try simp only [q_18] at s_3
      try simp only [q_18] at s_4
      try simp only [q_18] at s_5
      try simp only [q_18] at s_6
      try simp -implicitDefEqProofs +decide (maxSteps := 2000000) [-selQ_sel, hokQ_of, -appO_some, appO_part, appO_whole, hq, h_1, h_2, s_3, s_4, s_5, s_6, h_7, h_8, h_14, h_15, m_17, q_18]
      obtain ⟨v4, h_19, H⟩ := HS.bnd H
      have s_20 := (slc_spec h_19).1
      have s_21 := slc_fit h_19
      have s_22 := slc_map (e := eKept) h_19
      have s_23 := (slc_spec h_19).2.1
      simp -implicitDefEqProofs at s_20 s_21 s_22 s_23
      try simp only [s_23] at s_21 s_22
      have s_24 := slc_hi h_19
      try simp -implicitDefEqProofs +decide (maxSteps := 2000000) [-selQ_sel, hokQ_of, -appO_some, appO_part, appO_whole, hq, h_1, h_2, s_3, s_4, s_5, s_6, h_7, h_8, h_14, h_15, m_17, q_18, h_19, s_20, s_21, s_22, s_23, s_24]
      have hr := (HS.some H).symm; subst hr
      refine Hid.mk ⟨⟨[(6, AV.osl 0 0 (List.length v4) (List.length l3))], [(0, Ob.arr 6 (List.map eKept l3) false), (1, Ob.arr 6 (List.map eKept a3) false)], 2⟩, Wk.ofk [0, 1] hk (by rfl) (by simp -implicitDefEqProofs [hq, h_1, h_2, s_3, s_4, s_5, s_6, h_7, h_8, h_14, h_15, m_17, q_18, h_19, s_20, s_21, s_22, s_23, s_24]) (by simp -implicitDefEqProofs [hq, h_1, h_2, s_3, s_4, s_5, s_6, h_7, h_8, h_14, h_15, m_17, q_18, h_19, s_20, s_21, s_22, s_23, s_24]), ?_⟩
      try simp -implicitDefEqProofs +decide (maxSteps := 2000000) [-selQ_sel, hokQ_of, -appO_some, appO_part, appO_whole, hq, h_1, h_2, s_3, s_4, s_5, s_6, h_7, h_8, h_14, h_15, m_17, q_18, h_19, s_20, s_21, s_22, s_23, s_24]
theorem impl_Cache_toFront_ok0 (hm : Try.prog.follows .mixedOrders = true) (k_impl_Cache_keptAt : Sound Try.prog 101 impl_Cache_keptAt_x) (k_slices_Delete_Kept : Sound Try.prog 163 slices_Delete_Kept_x) (k_slices_Insert_Kept : Sound Try.prog 164 slices_Insert_Kept_x) : Sound Try.prog 97 impl_Cache_toFront_x := by
  refine xOf_sound fun q r h => ?_
  obtain ⟨a0, a1, a2⟩ := q
  refine fn_ok E0 hm Try.func97 rfl (by decide +kernel) (by rfl) fun Γ hn hk => ?_
  dsimp only [impl_Cache_toFront_e, impl_Cache_toFront_v]
  replace hn : Γ.n = 59 := hn
  replace hk : Γ.k = 2 := hk
  have H : HS (impl_Cache_toFront a0 a1 a2) r := h
  clear h; unfold impl_Cache_toFront at H
  try simp -implicitDefEqProofs at H
  refine Tr.of_vc (cl := tabC [(101, impl_Cache_keptAt_x), (163, slices_Delete_Kept_x), (164, slices_Insert_Kept_x)]) (E := E0) [] (tab_cons k_impl_Cache_keptAt (tab_cons k_slices_Delete_Kept (tab_cons k_slices_Insert_Kept tab_nil))) hm (by rw [hn]; decide +kernel) ?_
  try simp -implicitDefEqProofs +decide (maxSteps := 2000000) [-selQ_sel, hokQ_of]
  obtain ⟨v1, h_1, H⟩ := HS.bnd H
  have k_2 := impl_Cache_keptAt_k ((TCache.mk a1 a2).most) ((TCache.mk a1 a2).list) a0.id
  simp -implicitDefEqProofs [-impl_Cache_keptAt_k] at k_2
  try simp -implicitDefEqProofs +decide (maxSteps := 2000000) [-selQ_sel, hokQ_of, h_1, k_2]
  refine Hid.brV (fun h_3 => ?_) (fun h_3 => ?_)
  · replace H := HS.cnd_t h_3 H
    try simp -implicitDefEqProofs +decide (maxSteps := 2000000) [-selQ_sel, hokQ_of, h_1, k_2, h_3]
    obtain ⟨⟨w3, w4⟩, h_4, H⟩ := HS.bnd H
    dsimp only at H
    try simp -implicitDefEqProofs +decide (maxSteps := 2000000) [-selQ_sel, hokQ_of, h_1, k_2, h_3, h_4]
    obtain ⟨v5, h_5, H⟩ := HS.bnd H
    have s_6 := (slc_spec h_5).1
    have s_7 := slc_fit h_5
    have s_8 := slc_map (e := eKept) h_5
    have s_9 := (slc_spec h_5).2.1
    simp -implicitDefEqProofs at s_6 s_7 s_8 s_9
    try simp only [s_9] at s_7 s_8
    try simp -implicitDefEqProofs +decide (maxSteps := 2000000) [-selQ_sel, hokQ_of, h_1, k_2, h_3, h_4, h_5, s_6, s_7, s_8, s_9]
    obtain ⟨⟨w7, w8⟩, h_10, H⟩ := HS.bnd H
    dsimp only at H
    have k_11 := slices_Insert_Kept_k (List.length v5) 0 w4 [a0]
    simp -implicitDefEqProofs [-slices_Insert_Kept_k] at k_11
    try simp -implicitDefEqProofs +decide (maxSteps := 2000000) [-selQ_sel, hokQ_of, h_1, k_2, h_3, h_4, h_5, s_6, s_7, s_8, s_9, h_10, k_11]
    obtain ⟨v9, h_12, H⟩ := HS.bnd H
    have s_13 := (slc_spec h_12).1
    have s_14 := slc_fit h_12
    have s_15 := slc_map (e := eKept) h_12
    have s_16 := (slc_spec h_12).2.1
    simp -implicitDefEqProofs at s_13 s_14 s_15 s_16
    try simp only [s_16] at s_14 s_15
    try simp -implicitDefEqProofs +decide (maxSteps := 2000000) [-selQ_sel, hokQ_of, h_1, k_2, h_3, h_4, h_5, s_6, s_7, s_8, s_9, h_10, k_11, h_12, s_13, s_14, s_15, s_16]
    refine Hid.brV (fun h_17 => ?_) (fun h_17 => ?_)
    · replace H := HS.cnd_t h_17 H
      try simp -implicitDefEqProofs +decide (maxSteps := 2000000) [-selQ_sel, hokQ_of, h_1, k_2, h_3, h_4, h_5, s_6, s_7, s_8, s_9, h_10, k_11, h_12, s_13, s_14, s_15, s_16, h_17]
      have hr := (HS.some H).symm; subst hr
      refine Hid.mk ⟨_, Wk.refl _, ?_⟩
      try simp -implicitDefEqProofs +decide (maxSteps := 2000000) [-selQ_sel, hokQ_of, h_1, k_2, h_3, h_4, h_5, s_6, s_7, s_8, s_9, h_10, k_11, h_12, s_13, s_14, s_15, s_16, h_17]
    · replace H := HS.cnd_f h_17 H
      try simp -implicitDefEqProofs +decide (maxSteps := 2000000) [-selQ_sel, hokQ_of, h_1, k_2, h_3, h_4, h_5, s_6, s_7, s_8, s_9, h_10, k_11, h_12, s_13, s_14, s_15, s_16, h_17]
      obtain ⟨⟨w11, w12⟩, h_18, H⟩ := HS.bnd H
      dsimp only at H
      try simp -implicitDefEqProofs +decide (maxSteps := 2000000) [-selQ_sel, hokQ_of, h_1, k_2, h_3, h_4, h_5, s_6, s_7, s_8, s_9, h_10, k_11, h_12, s_13, s_14, s_15, s_16, h_17, h_18]
      obtain ⟨v13, h_19, H⟩ := HS.bnd H
      have s_20 := (slc_spec h_19).1
      have s_21 := slc_fit h_19
      have s_22 := slc_map (e := eKept) h_19
      have s_23 := (slc_spec h_19).2.1
      simp -implicitDefEqProofs at s_20 s_21 s_22 s_23
      try simp only [s_23] at s_21 s_22
      try simp -implicitDefEqProofs +decide (maxSteps := 2000000) [-selQ_sel, hokQ_of, h_1, k_2, h_3, h_4, h_5, s_6, s_7, s_8, s_9, h_10, k_11, h_12, s_13, s_14, s_15, s_16, h_17, h_18, h_19, s_20, s_21, s_22, s_23]
      have hr := (HS.some H).symm; subst hr
      refine Hid.mk ⟨_, Wk.refl _, ?_⟩
      try simp -implicitDefEqProofs +decide (maxSteps := 2000000) [-selQ_sel, hokQ_of, h_1, k_2, h_3, h_4, h_5, s_6, s_7, s_8, s_9, h_10, k_11, h_12, s_13, s_14, s_15, s_16, h_17, h_18, h_19, s_20, s_21, s_22, s_23]
  · replace H := HS.cnd_f h_3 H
    try simp -implicitDefEqProofs +decide (maxSteps := 2000000) [-selQ_sel, hokQ_of, h_1, k_2, h_3]
    obtain ⟨⟨w15, w16⟩, h_24, H⟩ := HS.bnd H
    dsimp only at H
    have k_25 := slices_Insert_Kept_k (List.length a2) 0 a2 [a0]
    simp -implicitDefEqProofs [-slices_Insert_Kept_k] at k_25
    try simp -implicitDefEqProofs +decide (maxSteps := 2000000) [-selQ_sel, hokQ_of, h_1, k_2, h_3, h_24, k_25]
    obtain ⟨v17, h_26, H⟩ := HS.bnd H
    have s_27 := (slc_spec h_26).1
    have s_28 := slc_fit h_26
    have s_29 := slc_map (e := eKept) h_26
    have s_30 := (slc_spec h_26).2.1
    simp -implicitDefEqProofs at s_27 s_28 s_29 s_30
    try simp only [s_30] at s_28 s_29
    try simp -implicitDefEqProofs +decide (maxSteps := 2000000) [-selQ_sel, hokQ_of, h_1, k_2, h_3, h_24, k_25, h_26, s_27, s_28, s_29, s_30]
    refine Hid.brV (fun h_31 => ?_) (fun h_31 => ?_)
    · replace H := HS.cnd_t h_31 H
      try simp -implicitDefEqProofs +decide (maxSteps := 2000000) [-selQ_sel, hokQ_of, h_1, k_2, h_3, h_24, k_25, h_26, s_27, s_28, s_29, s_30, h_31]
      have hr := (HS.some H).symm; subst hr
      refine Hid.mk ⟨_, Wk.refl _, ?_⟩
      try simp -implicitDefEqProofs +decide (maxSteps := 2000000) [-selQ_sel, hokQ_of, h_1, k_2, h_3, h_24, k_25, h_26, s_27, s_28, s_29, s_30, h_31]
    · replace H := HS.cnd_f h_31 H
      try simp -implicitDefEqProofs +decide (maxSteps := 2000000) [-selQ_sel, hokQ_of, h_1, k_2, h_3, h_24, k_25, h_26, s_27, s_28, s_29, s_30, h_31]
      obtain ⟨⟨w19, w20⟩, h_32, H⟩ := HS.bnd H
      dsimp only at H
      try simp -implicitDefEqProofs +decide (maxSteps := 2000000) [-selQ_sel, hokQ_of, h_1, k_2, h_3, h_24, k_25, h_26, s_27, s_28, s_29, s_30, h_31, h_32]
      obtain ⟨v21, h_33, H⟩ := HS.bnd H
      have s_34 := (slc_spec h_33).1
      have s_35 := slc_fit h_33
      have s_36 := slc_map (e := eKept) h_33
      have s_37 := (slc_spec h_33).2.1
      simp -implicitDefEqProofs at s_34 s_35 s_36 s_37
      try simp only [s_37] at s_35 s_36
      try simp -implicitDefEqProofs +decide (maxSteps := 2000000) [-selQ_sel, hokQ_of, h_1, k_2, h_3, h_24, k_25, h_26, s_27, s_28, s_29, s_30, h_31, h_32, h_33, s_34, s_35, s_36, s_37]
      have hr := (HS.some H).symm; subst hr
      refine Hid.mk ⟨_, Wk.refl _, ?_⟩
      try simp -implicitDefEqProofs +decide (maxSteps := 2000000) [-selQ_sel, hokQ_of, h_1, k_2, h_3, h_24, k_25, h_26, s_27, s_28, s_29, s_30, h_31, h_32, h_33, s_34, s_35, s_36, s_37]
theorem impl_CacheOk_ok0 (hm : Try.prog.follows .mixedOrders = true) (k_impl_inRange : Sound Try.prog 95 impl_inRange_x) (k_impl_Cache_keptAt : Sound Try.prog 101 impl_Cache_keptAt_x) (k_impl_MaskOk : Sound Try.prog 96 impl_MaskOk_x) : Sound Try.prog 42 impl_CacheOk_x := by
  refine xOf_sound fun q r h => ?_
  revert h; revert r; revert q; intro a0 r h
  refine fn_ok E0 hm Try.func42 rfl (by decide +kernel) (by rfl) fun Γ hn hk => ?_
  dsimp only [impl_CacheOk_e, impl_CacheOk_v]
  replace hn : Γ.n = 42 := hn
  replace hk : Γ.k = 0 := hk
  have H : HS (impl_CacheOk a0) r := h
  clear h; unfold impl_CacheOk at H
  try simp -implicitDefEqProofs at H
  refine Tr.of_vc (cl := tabC [(95, impl_inRange_x), (101, impl_Cache_keptAt_x), (96, impl_MaskOk_x)]) (E := E0) [] (tab_cons k_impl_inRange (tab_cons k_impl_Cache_keptAt (tab_cons k_impl_MaskOk tab_nil))) hm (by rw [hn]; decide +kernel) ?_
  try simp -implicitDefEqProofs (maxSteps := 2000000) [-selQ_sel]
  obtain ⟨q, h_1, H⟩ := HS.bnd H
  refine Hid.mk (Tr.weak (s' := (impl_CacheOk_l0_S a0) 0) (Wk.ofk [0] hk (by rfl) (by simp -implicitDefEqProofs [impl_CacheOk_l0_S]) (by simp -implicitDefEqProofs [impl_CacheOk_l0_S])) ?_)
  refine wp_loop_of (S := (impl_CacheOk_l0_S a0)) (f := (impl_CacheOk_l0 a0)) (xt := (impl_CacheOk_l0_X a0)) ?_ ?_ h_1 ?_
  · intro q; rcases q with ⟨⟩ | ⟨⟩ <;> simp [impl_CacheOk_l0_X]
  · clear H h_1 q
    rintro x5 o R hf hR
    have H : HS (impl_CacheOk_l0 a0 x5) o := hf
    clear hf; unfold impl_CacheOk_l0 at H
    try simp -implicitDefEqProofs at H
    refine Tr.of_vc (cl := tabC [(95, impl_inRange_x), (101, impl_Cache_keptAt_x), (96, impl_MaskOk_x)]) (E := E0) [] (tab_cons k_impl_inRange (tab_cons k_impl_Cache_keptAt (tab_cons k_impl_MaskOk tab_nil))) hm (by rw [hn]; decide +kernel) ?_
    try simp -implicitDefEqProofs (maxSteps := 2000000) [-selQ_sel, impl_CacheOk_l0_S]
    refine Hid.brV (fun h_2 => ?_) (fun h_2 => ?_)
    · replace H := HS.cnd_t h_2 H
      try simp -implicitDefEqProofs (maxSteps := 2000000) [-selQ_sel, h_2]
      have hr := (HS.some H).symm; subst hr
      exact Hid.mk ⟨(impl_CacheOk_l0_X a0 (.inl ())).2, Wk.ofk [0] hk (by rfl) (by simp -implicitDefEqProofs [impl_CacheOk_l0_X, h_2]) (by simp -implicitDefEqProofs [impl_CacheOk_l0_X, h_2]), hR⟩
    · replace H := HS.cnd_f h_2 H
      try simp -implicitDefEqProofs (maxSteps := 2000000) [-selQ_sel, h_2]
      obtain ⟨v6, h_3, H⟩ := HS.bnd H
      try simp -implicitDefEqProofs (maxSteps := 2000000) [-selQ_sel, h_2, h_3]
      obtain ⟨v7, h_4, H⟩ := HS.bnd H
      try simp -implicitDefEqProofs (maxSteps := 2000000) [-selQ_sel, h_2, h_3, h_4]
      refine Hid.selQ (fun h_5 => ?_) (fun h_5 => ?_)
      · replace H := HS.cnd_t h_5 H
        try simp -implicitDefEqProofs (maxSteps := 2000000) [-selQ_sel, h_2, h_3, h_4, h_5]
        obtain ⟨v8, h_6, H⟩ := HS.bnd H
        try simp -implicitDefEqProofs (maxSteps := 2000000) [-selQ_sel, h_2, h_3, h_4, h_5, h_6]
        refine Hid.selQ (fun h_7 => ?_) (fun h_7 => ?_)
        · replace H := HS.cnd_t h_7 H
          try simp -implicitDefEqProofs (maxSteps := 2000000) [-selQ_sel, h_2, h_3, h_4, h_5, h_6, h_7]
          obtain ⟨v9, h_8, H⟩ := HS.bnd H
          try simp -implicitDefEqProofs (maxSteps := 2000000) [-selQ_sel, h_2, h_3, h_4, h_5, h_6, h_7, h_8]
          refine Hid.brV (fun h_9 => ?_) (fun h_9 => ?_)
          · replace H := HS.cnd_t h_9 H
            try simp -implicitDefEqProofs (maxSteps := 2000000) [-selQ_sel, h_2, h_3, h_4, h_5, h_6, h_7, h_8, h_9]
            have hr := (HS.some H).symm; subst hr
            exact Hid.mk ⟨impl_CacheOk_l0_S a0 (IntKind.i64.wrap (x5 + 1)), Wk.ofk [0] hk (by rfl) (by simp -implicitDefEqProofs [impl_CacheOk_l0_S, h_2, h_3, h_4, h_5, h_6, h_7, h_8, h_9]) (by simp -implicitDefEqProofs [impl_CacheOk_l0_S, h_2, h_3, h_4, h_5, h_6, h_7, h_8, h_9]), hR⟩
          · replace H := HS.cnd_f h_9 H
            try simp -implicitDefEqProofs (maxSteps := 2000000) [-selQ_sel, h_2, h_3, h_4, h_5, h_6, h_7, h_8, h_9]
            have hr := (HS.some H).symm; subst hr
            exact Hid.mk ⟨(impl_CacheOk_l0_X a0 (.inr ())).2, Wk.ofk [] hk (by rfl) (by simp -implicitDefEqProofs [impl_CacheOk_l0_X, h_2, h_3, h_4, h_5, h_6, h_7, h_8, h_9]) (by simp -implicitDefEqProofs [impl_CacheOk_l0_X, h_2, h_3, h_4, h_5, h_6, h_7, h_8, h_9]), hR⟩
        · replace H := HS.cnd_f h_7 H
          try simp -implicitDefEqProofs (maxSteps := 2000000) [-selQ_sel, h_2, h_3, h_4, h_5, h_6, h_7]
          have hr := (HS.some H).symm; subst hr
          exact Hid.mk ⟨(impl_CacheOk_l0_X a0 (.inr ())).2, Wk.ofk [] hk (by rfl) (by simp -implicitDefEqProofs [impl_CacheOk_l0_X, h_2, h_3, h_4, h_5, h_6, h_7]) (by simp -implicitDefEqProofs [impl_CacheOk_l0_X, h_2, h_3, h_4, h_5, h_6, h_7]), hR⟩
      · replace H := HS.cnd_f h_5 H
        try simp -implicitDefEqProofs (maxSteps := 2000000) [-selQ_sel, h_2, h_3, h_4, h_5]
        have hr := (HS.some H).symm; subst hr
        exact Hid.mk ⟨(impl_CacheOk_l0_X a0 (.inr ())).2, Wk.ofk [] hk (by rfl) (by simp -implicitDefEqProofs [impl_CacheOk_l0_X, h_2, h_3, h_4, h_5]) (by simp -implicitDefEqProofs [impl_CacheOk_l0_X, h_2, h_3, h_4, h_5]), hR⟩
  · rcases q with ⟨⟩ | ⟨⟩
    · dsimp only at H
      try simp -implicitDefEqProofs (maxSteps := 2000000) [-selQ_sel, impl_CacheOk_l0_X]
      obtain ⟨v10, h_10, H⟩ := HS.bnd H
      try simp -implicitDefEqProofs (maxSteps := 2000000) [-selQ_sel, h_10]
      refine Hid.selQ (fun h_11 => ?_) (fun h_11 => ?_)
      · replace H := HS.cnd_t h_11 H
        try simp -implicitDefEqProofs (maxSteps := 2000000) [-selQ_sel, h_10, h_11]
        have hr := (HS.some H).symm; subst hr
        refine Hid.mk ⟨_, Wk.refl _, ?_⟩
        try simp -implicitDefEqProofs (maxSteps := 2000000) [-selQ_sel, h_10, h_11]
      · replace H := HS.cnd_f h_11 H
        try simp -implicitDefEqProofs (maxSteps := 2000000) [-selQ_sel, h_10, h_11]
        have hr := (HS.some H).symm; subst hr
        refine Hid.mk ⟨_, Wk.refl _, ?_⟩
        try simp -implicitDefEqProofs (maxSteps := 2000000) [-selQ_sel, h_10, h_11]
    · dsimp only at H
      try simp -implicitDefEqProofs (maxSteps := 2000000) [-selQ_sel, impl_CacheOk_l0_X]
      have hr := (HS.some H).symm; subst hr
      refine Hid.mk ⟨_, Wk.refl _, ?_⟩
      try simp -implicitDefEqProofs (maxSteps := 2000000) [-selQ_sel]
theorem spec_l21First_ok0 (hm : Try.prog.follows .mixedOrders = true) (k_spec_l21Copy : Sound Try.prog 80 spec_l21Copy_x) : Sound Try.prog 93 spec_l21First_x := by
  refine xOf_sound fun q r h => ?_
  obtain ⟨a0, a1, a2⟩ := q
  refine fn_ok E0 hm Try.func93 rfl (by decide +kernel) (by rfl) fun Γ hn hk => ?_
  dsimp only [spec_l21First_e, spec_l21First_v]
  replace hn : Γ.n = 51 := hn
  replace hk : Γ.k = 0 := hk
  have H : HS (spec_l21First a0 a1 a2) r := h
  clear h; unfold spec_l21First at H
  try simp -implicitDefEqProofs at H
  refine Tr.of_vc (cl := tabC [(80, spec_l21Copy_x)]) (E := E0) [] (tab_cons k_spec_l21Copy tab_nil) hm (by rw [hn]; decide +kernel) ?_
  try simp -implicitDefEqProofs +decide (maxSteps := 2000000) [-selQ_sel, hokQ_of]
  obtain ⟨q, h_1, H⟩ := HS.bnd H
  refine Hid.mk (Tr.weak (s' := (spec_l21First_l0_S a0 a1) (0, [(TKept.mk a1 a2)])) (Wk.ofk [0, 2, 4, 3] hk (by rfl) (by simp -implicitDefEqProofs [spec_l21First_l0_S]) (by simp -implicitDefEqProofs [spec_l21First_l0_S])) ?_)
  refine wp_loop_of (S := (spec_l21First_l0_S a0 a1)) (f := (spec_l21First_l0 a0 a1)) (xt := (spec_l21First_l0_X a0 a1)) ?_ ?_ h_1 ?_
  · intro q; simp [spec_l21First_l0_X]
  · clear H h_1 q
    rintro ⟨x2, x3⟩ o R hf hR
    have H : HS (spec_l21First_l0 a0 a1 (x2, x3)) o := hf
    clear hf; unfold spec_l21First_l0 at H
    try simp -implicitDefEqProofs at H
    refine Tr.of_vc (cl := tabC [(80, spec_l21Copy_x)]) (E := E0) [] (tab_cons k_spec_l21Copy tab_nil) hm (by rw [hn]; decide +kernel) ?_
    try simp -implicitDefEqProofs +decide (maxSteps := 2000000) [-selQ_sel, hokQ_of, spec_l21First_l0_S]
    refine Hid.brV (fun h_2 => ?_) (fun h_2 => ?_)
    · replace H := HS.cnd_t h_2 H
      try simp -implicitDefEqProofs +decide (maxSteps := 2000000) [-selQ_sel, hokQ_of, h_2]
      have hr := (HS.some H).symm; subst hr
      exact Hid.mk ⟨(spec_l21First_l0_X a0 a1 x3).2, Wk.ofk [1, 2, 3] hk (by rfl) (by simp -implicitDefEqProofs [spec_l21First_l0_X, h_2]) (by simp -implicitDefEqProofs [spec_l21First_l0_X, h_2]), hR⟩
    · replace H := HS.cnd_f h_2 H
      try simp -implicitDefEqProofs +decide (maxSteps := 2000000) [-selQ_sel, hokQ_of, h_2]
      obtain ⟨v4, h_3, H⟩ := HS.bnd H
      try simp -implicitDefEqProofs +decide (maxSteps := 2000000) [-selQ_sel, hokQ_of, h_2, h_3]
      refine Hid.selQ (fun h_4 => ?_) (fun h_4 => ?_)
      · replace H := HS.cnd_t h_4 H
        try simp -implicitDefEqProofs +decide (maxSteps := 2000000) [-selQ_sel, hokQ_of, h_2, h_3, h_4]
        have hr := (HS.some H).symm; subst hr
        exact Hid.mk ⟨spec_l21First_l0_S a0 a1 ((IntKind.i64.wrap (x2 + 1)), x3), Wk.ofk [0, 1, 2, 3] hk (by rfl) (by simp -implicitDefEqProofs [spec_l21First_l0_S, h_2, h_3, h_4]) (by simp -implicitDefEqProofs [spec_l21First_l0_S, h_2, h_3, h_4]), hR⟩
      · replace H := HS.cnd_f h_4 H
        try simp -implicitDefEqProofs +decide (maxSteps := 2000000) [-selQ_sel, hokQ_of, h_2, h_3, h_4]
        refine Hid.brV (fun h_5 => ?_) (fun h_5 => ?_)
        · replace H := HS.cnd_t h_5 H
          try simp -implicitDefEqProofs +decide (maxSteps := 2000000) [-selQ_sel, hokQ_of, h_2, h_3, h_4, h_5]
          have hr := (HS.some H).symm; subst hr
          exact Hid.mk ⟨spec_l21First_l0_S a0 a1 ((IntKind.i64.wrap (x2 + 1)), x3), Wk.ofk [0, 1, 2, 3] hk (by rfl) (by simp -implicitDefEqProofs [spec_l21First_l0_S, h_2, h_3, h_4, h_5]) (by simp -implicitDefEqProofs [spec_l21First_l0_S, h_2, h_3, h_4, h_5]), hR⟩
        · replace H := HS.cnd_f h_5 H
          try simp -implicitDefEqProofs +decide (maxSteps := 2000000) [-selQ_sel, hokQ_of, h_2, h_3, h_4, h_5]
          obtain ⟨h_6, H⟩ := HS.chkP H
          try simp -implicitDefEqProofs +decide (maxSteps := 2000000) [-selQ_sel, hokQ_of, h_2, h_3, h_4, h_5, h_6]
          obtain ⟨l5, h_7, H⟩ := HS.nam H
          have m_8 := congrArg (List.map eKept) h_7
          have q_9 := congrArg List.length h_7
          simp -implicitDefEqProofs at m_8 q_9
          try simp only [q_9] at m_8
          try simp only [q_9] at h_6
          try simp -implicitDefEqProofs +decide (maxSteps := 2000000) [-selQ_sel, hokQ_of, h_2, h_3, h_4, h_5, h_6, m_8, q_9]
          have hr := (HS.some H).symm; subst hr
          exact Hid.mk ⟨spec_l21First_l0_S a0 a1 ((IntKind.i64.wrap (x2 + 1)), l5), Wk.ofk [0, 1, 2, 3] hk (by rfl) (by simp -implicitDefEqProofs [spec_l21First_l0_S, h_2, h_3, h_4, h_5, h_6, m_8, q_9]) (by simp -implicitDefEqProofs [spec_l21First_l0_S, h_2, h_3, h_4, h_5, h_6, m_8, q_9]), hR⟩
  · revert H h_1; revert q; intro y6 h_1 H
    try dsimp only at H
    try simp -implicitDefEqProofs +decide (maxSteps := 2000000) [-selQ_sel, hokQ_of, spec_l21First_l0_X]
    obtain ⟨v7, h_10, H⟩ := HS.bnd H
    have k_11 := spec_l21Copy_k ((TCache.mk a0.most y6).most) ((TCache.mk a0.most y6).list)
    simp -implicitDefEqProofs [-spec_l21Copy_k] at k_11
    try simp -implicitDefEqProofs +decide (maxSteps := 2000000) [-selQ_sel, hokQ_of, h_10, k_11]
    have hr := (HS.some H).symm; subst hr
    refine Hid.mk ⟨_, Wk.refl _, ?_⟩
    try simp -implicitDefEqProofs +decide (maxSteps := 2000000) [-selQ_sel, hokQ_of, h_10, k_11]
theorem spec_l11Box_ok0 (hm : Try.prog.follows .mixedOrders = true) (k_spec_Empty : Sound Try.prog 205 spec_Empty_x) (k_spec_l01In : Sound Try.prog 91 spec_l01In_x) : Sound Try.prog 161 spec_l11Box_x := by
  refine xOf_sound fun q r h => ?_
  revert h; revert r; revert q; intro a0 r h
  refine fn_ok E0 hm Try.func161 rfl (by decide +kernel) (by rfl) fun Γ hn hk => ?_
  dsimp only [spec_l11Box_e, spec_l11Box_v]
  replace hn : Γ.n = 42 := hn
  replace hk : Γ.k = 0 := hk
  have H : HS (spec_l11Box a0) r := h
  clear h; unfold spec_l11Box at H
  try simp -implicitDefEqProofs at H
  refine Tr.of_vc (cl := tabC [(205, spec_Empty_x), (91, spec_l01In_x)]) (E := E0) [] (tab_cons k_spec_Empty (tab_cons k_spec_l01In tab_nil)) hm (by rw [hn]; decide +kernel) ?_
  try simp -implicitDefEqProofs (maxSteps := 2000000) [-selQ_sel]
  obtain ⟨v1, h_1, H⟩ := HS.bnd H
  try simp -implicitDefEqProofs (maxSteps := 2000000) [-selQ_sel, h_1]
  refine Hid.selQ (fun h_2 => ?_) (fun h_2 => ?_)
  · replace H := HS.cnd_t h_2 H
    try simp -implicitDefEqProofs (maxSteps := 2000000) [-selQ_sel, h_1, h_2]
    have hr := (HS.some H).symm; subst hr
    refine Hid.mk ⟨_, Wk.refl _, ?_⟩
    try simp -implicitDefEqProofs (maxSteps := 2000000) [-selQ_sel, h_1, h_2]
  · replace H := HS.cnd_f h_2 H
    try simp -implicitDefEqProofs (maxSteps := 2000000) [-selQ_sel, h_1, h_2]
    obtain ⟨v2, h_3, H⟩ := HS.bnd H
    try simp -implicitDefEqProofs (maxSteps := 2000000) [-selQ_sel, h_1, h_2, h_3]
    refine Hid.selQ (fun h_4 => ?_) (fun h_4 => ?_)
    · replace H := HS.cnd_t h_4 H
      try simp -implicitDefEqProofs (maxSteps := 2000000) [-selQ_sel, h_1, h_2, h_3, h_4]
      obtain ⟨v3, h_5, H⟩ := HS.bnd H
      try simp -implicitDefEqProofs (maxSteps := 2000000) [-selQ_sel, h_1, h_2, h_3, h_4, h_5]
      refine Hid.selQ (fun h_6 => ?_) (fun h_6 => ?_)
      · replace H := HS.cnd_t h_6 H
        try simp -implicitDefEqProofs (maxSteps := 2000000) [-selQ_sel, h_1, h_2, h_3, h_4, h_5, h_6]
        obtain ⟨v4, h_7, H⟩ := HS.bnd H
        try simp -implicitDefEqProofs (maxSteps := 2000000) [-selQ_sel, h_1, h_2, h_3, h_4, h_5, h_6, h_7]
        refine Hid.selQ (fun h_8 => ?_) (fun h_8 => ?_)
        · replace H := HS.cnd_t h_8 H
          try simp -implicitDefEqProofs (maxSteps := 2000000) [-selQ_sel, h_1, h_2, h_3, h_4, h_5, h_6, h_7, h_8]
          obtain ⟨v5, h_9, H⟩ := HS.bnd H
          try simp -implicitDefEqProofs (maxSteps := 2000000) [-selQ_sel, h_1, h_2, h_3, h_4, h_5, h_6, h_7, h_8, h_9]
          refine Hid.selQ (fun h_10 => ?_) (fun h_10 => ?_)
          · replace H := HS.cnd_t h_10 H
            try simp -implicitDefEqProofs (maxSteps := 2000000) [-selQ_sel, h_1, h_2, h_3, h_4, h_5, h_6, h_7, h_8, h_9, h_10]
            refine Hid.selQ (fun h_11 => ?_) (fun h_11 => ?_)
            · replace H := HS.cnd_t h_11 H
              try simp -implicitDefEqProofs (maxSteps := 2000000) [-selQ_sel, h_1, h_2, h_3, h_4, h_5, h_6, h_7, h_8, h_9, h_10, h_11]
              have hr := (HS.some H).symm; subst hr
              refine Hid.mk ⟨_, Wk.refl _, ?_⟩
              try simp -implicitDefEqProofs (maxSteps := 2000000) [-selQ_sel, h_1, h_2, h_3, h_4, h_5, h_6, h_7, h_8, h_9, h_10, h_11]
            · replace H := HS.cnd_f h_11 H
              try simp -implicitDefEqProofs (maxSteps := 2000000) [-selQ_sel, h_1, h_2, h_3, h_4, h_5, h_6, h_7, h_8, h_9, h_10, h_11]
              have hr := (HS.some H).symm; subst hr
              refine Hid.mk ⟨_, Wk.refl _, ?_⟩
              try simp -implicitDefEqProofs (maxSteps := 2000000) [-selQ_sel, h_1, h_2, h_3, h_4, h_5, h_6, h_7, h_8, h_9, h_10, h_11]
          · replace H := HS.cnd_f h_10 H
            try simp -implicitDefEqProofs (maxSteps := 2000000) [-selQ_sel, h_1, h_2, h_3, h_4, h_5, h_6, h_7, h_8, h_9, h_10]
            have hr := (HS.some H).symm; subst hr
            refine Hid.mk ⟨_, Wk.refl _, ?_⟩
            try simp -implicitDefEqProofs (maxSteps := 2000000) [-selQ_sel, h_1, h_2, h_3, h_4, h_5, h_6, h_7, h_8, h_9, h_10]
        · replace H := HS.cnd_f h_8 H
          try simp -implicitDefEqProofs (maxSteps := 2000000) [-selQ_sel, h_1, h_2, h_3, h_4, h_5, h_6, h_7, h_8]
          have hr := (HS.some H).symm; subst hr
          refine Hid.mk ⟨_, Wk.refl _, ?_⟩
          try simp -implicitDefEqProofs (maxSteps := 2000000) [-selQ_sel, h_1, h_2, h_3, h_4, h_5, h_6, h_7, h_8]
      · replace H := HS.cnd_f h_6 H
        try simp -implicitDefEqProofs (maxSteps := 2000000) [-selQ_sel, h_1, h_2, h_3, h_4, h_5, h_6]
        have hr := (HS.some H).symm; subst hr
        refine Hid.mk ⟨_, Wk.refl _, ?_⟩
        try simp -implicitDefEqProofs (maxSteps := 2000000) [-selQ_sel, h_1, h_2, h_3, h_4, h_5, h_6]
    · replace H := HS.cnd_f h_4 H
      try simp -implicitDefEqProofs (maxSteps := 2000000) [-selQ_sel, h_1, h_2, h_3, h_4]
      have hr := (HS.some H).symm; subst hr
      refine Hid.mk ⟨_, Wk.refl _, ?_⟩
      try simp -implicitDefEqProofs (maxSteps := 2000000) [-selQ_sel, h_1, h_2, h_3, h_4]
theorem slices_IndexFunc_Kept_Forget_1_ok0 (hm : Try.prog.follows .mixedOrders = true) (k_impl_Forget_1 : Sound Try.prog 84 impl_Forget_1_x) : Sound Try.prog 158 slices_IndexFunc_Kept_Forget_1_x := by
  refine xOf_sound fun q r h => ?_
  obtain ⟨a0, a1⟩ := q
  refine fn_ok E0 hm Try.func158 rfl (by decide +kernel) (by rfl) fun Γ hn hk => ?_
  dsimp only [slices_IndexFunc_Kept_Forget_1_e, slices_IndexFunc_Kept_Forget_1_v]
  replace hn : Γ.n = 19 := hn
  replace hk : Γ.k = 0 := hk
  have H : HS (slices_IndexFunc_Kept_Forget_1 a0 a1) r := h
  clear h; unfold slices_IndexFunc_Kept_Forget_1 at H
  try simp -implicitDefEqProofs at H
  refine Tr.of_vc (cl := tabC [(84, impl_Forget_1_x)]) (E := E0) [] (tab_cons k_impl_Forget_1 tab_nil) hm (by rw [hn]; decide +kernel) ?_
  try simp -implicitDefEqProofs (maxSteps := 2000000) [-selQ_sel]
  obtain ⟨q, h_1, H⟩ := HS.bnd H
  refine Hid.mk (Tr.weak (s' := (slices_IndexFunc_Kept_Forget_1_l0_S a0 a1) 0) (Wk.ofk [] hk (by rfl) (by simp -implicitDefEqProofs [slices_IndexFunc_Kept_Forget_1_l0_S]) (by simp -implicitDefEqProofs [slices_IndexFunc_Kept_Forget_1_l0_S])) ?_)
  refine wp_loop_of (S := (slices_IndexFunc_Kept_Forget_1_l0_S a0 a1)) (f := (slices_IndexFunc_Kept_Forget_1_l0 a0 a1)) (xt := (slices_IndexFunc_Kept_Forget_1_l0_X a0 a1)) ?_ ?_ h_1 ?_
  · intro q; rcases q with ⟨⟩ | y6 <;> simp [slices_IndexFunc_Kept_Forget_1_l0_X]
  · clear H h_1 q
    rintro x3 o R hf hR
    have H : HS (slices_IndexFunc_Kept_Forget_1_l0 a0 a1 x3) o := hf
    clear hf; unfold slices_IndexFunc_Kept_Forget_1_l0 at H
    try simp -implicitDefEqProofs at H
    refine Tr.of_vc (cl := tabC [(84, impl_Forget_1_x)]) (E := E0) [] (tab_cons k_impl_Forget_1 tab_nil) hm (by rw [hn]; decide +kernel) ?_
    try simp -implicitDefEqProofs (maxSteps := 2000000) [-selQ_sel, slices_IndexFunc_Kept_Forget_1_l0_S]
    refine Hid.brV (fun h_2 => ?_) (fun h_2 => ?_)
    · replace H := HS.cnd_t h_2 H
      try simp -implicitDefEqProofs (maxSteps := 2000000) [-selQ_sel, h_2]
      have hr := (HS.some H).symm; subst hr
      exact Hid.mk ⟨(slices_IndexFunc_Kept_Forget_1_l0_X a0 a1 (.inl ())).2, Wk.ofk [] hk (by rfl) (by simp -implicitDefEqProofs [slices_IndexFunc_Kept_Forget_1_l0_X, h_2]) (by simp -implicitDefEqProofs [slices_IndexFunc_Kept_Forget_1_l0_X, h_2]), hR⟩
    · replace H := HS.cnd_f h_2 H
      try simp -implicitDefEqProofs (maxSteps := 2000000) [-selQ_sel, h_2]
      obtain ⟨v4, h_3, H⟩ := HS.bnd H
      try simp -implicitDefEqProofs (maxSteps := 2000000) [-selQ_sel, h_2, h_3]
      obtain ⟨v5, h_4, H⟩ := HS.bnd H
      try simp -implicitDefEqProofs (maxSteps := 2000000) [-selQ_sel, h_2, h_3, h_4]
      refine Hid.brV (fun h_5 => ?_) (fun h_5 => ?_)
      · replace H := HS.cnd_t h_5 H
        try simp -implicitDefEqProofs (maxSteps := 2000000) [-selQ_sel, h_2, h_3, h_4, h_5]
        have hr := (HS.some H).symm; subst hr
        exact Hid.mk ⟨(slices_IndexFunc_Kept_Forget_1_l0_X a0 a1 (.inr x3)).2, Wk.ofk [] hk (by rfl) (by simp -implicitDefEqProofs [slices_IndexFunc_Kept_Forget_1_l0_X, h_2, h_3, h_4, h_5]) (by simp -implicitDefEqProofs [slices_IndexFunc_Kept_Forget_1_l0_X, h_2, h_3, h_4, h_5]), hR⟩
      · replace H := HS.cnd_f h_5 H
        try simp -implicitDefEqProofs (maxSteps := 2000000) [-selQ_sel, h_2, h_3, h_4, h_5]
        have hr := (HS.some H).symm; subst hr
        exact Hid.mk ⟨slices_IndexFunc_Kept_Forget_1_l0_S a0 a1 (IntKind.i64.wrap (x3 + 1)), Wk.ofk [] hk (by rfl) (by simp -implicitDefEqProofs [slices_IndexFunc_Kept_Forget_1_l0_S, h_2, h_3, h_4, h_5]) (by simp -implicitDefEqProofs [slices_IndexFunc_Kept_Forget_1_l0_S, h_2, h_3, h_4, h_5]), hR⟩
  · rcases q with ⟨⟩ | y6
    · dsimp only at H
      try simp -implicitDefEqProofs (maxSteps := 2000000) [-selQ_sel, slices_IndexFunc_Kept_Forget_1_l0_X]
      have hr := (HS.some H).symm; subst hr
      refine Hid.mk ⟨_, Wk.refl _, ?_⟩
      try simp -implicitDefEqProofs (maxSteps := 2000000) [-selQ_sel]
    · dsimp only at H
      try simp -implicitDefEqProofs (maxSteps := 2000000) [-selQ_sel, slices_IndexFunc_Kept_Forget_1_l0_X]
      have hr := (HS.some H).symm; subst hr
      refine Hid.mk ⟨_, Wk.refl _, ?_⟩
      try simp -implicitDefEqProofs (maxSteps := 2000000) [-selQ_sel]
theorem impl_isMaskBox_ok0 (hm : Try.prog.follows .mixedOrders = true) (k_impl_Empty : Sound Try.prog 206 impl_Empty_x) : Sound Try.prog 162 impl_isMaskBox_x := by
  refine xOf_sound fun q r h => ?_
  revert h; revert r; revert q; intro a0 r h
  refine fn_ok E0 hm Try.func162 rfl (by decide +kernel) (by rfl) fun Γ hn hk => ?_
  dsimp only [impl_isMaskBox_e, impl_isMaskBox_v]
  replace hn : Γ.n = 39 := hn
  replace hk : Γ.k = 0 := hk
  have H : HS (impl_isMaskBox a0) r := h
  clear h; unfold impl_isMaskBox at H
  try simp -implicitDefEqProofs at H
  refine Tr.of_vc (cl := tabC [(206, impl_Empty_x)]) (E := E0) [] (tab_cons k_impl_Empty tab_nil) hm (by rw [hn]; decide +kernel) ?_
  try simp -implicitDefEqProofs (maxSteps := 2000000) [-selQ_sel]
  obtain ⟨v1, h_1, H⟩ := HS.bnd H
  try simp -implicitDefEqProofs (maxSteps := 2000000) [-selQ_sel, h_1]
  refine Hid.selQ (fun h_2 => ?_) (fun h_2 => ?_)
  · replace H := HS.cnd_t h_2 H
    try simp -implicitDefEqProofs (maxSteps := 2000000) [-selQ_sel, h_1, h_2]
    have hr := (HS.some H).symm; subst hr
    refine Hid.mk ⟨_, Wk.refl _, ?_⟩
    try simp -implicitDefEqProofs (maxSteps := 2000000) [-selQ_sel, h_1, h_2]
  · replace H := HS.cnd_f h_2 H
    try simp -implicitDefEqProofs (maxSteps := 2000000) [-selQ_sel, h_1, h_2]
    refine Hid.selQ (fun h_3 => ?_) (fun h_3 => ?_)
    · replace H := HS.cnd_t h_3 H
      try simp -implicitDefEqProofs (maxSteps := 2000000) [-selQ_sel, h_1, h_2, h_3]
      refine Hid.selQ (fun h_4 => ?_) (fun h_4 => ?_)
      · replace H := HS.cnd_t h_4 H
        try simp -implicitDefEqProofs (maxSteps := 2000000) [-selQ_sel, h_1, h_2, h_3, h_4]
        refine Hid.selQ (fun h_5 => ?_) (fun h_5 => ?_)
        · replace H := HS.cnd_t h_5 H
          try simp -implicitDefEqProofs (maxSteps := 2000000) [-selQ_sel, h_1, h_2, h_3, h_4, h_5]
          refine Hid.brV (fun h_6 => ?_) (fun h_6 => ?_)
          · replace H := HS.cnd_t h_6 H
            try simp -implicitDefEqProofs (maxSteps := 2000000) [-selQ_sel, h_1, h_2, h_3, h_4, h_5, h_6]
            refine Hid.selQ (fun h_7 => ?_) (fun h_7 => ?_)
            · replace H := HS.cnd_t h_7 H
              try simp -implicitDefEqProofs (maxSteps := 2000000) [-selQ_sel, h_1, h_2, h_3, h_4, h_5, h_6, h_7]
              have hr := (HS.some H).symm; subst hr
              refine Hid.mk ⟨_, Wk.refl _, ?_⟩
              try simp -implicitDefEqProofs (maxSteps := 2000000) [-selQ_sel, h_1, h_2, h_3, h_4, h_5, h_6, h_7]
            · replace H := HS.cnd_f h_7 H
              try simp -implicitDefEqProofs (maxSteps := 2000000) [-selQ_sel, h_1, h_2, h_3, h_4, h_5, h_6, h_7]
              have hr := (HS.some H).symm; subst hr
              refine Hid.mk ⟨_, Wk.refl _, ?_⟩
              try simp -implicitDefEqProofs (maxSteps := 2000000) [-selQ_sel, h_1, h_2, h_3, h_4, h_5, h_6, h_7]
          · replace H := HS.cnd_f h_6 H
            try simp -implicitDefEqProofs (maxSteps := 2000000) [-selQ_sel, h_1, h_2, h_3, h_4, h_5, h_6]
            have hr := (HS.some H).symm; subst hr
            refine Hid.mk ⟨_, Wk.refl _, ?_⟩
            try simp -implicitDefEqProofs (maxSteps := 2000000) [-selQ_sel, h_1, h_2, h_3, h_4, h_5, h_6]
        · replace H := HS.cnd_f h_5 H
          try simp -implicitDefEqProofs (maxSteps := 2000000) [-selQ_sel, h_1, h_2, h_3, h_4, h_5]
          have hr := (HS.some H).symm; subst hr
          refine Hid.mk ⟨_, Wk.refl _, ?_⟩
          try simp -implicitDefEqProofs (maxSteps := 2000000) [-selQ_sel, h_1, h_2, h_3, h_4, h_5]
      · replace H := HS.cnd_f h_4 H
        try simp -implicitDefEqProofs (maxSteps := 2000000) [-selQ_sel, h_1, h_2, h_3, h_4]
        have hr := (HS.some H).symm; subst hr
        refine Hid.mk ⟨_, Wk.refl _, ?_⟩
        try simp -implicitDefEqProofs (maxSteps := 2000000) [-selQ_sel, h_1, h_2, h_3, h_4]
    · replace H := HS.cnd_f h_3 H
      try simp -implicitDefEqProofs (maxSteps := 2000000) [-selQ_sel, h_1, h_2, h_3]
      have hr := (HS.some H).symm; subst hr
      refine Hid.mk ⟨_, Wk.refl _, ?_⟩
      try simp -implicitDefEqProofs (maxSteps := 2000000) [-selQ_sel, h_1, h_2, h_3]
theorem impl_copyCache_ok0 (hm : Try.prog.follows .mixedOrders = true) (k_impl_copyMask : Sound Try.prog 98 impl_copyMask_x) : Sound Try.prog 82 impl_copyCache_x := by
  refine xOf_sound fun q r h => ?_
  revert h; revert r; revert q; intro a0 r h
  refine fn_ok E0 hm Try.func82 rfl (by decide +kernel) (by rfl) fun Γ hn hk => ?_
  dsimp only [impl_copyCache_e, impl_copyCache_v]
  replace hn : Γ.n = 29 := hn
  replace hk : Γ.k = 0 := hk
  have H : HS (impl_copyCache a0) r := h
  clear h; unfold impl_copyCache at H
  try simp -implicitDefEqProofs at H
  refine Tr.of_vc (cl := tabC [(98, impl_copyMask_x)]) (E := E0) [] (tab_cons k_impl_copyMask tab_nil) hm (by rw [hn]; decide +kernel) ?_
  try simp -implicitDefEqProofs +decide (maxSteps := 2000000) [-selQ_sel, hokQ_of]
  obtain ⟨q, h_1, H⟩ := HS.bnd H
  refine Hid.mk (Tr.weak (s' := (impl_copyCache_l0_S a0) (0, [])) (Wk.ofk [1, 2, 3] hk (by rfl) (by simp -implicitDefEqProofs [impl_copyCache_l0_S]) (by simp -implicitDefEqProofs [impl_copyCache_l0_S])) ?_)
  refine wp_loop_of (S := (impl_copyCache_l0_S a0)) (f := (impl_copyCache_l0 a0)) (xt := (impl_copyCache_l0_X a0)) ?_ ?_ h_1 ?_
  · intro q; simp [impl_copyCache_l0_X]
  · clear H h_1 q
    rintro ⟨x3, x4⟩ o R hf hR
    have H : HS (impl_copyCache_l0 a0 (x3, x4)) o := hf
    clear hf; unfold impl_copyCache_l0 at H
    try simp -implicitDefEqProofs at H
    refine Tr.of_vc (cl := tabC [(98, impl_copyMask_x)]) (E := E0) [] (tab_cons k_impl_copyMask tab_nil) hm (by rw [hn]; decide +kernel) ?_
    try simp -implicitDefEqProofs +decide (maxSteps := 2000000) [-selQ_sel, hokQ_of, impl_copyCache_l0_S]
    refine Hid.brV (fun h_2 => ?_) (fun h_2 => ?_)
    · replace H := HS.cnd_t h_2 H
      try simp -implicitDefEqProofs +decide (maxSteps := 2000000) [-selQ_sel, hokQ_of, h_2]
      have hr := (HS.some H).symm; subst hr
      exact Hid.mk ⟨(impl_copyCache_l0_X a0 x4).2, Wk.ofk [0, 1, 2] hk (by rfl) (by simp -implicitDefEqProofs [impl_copyCache_l0_X, h_2]) (by simp -implicitDefEqProofs [impl_copyCache_l0_X, h_2]), hR⟩
    · replace H := HS.cnd_f h_2 H
      try simp -implicitDefEqProofs +decide (maxSteps := 2000000) [-selQ_sel, hokQ_of, h_2]
      obtain ⟨v5, h_3, H⟩ := HS.bnd H
      try simp -implicitDefEqProofs +decide (maxSteps := 2000000) [-selQ_sel, hokQ_of, h_2, h_3]
      obtain ⟨v6, h_4, H⟩ := HS.bnd H
      try simp -implicitDefEqProofs +decide (maxSteps := 2000000) [-selQ_sel, hokQ_of, h_2, h_3, h_4]
      obtain ⟨h_5, H⟩ := HS.chkP H
      try simp -implicitDefEqProofs +decide (maxSteps := 2000000) [-selQ_sel, hokQ_of, h_2, h_3, h_4, h_5]
      obtain ⟨l7, h_6, H⟩ := HS.nam H
      have m_7 := congrArg (List.map eKept) h_6
      have q_8 := congrArg List.length h_6
      simp -implicitDefEqProofs at m_7 q_8
      try simp only [q_8] at m_7
      try simp only [q_8] at h_5
      try simp -implicitDefEqProofs +decide (maxSteps := 2000000) [-selQ_sel, hokQ_of, h_2, h_3, h_4, h_5, m_7, q_8]
      have hr := (HS.some H).symm; subst hr
      exact Hid.mk ⟨impl_copyCache_l0_S a0 ((IntKind.i64.wrap (x3 + 1)), l7), Wk.ofk [0, 1, 2] hk (by rfl) (by simp -implicitDefEqProofs [impl_copyCache_l0_S, h_2, h_3, h_4, h_5, m_7, q_8]) (by simp -implicitDefEqProofs [impl_copyCache_l0_S, h_2, h_3, h_4, h_5, m_7, q_8]), hR⟩
  · revert H h_1; revert q; intro y8 h_1 H
    try dsimp only at H
    try simp -implicitDefEqProofs +decide (maxSteps := 2000000) [-selQ_sel, hokQ_of, impl_copyCache_l0_X]
    have hr := (HS.some H).symm; subst hr
    refine Hid.mk ⟨⟨[(2, AV.optr 0 0 2)], [(0, Ob.box [AV.int .i64 a0.most, AV.osl 1 0 (List.length y8) (List.length y8)]), (1, Ob.arr 6 (List.map eKept y8) false)], 2⟩, Wk.ofk [0, 2] hk (by rfl) (by simp -implicitDefEqProofs []) (by simp -implicitDefEqProofs []), ?_⟩
    try simp -implicitDefEqProofs +decide (maxSteps := 2000000) [-selQ_sel, hokQ_of]
theorem spec_l21Copy_ok0 (hm : Try.prog.follows .mixedOrders = true) (k_spec_l21CopyMask : Sound Try.prog 100 spec_l21CopyMask_x) : Sound Try.prog 80 spec_l21Copy_x := by
  refine xOf_sound fun q r h => ?_
  revert h; revert r; revert q; intro a0 r h
  refine fn_ok E0 hm Try.func80 rfl (by decide +kernel) (by rfl) fun Γ hn hk => ?_
  dsimp only [spec_l21Copy_e, spec_l21Copy_v]
  replace hn : Γ.n = 35 := hn
  replace hk : Γ.k = 0 := hk
  have H : HS (spec_l21Copy a0) r := h
  clear h; unfold spec_l21Copy at H
  try simp -implicitDefEqProofs at H
  refine Tr.of_vc (cl := tabC [(100, spec_l21CopyMask_x)]) (E := E0) [] (tab_cons k_spec_l21CopyMask tab_nil) hm (by rw [hn]; decide +kernel) ?_
  try simp -implicitDefEqProofs +decide (maxSteps := 2000000) [-selQ_sel, hokQ_of]
  obtain ⟨q, h_1, H⟩ := HS.bnd H
  refine Hid.mk (Tr.weak (s' := (spec_l21Copy_l0_S a0) (0, [])) (Wk.ofk [0, 1, 2, 3] hk (by rfl) (by simp -implicitDefEqProofs [spec_l21Copy_l0_S]) (by simp -implicitDefEqProofs [spec_l21Copy_l0_S])) ?_)
  refine wp_loop_of (S := (spec_l21Copy_l0_S a0)) (f := (spec_l21Copy_l0 a0)) (xt := (spec_l21Copy_l0_X a0)) ?_ ?_ h_1 ?_
  · intro q; simp [spec_l21Copy_l0_X]
  · clear H h_1 q
    rintro ⟨x3, x4⟩ o R hf hR
    have H : HS (spec_l21Copy_l0 a0 (x3, x4)) o := hf
    clear hf; unfold spec_l21Copy_l0 at H
    try simp -implicitDefEqProofs at H
    refine Tr.of_vc (cl := tabC [(100, spec_l21CopyMask_x)]) (E := E0) [] (tab_cons k_spec_l21CopyMask tab_nil) hm (by rw [hn]; decide +kernel) ?_
    try simp -implicitDefEqProofs +decide (maxSteps := 2000000) [-selQ_sel, hokQ_of, spec_l21Copy_l0_S]
    refine Hid.brV (fun h_2 => ?_) (fun h_2 => ?_)
    · replace H := HS.cnd_t h_2 H
      try simp -implicitDefEqProofs +decide (maxSteps := 2000000) [-selQ_sel, hokQ_of, h_2]
      have hr := (HS.some H).symm; subst hr
      exact Hid.mk ⟨(spec_l21Copy_l0_X a0 x4).2, Wk.ofk [1, 2, 3] hk (by rfl) (by simp -implicitDefEqProofs [spec_l21Copy_l0_X, h_2]) (by simp -implicitDefEqProofs [spec_l21Copy_l0_X, h_2]), hR⟩
    · replace H := HS.cnd_f h_2 H
      try simp -implicitDefEqProofs +decide (maxSteps := 2000000) [-selQ_sel, hokQ_of, h_2]
      obtain ⟨v5, h_3, H⟩ := HS.bnd H
      try simp -implicitDefEqProofs +decide (maxSteps := 2000000) [-selQ_sel, hokQ_of, h_2, h_3]
      obtain ⟨v6, h_4, H⟩ := HS.bnd H
      try simp -implicitDefEqProofs +decide (maxSteps := 2000000) [-selQ_sel, hokQ_of, h_2, h_3, h_4]
      obtain ⟨h_5, H⟩ := HS.chkP H
      try simp -implicitDefEqProofs +decide (maxSteps := 2000000) [-selQ_sel, hokQ_of, h_2, h_3, h_4, h_5]
      obtain ⟨l7, h_6, H⟩ := HS.nam H
      have m_7 := congrArg (List.map eKept) h_6
      have q_8 := congrArg List.length h_6
      simp -implicitDefEqProofs at m_7 q_8
      try simp only [q_8] at m_7
      try simp only [q_8] at h_5
      try simp -implicitDefEqProofs +decide (maxSteps := 2000000) [-selQ_sel, hokQ_of, h_2, h_3, h_4, h_5, m_7, q_8]
      have hr := (HS.some H).symm; subst hr
      exact Hid.mk ⟨spec_l21Copy_l0_S a0 ((IntKind.i64.wrap (x3 + 1)), l7), Wk.ofk [0, 1, 2, 3] hk (by rfl) (by simp -implicitDefEqProofs [spec_l21Copy_l0_S, h_2, h_3, h_4, h_5, m_7, q_8]) (by simp -implicitDefEqProofs [spec_l21Copy_l0_S, h_2, h_3, h_4, h_5, m_7, q_8]), hR⟩
  · revert H h_1; revert q; intro y8 h_1 H
    try dsimp only at H
    try simp -implicitDefEqProofs +decide (maxSteps := 2000000) [-selQ_sel, hokQ_of, spec_l21Copy_l0_X]
    have hr := (HS.some H).symm; subst hr
    refine Hid.mk ⟨_, Wk.refl _, ?_⟩
    try simp -implicitDefEqProofs +decide (maxSteps := 2000000) [-selQ_sel, hokQ_of]
theorem spec_l01New_ok0 (hm : Try.prog.follows .mixedOrders = true) : Sound Try.prog 104 spec_l01New_x := by
  refine xOf_sound fun q r h => ?_
  revert h; revert r; revert q; intro a0 r h
  refine fn_ok E0 hm Try.func104 rfl (by decide +kernel) (by rfl) fun Γ hn hk => ?_
  dsimp only [spec_l01New_e, spec_l01New_v]
  replace hn : Γ.n = 32 := hn
  replace hk : Γ.k = 0 := hk
  have H : HS (spec_l01New a0) r := h
  clear h; unfold spec_l01New at H
  try simp -implicitDefEqProofs at H
  refine Tr.of_vc (cl := tabC []) (E := E0) [] tab_nil hm (by rw [hn]; decide +kernel) ?_
  try simp -implicitDefEqProofs (maxSteps := 2000000) [-selQ_sel]
  obtain ⟨q, h_1, H⟩ := HS.bnd H
  refine Hid.mk (Tr.weak (s' := (spec_l01New_l0_S a0) ((IntKind.i64.wrap (28001 + (List.length a0 : Int))), 0)) (Wk.ofk [] hk (by rfl) (by simp -implicitDefEqProofs [spec_l01New_l0_S]) (by simp -implicitDefEqProofs [spec_l01New_l0_S])) ?_)
  refine wp_loop_of (S := (spec_l01New_l0_S a0)) (f := (spec_l01New_l0 a0)) (xt := (spec_l01New_l0_X a0)) ?_ ?_ h_1 ?_
  · intro q; simp [spec_l01New_l0_X]
  · clear H h_1 q
    rintro ⟨x2, x3⟩ o R hf hR
    have H : HS (spec_l01New_l0 a0 (x2, x3)) o := hf
    clear hf; unfold spec_l01New_l0 at H
    try simp -implicitDefEqProofs at H
    refine Tr.of_vc (cl := tabC []) (E := E0) [] tab_nil hm (by rw [hn]; decide +kernel) ?_
    try simp -implicitDefEqProofs (maxSteps := 2000000) [-selQ_sel, spec_l01New_l0_S]
    refine Hid.selQ (fun h_2 => ?_) (fun h_2 => ?_)
    · replace H := HS.cnd_t h_2 H
      try simp -implicitDefEqProofs (maxSteps := 2000000) [-selQ_sel, h_2]
      have hr := (HS.some H).symm; subst hr
      exact Hid.mk ⟨(spec_l01New_l0_X a0 x2).2, Wk.ofk [] hk (by rfl) (by simp -implicitDefEqProofs [spec_l01New_l0_X, h_2]) (by simp -implicitDefEqProofs [spec_l01New_l0_X, h_2]), hR⟩
    · replace H := HS.cnd_f h_2 H
      try simp -implicitDefEqProofs (maxSteps := 2000000) [-selQ_sel, h_2]
      refine Hid.brV (fun h_3 => ?_) (fun h_3 => ?_)
      · replace H := HS.cnd_t h_3 H
        try simp -implicitDefEqProofs (maxSteps := 2000000) [-selQ_sel, h_2, h_3]
        have hr := (HS.some H).symm; subst hr
        exact Hid.mk ⟨(spec_l01New_l0_X a0 x2).2, Wk.ofk [] hk (by rfl) (by simp -implicitDefEqProofs [spec_l01New_l0_X, h_2, h_3]) (by simp -implicitDefEqProofs [spec_l01New_l0_X, h_2, h_3]), hR⟩
      · replace H := HS.cnd_f h_3 H
        try simp -implicitDefEqProofs (maxSteps := 2000000) [-selQ_sel, h_2, h_3]
        obtain ⟨v4, h_4, H⟩ := HS.bnd H
        try simp -implicitDefEqProofs (maxSteps := 2000000) [-selQ_sel, h_2, h_3, h_4]
        have hr := (HS.some H).symm; subst hr
        exact Hid.mk ⟨spec_l01New_l0_S a0 ((andI .i64 (IntKind.i64.wrap ((IntKind.i64.wrap ((IntKind.i64.wrap (x2 * 131)) + (IntKind.i64.wrap v4))) + 7)) 1073741823), (IntKind.i64.wrap (x3 + 1))), Wk.ofk [] hk (by rfl) (by simp -implicitDefEqProofs [spec_l01New_l0_S, h_2, h_3, h_4]) (by simp -implicitDefEqProofs [spec_l01New_l0_S, h_2, h_3, h_4]), hR⟩
  · revert H h_1; revert q; intro y5 h_1 H
    try dsimp only at H
    try simp -implicitDefEqProofs (maxSteps := 2000000) [-selQ_sel, spec_l01New_l0_X]
    have hr := (HS.some H).symm; subst hr
    refine Hid.mk ⟨⟨[(2, AV.optr 0 0 3)], [(0, Ob.box [AV.fsl (List.map (AV.int .u8) a0), AV.int .i64 0, AV.int .i64 y5])], 1⟩, Wk.ofk [0] hk (by rfl) (by simp -implicitDefEqProofs []) (by simp -implicitDefEqProofs []), ?_⟩
    try simp -implicitDefEqProofs (maxSteps := 2000000) [-selQ_sel]
theorem spec_RoundDiv_ok0 (hm : Try.prog.follows .mixedOrders = true) (k_spec_FloorDiv : Sound Try.prog 234 spec_FloorDiv_x) : Sound Try.prog 229 spec_RoundDiv_x := by
  refine xOf_sound fun q r h => ?_
  obtain ⟨a0, a1⟩ := q
  refine fn_ok E0 hm Try.func229 rfl (by decide +kernel) (by rfl) fun Γ hn hk => ?_
  dsimp only [spec_RoundDiv_e, spec_RoundDiv_v]
  replace hn : Γ.n = 25 := hn
  replace hk : Γ.k = 0 := hk
  have H : HS (spec_RoundDiv a0 a1) r := h
  clear h; unfold spec_RoundDiv at H
  try simp -implicitDefEqProofs at H
  refine Tr.of_vc (cl := tabC [(234, spec_FloorDiv_x)]) (E := E0) [] (tab_cons k_spec_FloorDiv tab_nil) hm (by rw [hn]; decide +kernel) ?_
  try simp -implicitDefEqProofs (maxSteps := 2000000) [-selQ_sel]
  refine Hid.brV (fun h_1 => ?_) (fun h_1 => ?_)
  · replace H := HS.cnd_t h_1 H
    try simp -implicitDefEqProofs (maxSteps := 2000000) [-selQ_sel, h_1]
    obtain ⟨v1, h_2, H⟩ := HS.bnd H
    try simp -implicitDefEqProofs (maxSteps := 2000000) [-selQ_sel, h_1, h_2]
    refine Hid.brV (fun h_3 => ?_) (fun h_3 => ?_)
    · replace H := HS.cnd_t h_3 H
      try simp -implicitDefEqProofs (maxSteps := 2000000) [-selQ_sel, h_1, h_2, h_3]
      have hr := (HS.some H).symm; subst hr
      refine Hid.mk ⟨_, Wk.refl _, ?_⟩
      try simp -implicitDefEqProofs (maxSteps := 2000000) [-selQ_sel, h_1, h_2, h_3]
    · replace H := HS.cnd_f h_3 H
      try simp -implicitDefEqProofs (maxSteps := 2000000) [-selQ_sel, h_1, h_2, h_3]
      have hr := (HS.some H).symm; subst hr
      refine Hid.mk ⟨_, Wk.refl _, ?_⟩
      try simp -implicitDefEqProofs (maxSteps := 2000000) [-selQ_sel, h_1, h_2, h_3]
  · replace H := HS.cnd_f h_1 H
    try simp -implicitDefEqProofs (maxSteps := 2000000) [-selQ_sel, h_1]
    have hr := (HS.some H).symm; subst hr
    refine Hid.mk ⟨_, Wk.refl _, ?_⟩
    try simp -implicitDefEqProofs (maxSteps := 2000000) [-selQ_sel, h_1]
theorem impl_Forget_ok0 (hm : Try.prog.follows .mixedOrders = true) (k_impl_copyCache : Sound Try.prog 82 impl_copyCache_x) (k_slices_DeleteFunc_Kept_Forget_1 : Sound Try.prog 83 slices_DeleteFunc_Kept_Forget_1_x) : Sound Try.prog 23 impl_Forget_x := by
  refine xOf_sound fun q r h => ?_
  obtain ⟨a0, a1⟩ := q
  refine fn_ok E0 hm Try.func23 rfl (by decide +kernel) (by rfl) fun Γ hn hk => ?_
  dsimp only [impl_Forget_e, impl_Forget_v]
  replace hn : Γ.n = 14 := hn
  replace hk : Γ.k = 0 := hk
  have H : HS (impl_Forget a0 a1) r := h
  clear h; unfold impl_Forget at H
  try simp -implicitDefEqProofs at H
  refine Tr.of_vc (cl := tabC [(82, impl_copyCache_x), (83, slices_DeleteFunc_Kept_Forget_1_x)]) (E := E0) [] (tab_cons k_impl_copyCache (tab_cons k_slices_DeleteFunc_Kept_Forget_1 tab_nil)) hm (by rw [hn]; decide +kernel) ?_
  try simp -implicitDefEqProofs (maxSteps := 2000000) [-selQ_sel]
  obtain ⟨⟨w2, w3⟩, h_1, H⟩ := HS.bnd H
  dsimp only at H
  try simp -implicitDefEqProofs (maxSteps := 2000000) [-selQ_sel, h_1]
  obtain ⟨⟨w5, w6⟩, h_2, H⟩ := HS.bnd H
  dsimp only at H
  try simp -implicitDefEqProofs (maxSteps := 2000000) [-selQ_sel, h_1, h_2]
  obtain ⟨v7, h_3, H⟩ := HS.bnd H
  have s_4 := (slc_spec h_3).1
  have s_5 := slc_fit h_3
  have s_6 := slc_map (e := eKept) h_3
  have s_7 := (slc_spec h_3).2.1
  simp -implicitDefEqProofs at s_4 s_5 s_6 s_7
  try simp only [s_7] at s_5 s_6
  try simp -implicitDefEqProofs (maxSteps := 2000000) [-selQ_sel, h_1, h_2, h_3, s_4, s_5, s_6, s_7]
  have hr := (HS.some H).symm; subst hr
  refine Hid.mk ⟨_, Wk.refl _, ?_⟩
  try simp -implicitDefEqProofs (maxSteps := 2000000) [-selQ_sel, h_1, h_2, h_3, s_4, s_5, s_6, s_7]
theorem spec_l10Near_ok0 (hm : Try.prog.follows .mixedOrders = true) (k_spec_l01In : Sound Try.prog 91 spec_l01In_x) : Sound Try.prog 235 spec_l10Near_x := by
  refine xOf_sound fun q r h => ?_
  revert h; revert r; revert q; intro a0 r h
  refine fn_ok E0 hm Try.func235 rfl (by decide +kernel) (by rfl) fun Γ hn hk => ?_
  dsimp only [spec_l10Near_e, spec_l10Near_v]
  replace hn : Γ.n = 11 := hn
  replace hk : Γ.k = 0 := hk
  have H : HS (spec_l10Near a0) r := h
  clear h; unfold spec_l10Near at H
  try simp -implicitDefEqProofs at H
  refine Tr.of_vc (cl := tabC [(91, spec_l01In_x)]) (E := E0) [] (tab_cons k_spec_l01In tab_nil) hm (by rw [hn]; decide +kernel) ?_
  try simp -implicitDefEqProofs (maxSteps := 2000000) [-selQ_sel]
  obtain ⟨v1, h_1, H⟩ := HS.bnd H
  try simp -implicitDefEqProofs (maxSteps := 2000000) [-selQ_sel, h_1]
  refine Hid.selQ (fun h_2 => ?_) (fun h_2 => ?_)
  · replace H := HS.cnd_t h_2 H
    try simp -implicitDefEqProofs (maxSteps := 2000000) [-selQ_sel, h_1, h_2]
    obtain ⟨v2, h_3, H⟩ := HS.bnd H
    try simp -implicitDefEqProofs (maxSteps := 2000000) [-selQ_sel, h_1, h_2, h_3]
    have hr := (HS.some H).symm; subst hr
    refine Hid.mk ⟨_, Wk.refl _, ?_⟩
    try simp -implicitDefEqProofs (maxSteps := 2000000) [-selQ_sel, h_1, h_2, h_3]
  · replace H := HS.cnd_f h_2 H
    try simp -implicitDefEqProofs (maxSteps := 2000000) [-selQ_sel, h_1, h_2]
    have hr := (HS.some H).symm; subst hr
    refine Hid.mk ⟨_, Wk.refl _, ?_⟩
    try simp -implicitDefEqProofs (maxSteps := 2000000) [-selQ_sel, h_1, h_2]
theorem laws_sameMask_ok0 (hm : Try.prog.follows .mixedOrders = true) (k_laws_sameInts : Sound Try.prog 108 laws_sameInts_x) : Sound Try.prog 43 laws_sameMask_x := by
  refine xOf_sound fun q r h => ?_
  obtain ⟨a0, a1⟩ := q
  refine fn_ok E0 hm Try.func43 rfl (by decide +kernel) (by rfl) fun Γ hn hk => ?_
  dsimp only [laws_sameMask_e, laws_sameMask_v]
  replace hn : Γ.n = 17 := hn
  replace hk : Γ.k = 0 := hk
  have H : HS (laws_sameMask a0 a1) r := h
  clear h; unfold laws_sameMask at H
  try simp -implicitDefEqProofs at H
  refine Tr.of_vc (cl := tabC [(108, laws_sameInts_x)]) (E := E0) [] (tab_cons k_laws_sameInts tab_nil) hm (by rw [hn]; decide +kernel) ?_
  try simp -implicitDefEqProofs (maxSteps := 2000000) [-selQ_sel]
  refine Hid.selQ (fun h_1 => ?_) (fun h_1 => ?_)
  · replace H := HS.cnd_t h_1 H
    try simp -implicitDefEqProofs (maxSteps := 2000000) [-selQ_sel, h_1]
    obtain ⟨v1, h_2, H⟩ := HS.bnd H
    try simp -implicitDefEqProofs (maxSteps := 2000000) [-selQ_sel, h_1, h_2]
    have hr := (HS.some H).symm; subst hr
    refine Hid.mk ⟨_, Wk.refl _, ?_⟩
    try simp -implicitDefEqProofs (maxSteps := 2000000) [-selQ_sel, h_1, h_2]
  · replace H := HS.cnd_f h_1 H
    try simp -implicitDefEqProofs (maxSteps := 2000000) [-selQ_sel, h_1]
    have hr := (HS.some H).symm; subst hr
    refine Hid.mk ⟨_, Wk.refl _, ?_⟩
    try simp -implicitDefEqProofs (maxSteps := 2000000) [-selQ_sel, h_1]
theorem spec_DrawRightCache_ok0 (hm : Try.prog.follows .mixedOrders = true) (k_spec_l01New : Sound Try.prog 104 spec_l01New_x) (k_spec_l21Cache : Sound Try.prog 103 spec_l21Cache_x) : Sound Try.prog 39 spec_DrawRightCache_x := by
  refine xOf_sound fun q r h => ?_
  revert h; revert r; revert q; intro a0 r h
  refine fn_ok E0 hm Try.func39 rfl (by decide +kernel) (by rfl) fun Γ hn hk => ?_
  dsimp only [spec_DrawRightCache_e, spec_DrawRightCache_v]
  replace hn : Γ.n = 6 := hn
  replace hk : Γ.k = 0 := hk
  have H : HS (spec_DrawRightCache a0) r := h
  clear h; unfold spec_DrawRightCache at H
  try simp -implicitDefEqProofs at H
  refine Tr.of_vc (cl := tabC [(104, spec_l01New_x), (103, spec_l21Cache_x)]) (E := E0) [] (tab_cons k_spec_l01New (tab_cons k_spec_l21Cache tab_nil)) hm (by rw [hn]; decide +kernel) ?_
  try simp -implicitDefEqProofs (maxSteps := 2000000) [-selQ_sel]
  obtain ⟨v1, h_1, H⟩ := HS.bnd H
  try simp -implicitDefEqProofs (maxSteps := 2000000) [-selQ_sel, h_1]
  obtain ⟨⟨w3, w4⟩, h_2, H⟩ := HS.bnd H
  dsimp only at H
  try simp -implicitDefEqProofs (maxSteps := 2000000) [-selQ_sel, h_1, h_2]
  have hr := (HS.some H).symm; subst hr
  refine Hid.mk ⟨_, Wk.refl _, ?_⟩
  try simp -implicitDefEqProofs (maxSteps := 2000000) [-selQ_sel, h_1, h_2]
theorem impl_inRange_ok0 (hm : Try.prog.follows .mixedOrders = true) : Sound Try.prog 95 impl_inRange_x := by
  refine xOf_sound fun q r h => ?_
  obtain ⟨a0, a1, a2⟩ := q
  refine fn_ok E0 hm Try.func95 rfl (by decide +kernel) (by rfl) fun Γ hn hk => ?_
  dsimp only [impl_inRange_e, impl_inRange_v]
  replace hn : Γ.n = 15 := hn
  replace hk : Γ.k = 0 := hk
  have H : HS (impl_inRange a0 a1 a2) r := h
  clear h; unfold impl_inRange at H
  try simp -implicitDefEqProofs at H
  refine Tr.of_vc (cl := tabC []) (E := E0) [] tab_nil hm (by rw [hn]; decide +kernel) ?_
  try simp -implicitDefEqProofs (maxSteps := 2000000) [-selQ_sel]
  refine Hid.selQ (fun h_1 => ?_) (fun h_1 => ?_)
  · replace H := HS.cnd_t h_1 H
    try simp -implicitDefEqProofs (maxSteps := 2000000) [-selQ_sel, h_1]
    have hr := (HS.some H).symm; subst hr
    refine Hid.mk ⟨_, Wk.refl _, ?_⟩
    try simp -implicitDefEqProofs (maxSteps := 2000000) [-selQ_sel, h_1]
  · replace H := HS.cnd_f h_1 H
    try simp -implicitDefEqProofs (maxSteps := 2000000) [-selQ_sel, h_1]
    have hr := (HS.some H).symm; subst hr
    refine Hid.mk ⟨_, Wk.refl _, ?_⟩
    try simp -implicitDefEqProofs (maxSteps := 2000000) [-selQ_sel, h_1]
theorem spec_l04Point_ok0 (hm : Try.prog.follows .mixedOrders = true) (k_spec_l01Below : Sound Try.prog 107 spec_l01Below_x) : Sound Try.prog 214 spec_l04Point_x := by
  refine xOf_sound fun q r h => ?_
  revert h; revert r; revert q; intro a0 r h
  refine fn_ok E0 hm Try.func214 rfl (by decide +kernel) (by rfl) fun Γ hn hk => ?_
  dsimp only [spec_l04Point_e, spec_l04Point_v]
  replace hn : Γ.n = 10 := hn
  replace hk : Γ.k = 1 := hk
  have H : HS (spec_l04Point a0) r := h
  clear h; unfold spec_l04Point at H
  try simp -implicitDefEqProofs at H
  refine Tr.of_vc (cl := tabC [(107, spec_l01Below_x)]) (E := E0) [] (tab_cons k_spec_l01Below tab_nil) hm (by rw [hn]; decide +kernel) ?_
  try simp -implicitDefEqProofs (maxSteps := 2000000) [-selQ_sel]
  obtain ⟨⟨w2, w3⟩, h_1, H⟩ := HS.bnd H
  dsimp only at H
  try simp -implicitDefEqProofs (maxSteps := 2000000) [-selQ_sel, h_1]
  obtain ⟨⟨w5, w6⟩, h_2, H⟩ := HS.bnd H
  dsimp only at H
  try simp -implicitDefEqProofs (maxSteps := 2000000) [-selQ_sel, h_1, h_2]
  have hr := (HS.some H).symm; subst hr
  refine Hid.mk ⟨_, Wk.refl _, ?_⟩
  try simp -implicitDefEqProofs (maxSteps := 2000000) [-selQ_sel, h_1, h_2]
theorem slices_Contains_int_ok0 (hm : Try.prog.follows .mixedOrders = true) (k_slices_Index_int : Sound Try.prog 159 slices_Index_int_x) : Sound Try.prog 85 slices_Contains_int_x := by
  refine xOf_sound fun q r h => ?_
  obtain ⟨a0, a1⟩ := q
  refine fn_ok E0 hm Try.func85 rfl (by decide +kernel) (by rfl) fun Γ hn hk => ?_
  dsimp only [slices_Contains_int_e, slices_Contains_int_v]
  replace hn : Γ.n = 9 := hn
  replace hk : Γ.k = 0 := hk
  have H : HS (slices_Contains_int a0 a1) r := h
  clear h; unfold slices_Contains_int at H
  try simp -implicitDefEqProofs at H
  refine Tr.of_vc (cl := tabC [(159, slices_Index_int_x)]) (E := E0) [] (tab_cons k_slices_Index_int tab_nil) hm (by rw [hn]; decide +kernel) ?_
  try simp -implicitDefEqProofs (maxSteps := 2000000) [-selQ_sel]
  obtain ⟨v1, h_1, H⟩ := HS.bnd H
  try simp -implicitDefEqProofs (maxSteps := 2000000) [-selQ_sel, h_1]
  have hr := (HS.some H).symm; subst hr
  refine Hid.mk ⟨_, Wk.refl _, ?_⟩
  try simp -implicitDefEqProofs (maxSteps := 2000000) [-selQ_sel, h_1]
theorem spec_l01Once_ok0 (hm : Try.prog.follows .mixedOrders = true) (k_spec_l01Below : Sound Try.prog 107 spec_l01Below_x) : Sound Try.prog 170 spec_l01Once_x := by
  refine xOf_sound fun q r h => ?_
  obtain ⟨a0, a1⟩ := q
  refine fn_ok E0 hm Try.func170 rfl (by decide +kernel) (by rfl) fun Γ hn hk => ?_
  dsimp only [spec_l01Once_e, spec_l01Once_v]
  replace hn : Γ.n = 9 := hn
  replace hk : Γ.k = 1 := hk
  have H : HS (spec_l01Once a0 a1) r := h
  clear h; unfold spec_l01Once at H
  try simp -implicitDefEqProofs at H
  refine Tr.of_vc (cl := tabC [(107, spec_l01Below_x)]) (E := E0) [] (tab_cons k_spec_l01Below tab_nil) hm (by rw [hn]; decide +kernel) ?_
  try simp -implicitDefEqProofs (maxSteps := 2000000) [-selQ_sel]
  obtain ⟨⟨w2, w3⟩, h_1, H⟩ := HS.bnd H
  dsimp only at H
  try simp -implicitDefEqProofs (maxSteps := 2000000) [-selQ_sel, h_1]
  have hr := (HS.some H).symm; subst hr
  refine Hid.mk ⟨_, Wk.refl _, ?_⟩
  try simp -implicitDefEqProofs (maxSteps := 2000000) [-selQ_sel, h_1]
end Go.Proofs.Ytafljhadfoaceaa.Am
