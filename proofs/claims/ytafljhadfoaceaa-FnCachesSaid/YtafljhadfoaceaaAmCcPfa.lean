import Derived.Test.YtafljhadfoaceaaAmCcMo
set_option linter.unusedVariables false
set_option linter.unusedSimpArgs false
set_option linter.unusedSectionVars false
namespace Go.Proofs.Ytafljhadfoaceaa.Am
open Go Go.Proofs
set_option maxRecDepth 100000
set_option linter.unusedSimpArgs false
set_option linter.unusedVariables false
set_option maxHeartbeats 4000000
theorem spec_l06Path_ok0 (hm : Try.prog.follows .mixedOrders = true) (k_spec_l01Once : Sound Try.prog 170 spec_l01Once_x) (k_spec_l01Below : Sound Try.prog 107 spec_l01Below_x) (k_spec_RectPath : Sound Try.prog 213 spec_RectPath_x) (k_spec_l01PickInt : Sound Try.prog 171 spec_l01PickInt_x) (k_spec_NeedOf : Sound Try.prog 212 spec_NeedOf_x) (k_spec_l04Point : Sound Try.prog 214 spec_l04Point_x) : Sound Try.prog 169 spec_l06Path_x := by
  refine xOf_sound fun q r h => ?_
  revert h; revert r; revert q; intro a0 r h
  refine fn_ok E0 hm Try.func169 rfl (by decide +kernel) (by rfl) fun Γ hn hk => ?_
  dsimp only [spec_l06Path_e, spec_l06Path_v]
  replace hn : Γ.n = 79 := hn
  replace hk : Γ.k = 1 := hk
  have H : HS (spec_l06Path a0) r := h
  clear h; unfold spec_l06Path at H
  try simp -implicitDefEqProofs at H
  refine Tr.of_vc (cl := tabC [(170, spec_l01Once_x), (107, spec_l01Below_x), (213, spec_RectPath_x), (171, spec_l01PickInt_x), (212, spec_NeedOf_x), (214, spec_l04Point_x)]) (E := E0) [] (tab_cons k_spec_l01Once (tab_cons k_spec_l01Below (tab_cons k_spec_RectPath (tab_cons k_spec_l01PickInt (tab_cons k_spec_NeedOf (tab_cons k_spec_l04Point tab_nil)))))) hm (by rw [hn]; decide +kernel) ?_
  try simp -implicitDefEqProofs +decide (maxSteps := 2000000) [-selQ_sel, hokQ_of]
  obtain ⟨⟨w2, w3⟩, h_1, H⟩ := HS.bnd H
  dsimp only at H
  try simp -implicitDefEqProofs +decide (maxSteps := 2000000) [-selQ_sel, hokQ_of, h_1]
  refine Hid.brV (fun h_2 => ?_) (fun h_2 => ?_)
  · replace H := HS.cnd_t h_2 H
    try simp -implicitDefEqProofs +decide (maxSteps := 2000000) [-selQ_sel, hokQ_of, h_1, h_2]
    obtain ⟨⟨w5, w6⟩, h_3, H⟩ := HS.bnd H
    dsimp only at H
    try simp -implicitDefEqProofs +decide (maxSteps := 2000000) [-selQ_sel, hokQ_of, h_1, h_2, h_3]
    obtain ⟨⟨w8, w9⟩, h_4, H⟩ := HS.bnd H
    dsimp only at H
    try simp -implicitDefEqProofs +decide (maxSteps := 2000000) [-selQ_sel, hokQ_of, h_1, h_2, h_3, h_4]
    obtain ⟨⟨w11, w12⟩, h_5, H⟩ := HS.bnd H
    dsimp only at H
    try simp -implicitDefEqProofs +decide (maxSteps := 2000000) [-selQ_sel, hokQ_of, h_1, h_2, h_3, h_4, h_5]
    obtain ⟨⟨w14, w15⟩, h_6, H⟩ := HS.bnd H
    dsimp only at H
    try simp -implicitDefEqProofs +decide (maxSteps := 2000000) [-selQ_sel, hokQ_of, h_1, h_2, h_3, h_4, h_5, h_6]
    obtain ⟨v16, h_7, H⟩ := HS.bnd H
    try simp -implicitDefEqProofs +decide (maxSteps := 2000000) [-selQ_sel, hokQ_of, h_1, h_2, h_3, h_4, h_5, h_6, h_7]
    have hr := (HS.some H).symm; subst hr
    refine Hid.mk ⟨_, Wk.refl _, ?_⟩
    try simp -implicitDefEqProofs +decide (maxSteps := 2000000) [-selQ_sel, hokQ_of, h_1, h_2, h_3, h_4, h_5, h_6, h_7]
  · replace H := HS.cnd_f h_2 H
    try simp -implicitDefEqProofs +decide (maxSteps := 2000000) [-selQ_sel, hokQ_of, h_1, h_2]
    obtain ⟨q, h_8, H⟩ := HS.bnd H
    refine Hid.mk (Tr.weak (s' := spec_l06Path_l3_S (0, w3.b, w3.i, w3.h, [], [])) (Wk.ofk [0, 1, 2, 3, 4] hk (by rfl) (by simp -implicitDefEqProofs [spec_l06Path_l3_S, h_1, h_2]) (by simp -implicitDefEqProofs [spec_l06Path_l3_S, h_1, h_2])) ?_)
    refine wp_loop_of (S := spec_l06Path_l3_S) (f := spec_l06Path_l3) (xt := spec_l06Path_l3_X) ?_ ?_ h_8 ?_
    · intro q; rcases q with ⟨y118, y119, y120, y121, y122⟩ | ⟨y123, y124, y125, y126, y127⟩ <;> simp [spec_l06Path_l3_X]
    · clear H h_8 q
      rintro ⟨x42, x43, x44, x45, x46, x47⟩ o R hf hR
      have H : HS (spec_l06Path_l3 (x42, x43, x44, x45, x46, x47)) o := hf
      clear hf; unfold spec_l06Path_l3 at H
      try simp -implicitDefEqProofs at H
      refine Tr.of_vc (cl := tabC [(170, spec_l01Once_x), (107, spec_l01Below_x), (213, spec_RectPath_x), (171, spec_l01PickInt_x), (212, spec_NeedOf_x), (214, spec_l04Point_x)]) (E := E0) [] (tab_cons k_spec_l01Once (tab_cons k_spec_l01Below (tab_cons k_spec_RectPath (tab_cons k_spec_l01PickInt (tab_cons k_spec_NeedOf (tab_cons k_spec_l04Point tab_nil)))))) hm (by rw [hn]; decide +kernel) ?_
      try simp -implicitDefEqProofs +decide (maxSteps := 2000000) [-selQ_sel, hokQ_of, spec_l06Path_l3_S]
      obtain ⟨⟨w49, w50⟩, h_9, H⟩ := HS.bnd H
      dsimp only at H
      have k_10 := spec_l01Below_k 6 ((TL01Cur.mk x43 x44 x45).b) ((TL01Cur.mk x43 x44 x45).i) ((TL01Cur.mk x43 x44 x45).h)
      simp -implicitDefEqProofs [-spec_l01Below_k] at k_10
      try simp -implicitDefEqProofs +decide (maxSteps := 2000000) [-selQ_sel, hokQ_of, h_9, k_10]
      refine Hid.brV (fun h_11 => ?_) (fun h_11 => ?_)
      · replace H := HS.cnd_t h_11 H
        try simp -implicitDefEqProofs +decide (maxSteps := 2000000) [-selQ_sel, hokQ_of, h_9, k_10, h_11]
        have hr := (HS.some H).symm; subst hr
        exact Hid.mk ⟨(spec_l06Path_l3_X (.inl (w50.b, w50.i, w50.h, x46, x47))).2, Wk.ofk [0, 1, 2, 3, 4] hk (by rfl) (by simp -implicitDefEqProofs [spec_l06Path_l3_X, h_9, k_10, h_11]) (by simp -implicitDefEqProofs [spec_l06Path_l3_X, h_9, k_10, h_11]), hR⟩
      · replace H := HS.cnd_f h_11 H
        try simp -implicitDefEqProofs +decide (maxSteps := 2000000) [-selQ_sel, hokQ_of, h_9, k_10, h_11]
        obtain ⟨⟨w52, w53⟩, h_12, H⟩ := HS.bnd H
        dsimp only at H
        have k_13 := spec_l01PickInt_k w50.b w50.i w50.h [2, 2, 2, 3, 4, 5, 1]
        simp -implicitDefEqProofs [-spec_l01PickInt_k] at k_13
        try simp -implicitDefEqProofs +decide (maxSteps := 2000000) [-selQ_sel, hokQ_of, h_9, k_10, h_11, h_12, k_13]
        refine Hid.selQ (fun h_14 => ?_) (fun h_14 => ?_)
        · replace H := HS.cnd_t h_14 H
          try simp -implicitDefEqProofs +decide (maxSteps := 2000000) [-selQ_sel, hokQ_of, h_9, k_10, h_11, h_12, k_13, h_14]
          obtain ⟨v54, h_15, H⟩ := HS.bnd H
          try simp -implicitDefEqProofs +decide (maxSteps := 2000000) [-selQ_sel, hokQ_of, h_9, k_10, h_11, h_12, k_13, h_14, h_15]
          refine Hid.brV (fun h_16 => ?_) (fun h_16 => ?_)
          · replace H := HS.cnd_t h_16 H
            try simp -implicitDefEqProofs +decide (maxSteps := 2000000) [-selQ_sel, hokQ_of, h_9, k_10, h_11, h_12, k_13, h_14, h_15, h_16]
            obtain ⟨h_17, H⟩ := HS.chkP H
            try simp -implicitDefEqProofs +decide (maxSteps := 2000000) [-selQ_sel, hokQ_of, h_9, k_10, h_11, h_12, k_13, h_14, h_15, h_16, h_17]
            obtain ⟨l55, h_18, H⟩ := HS.nam H
            have m_19 := congrArg (List.map (AV.int .i64)) h_18
            have q_20 := congrArg List.length h_18
            simp -implicitDefEqProofs at m_19 q_20
            try simp only [q_20] at m_19
            try simp only [q_20] at h_17
            try simp -implicitDefEqProofs +decide (maxSteps := 2000000) [-selQ_sel, hokQ_of, h_9, k_10, h_11, h_12, k_13, h_14, h_15, h_16, h_17, m_19, q_20]
            obtain ⟨q, h_21, H⟩ := HS.bnd H
            refine Hid.mk (Tr.weak (s' := (spec_l06Path_l0_S l55 x42) (0, w53.b, w53.i, w53.h, x47)) (Wk.ofk [0, 1, 2, 3, 4] hk (by rfl) (by simp -implicitDefEqProofs [spec_l06Path_l0_S, h_9, k_10, h_11, h_12, k_13, h_14, h_15, h_16, h_17, m_19, q_20]) (by simp -implicitDefEqProofs [spec_l06Path_l0_S, h_9, k_10, h_11, h_12, k_13, h_14, h_15, h_16, h_17, m_19, q_20])) ?_)
            refine wp_loop_of (S := (spec_l06Path_l0_S l55 x42)) (f := (spec_l06Path_l0 l55 x42)) (xt := (spec_l06Path_l0_X l55 x42)) ?_ ?_ h_21 ?_
            · intro q; rcases q with ⟨y71, y72, y73, y74⟩ <;> simp [spec_l06Path_l0_X]
            · clear H h_21 q
              rintro ⟨x61, x62, x63, x64, x65⟩ o R hf hR
              have H : HS (spec_l06Path_l0 l55 x42 (x61, x62, x63, x64, x65)) o := hf
              clear hf; unfold spec_l06Path_l0 at H
              try simp -implicitDefEqProofs at H
              refine Tr.of_vc (cl := tabC [(170, spec_l01Once_x), (107, spec_l01Below_x), (213, spec_RectPath_x), (171, spec_l01PickInt_x), (212, spec_NeedOf_x), (214, spec_l04Point_x)]) (E := E0) [] (tab_cons k_spec_l01Once (tab_cons k_spec_l01Below (tab_cons k_spec_RectPath (tab_cons k_spec_l01PickInt (tab_cons k_spec_NeedOf (tab_cons k_spec_l04Point tab_nil)))))) hm (by rw [hn]; decide +kernel) ?_
              try simp -implicitDefEqProofs +decide (maxSteps := 2000000) [-selQ_sel, hokQ_of, spec_l06Path_l0_S]
              obtain ⟨v66, h_22, H⟩ := HS.bnd H
              try simp -implicitDefEqProofs +decide (maxSteps := 2000000) [-selQ_sel, hokQ_of, h_22]
              refine Hid.brV (fun h_23 => ?_) (fun h_23 => ?_)
              · replace H := HS.cnd_t h_23 H
                try simp -implicitDefEqProofs +decide (maxSteps := 2000000) [-selQ_sel, hokQ_of, h_22, h_23]
                have hr := (HS.some H).symm; subst hr
                exact Hid.mk ⟨(spec_l06Path_l0_X l55 x42 (x62, x63, x64, x65)).2, Wk.ofk [0, 1, 2, 3, 4] hk (by rfl) (by simp -implicitDefEqProofs [spec_l06Path_l0_X, h_22, h_23]) (by simp -implicitDefEqProofs [spec_l06Path_l0_X, h_22, h_23]), hR⟩
              · replace H := HS.cnd_f h_23 H
                try simp -implicitDefEqProofs +decide (maxSteps := 2000000) [-selQ_sel, hokQ_of, h_22, h_23]
                obtain ⟨⟨w68, w69⟩, h_24, H⟩ := HS.bnd H
                dsimp only at H
                have k_25 := spec_l04Point_k ((TL01Cur.mk x62 x63 x64).b) ((TL01Cur.mk x62 x63 x64).i) ((TL01Cur.mk x62 x63 x64).h)
                simp -implicitDefEqProofs [-spec_l04Point_k] at k_25
                try simp -implicitDefEqProofs +decide (maxSteps := 2000000) [-selQ_sel, hokQ_of, h_22, h_23, h_24, k_25]
                obtain ⟨h_26, H⟩ := HS.chkP H
                try simp -implicitDefEqProofs +decide (maxSteps := 2000000) [-selQ_sel, hokQ_of, h_22, h_23, h_24, k_25, h_26]
                obtain ⟨l70, h_27, H⟩ := HS.nam H
                have m_28 := congrArg (List.map ePoint) h_27
                have q_29 := congrArg List.length h_27
                simp -implicitDefEqProofs at m_28 q_29
                try simp only [q_29] at m_28
                try simp only [q_29] at h_26
                try simp -implicitDefEqProofs +decide (maxSteps := 2000000) [-selQ_sel, hokQ_of, h_22, h_23, h_24, k_25, h_26, m_28, q_29]
                have hr := (HS.some H).symm; subst hr
                exact Hid.mk ⟨spec_l06Path_l0_S l55 x42 ((IntKind.i64.wrap (x61 + 1)), w69.b, w69.i, w69.h, l70), Wk.ofk [0, 1, 2, 3, 4] hk (by rfl) (by simp -implicitDefEqProofs [spec_l06Path_l0_S, h_22, h_23, h_24, k_25, h_26, m_28, q_29]) (by simp -implicitDefEqProofs [spec_l06Path_l0_S, h_22, h_23, h_24, k_25, h_26, m_28, q_29]), hR⟩
            · obtain ⟨y71, y72, y73, y74⟩ := q
              try dsimp only at H
              try simp -implicitDefEqProofs +decide (maxSteps := 2000000) [-selQ_sel, hokQ_of, h_9, k_10, h_11, h_12, k_13, h_14, h_15, h_16, h_17, m_19, q_20, spec_l06Path_l0_X]
              have hr := (HS.some H).symm; subst hr
              exact Hid.mk ⟨spec_l06Path_l3_S ((IntKind.i64.wrap (x42 + 1)), y71, y72, y73, l55, y74), Wk.ofk [0, 1, 2, 3, 4] hk (by rfl) (by simp -implicitDefEqProofs [spec_l06Path_l3_S, h_9, k_10, h_11, h_12, k_13, h_14, h_15, h_16, h_17, m_19, q_20]) (by simp -implicitDefEqProofs [spec_l06Path_l3_S, h_9, k_10, h_11, h_12, k_13, h_14, h_15, h_16, h_17, m_19, q_20]), hR⟩
          · replace H := HS.cnd_f h_16 H
            try simp -implicitDefEqProofs +decide (maxSteps := 2000000) [-selQ_sel, hokQ_of, h_9, k_10, h_11, h_12, k_13, h_14, h_15, h_16]
            have hr := (HS.some H).symm; subst hr
            exact Hid.mk ⟨(spec_l06Path_l3_X (.inr (w53.b, w53.i, w53.h, x46, x47))).2, Wk.ofk [0, 1, 3, 4] hk (by rfl) (by simp -implicitDefEqProofs [spec_l06Path_l3_X, h_9, k_10, h_11, h_12, k_13, h_14, h_15, h_16]) (by simp -implicitDefEqProofs [spec_l06Path_l3_X, h_9, k_10, h_11, h_12, k_13, h_14, h_15, h_16]), hR⟩
        · replace H := HS.cnd_f h_14 H
          try simp -implicitDefEqProofs +decide (maxSteps := 2000000) [-selQ_sel, hokQ_of, h_9, k_10, h_11, h_12, k_13, h_14]
          obtain ⟨v75, h_30, H⟩ := HS.bnd H
          have g_31 := idx_get h_30
          try simp -implicitDefEqProofs +decide (maxSteps := 2000000) [-selQ_sel, hokQ_of, h_9, k_10, h_11, h_12, k_13, h_14, h_30, g_31]
          refine Hid.brV (fun h_32 => ?_) (fun h_32 => ?_)
          · replace H := HS.cnd_t h_32 H
            try simp -implicitDefEqProofs +decide (maxSteps := 2000000) [-selQ_sel, hokQ_of, h_9, k_10, h_11, h_12, k_13, h_14, h_30, g_31, h_32]
            obtain ⟨v76, h_33, H⟩ := HS.bnd H
            try simp -implicitDefEqProofs +decide (maxSteps := 2000000) [-selQ_sel, hokQ_of, h_9, k_10, h_11, h_12, k_13, h_14, h_30, g_31, h_32, h_33]
            refine Hid.brV (fun h_34 => ?_) (fun h_34 => ?_)
            · replace H := HS.cnd_t h_34 H
              try simp -implicitDefEqProofs +decide (maxSteps := 2000000) [-selQ_sel, hokQ_of, h_9, k_10, h_11, h_12, k_13, h_14, h_30, g_31, h_32, h_33, h_34]
              obtain ⟨h_35, H⟩ := HS.chkP H
              try simp -implicitDefEqProofs +decide (maxSteps := 2000000) [-selQ_sel, hokQ_of, h_9, k_10, h_11, h_12, k_13, h_14, h_30, g_31, h_32, h_33, h_34, h_35]
              obtain ⟨l77, h_36, H⟩ := HS.nam H
              have m_37 := congrArg (List.map (AV.int .i64)) h_36
              have q_38 := congrArg List.length h_36
              simp -implicitDefEqProofs at m_37 q_38
              try simp only [q_38] at m_37
              try simp only [q_38] at h_35
              try simp -implicitDefEqProofs +decide (maxSteps := 2000000) [-selQ_sel, hokQ_of, h_9, k_10, h_11, h_12, k_13, h_14, h_30, g_31, h_32, h_33, h_34, h_35, m_37, q_38]
              obtain ⟨q, h_39, H⟩ := HS.bnd H
              refine Hid.mk (Tr.weak (s' := (spec_l06Path_l1_S l77 x42) (0, w53.b, w53.i, w53.h, x47)) (Wk.ofk [0, 1, 2, 3, 4] hk (by rfl) (by simp -implicitDefEqProofs [spec_l06Path_l1_S, h_9, k_10, h_11, h_12, k_13, h_14, h_30, g_31, h_32, h_33, h_34, h_35, m_37, q_38]) (by simp -implicitDefEqProofs [spec_l06Path_l1_S, h_9, k_10, h_11, h_12, k_13, h_14, h_30, g_31, h_32, h_33, h_34, h_35, m_37, q_38])) ?_)
              refine wp_loop_of (S := (spec_l06Path_l1_S l77 x42)) (f := (spec_l06Path_l1 l77 x42)) (xt := (spec_l06Path_l1_X l77 x42)) ?_ ?_ h_39 ?_
              · intro q; rcases q with ⟨y93, y94, y95, y96⟩ <;> simp [spec_l06Path_l1_X]
              · clear H h_39 q
                rintro ⟨x83, x84, x85, x86, x87⟩ o R hf hR
                have H : HS (spec_l06Path_l1 l77 x42 (x83, x84, x85, x86, x87)) o := hf
                clear hf; unfold spec_l06Path_l1 at H
                try simp -implicitDefEqProofs at H
                refine Tr.of_vc (cl := tabC [(170, spec_l01Once_x), (107, spec_l01Below_x), (213, spec_RectPath_x), (171, spec_l01PickInt_x), (212, spec_NeedOf_x), (214, spec_l04Point_x)]) (E := E0) [] (tab_cons k_spec_l01Once (tab_cons k_spec_l01Below (tab_cons k_spec_RectPath (tab_cons k_spec_l01PickInt (tab_cons k_spec_NeedOf (tab_cons k_spec_l04Point tab_nil)))))) hm (by rw [hn]; decide +kernel) ?_
                try simp -implicitDefEqProofs +decide (maxSteps := 2000000) [-selQ_sel, hokQ_of, spec_l06Path_l1_S]
                obtain ⟨v88, h_40, H⟩ := HS.bnd H
                try simp -implicitDefEqProofs +decide (maxSteps := 2000000) [-selQ_sel, hokQ_of, h_40]
                refine Hid.brV (fun h_41 => ?_) (fun h_41 => ?_)
                · replace H := HS.cnd_t h_41 H
                  try simp -implicitDefEqProofs +decide (maxSteps := 2000000) [-selQ_sel, hokQ_of, h_40, h_41]
                  have hr := (HS.some H).symm; subst hr
                  exact Hid.mk ⟨(spec_l06Path_l1_X l77 x42 (x84, x85, x86, x87)).2, Wk.ofk [0, 1, 2, 3, 4] hk (by rfl) (by simp -implicitDefEqProofs [spec_l06Path_l1_X, h_40, h_41]) (by simp -implicitDefEqProofs [spec_l06Path_l1_X, h_40, h_41]), hR⟩
                · replace H := HS.cnd_f h_41 H
                  try simp -implicitDefEqProofs +decide (maxSteps := 2000000) [-selQ_sel, hokQ_of, h_40, h_41]
                  obtain ⟨⟨w90, w91⟩, h_42, H⟩ := HS.bnd H
                  dsimp only at H
                  have k_43 := spec_l04Point_k ((TL01Cur.mk x84 x85 x86).b) ((TL01Cur.mk x84 x85 x86).i) ((TL01Cur.mk x84 x85 x86).h)
                  simp -implicitDefEqProofs [-spec_l04Point_k] at k_43
                  try simp -implicitDefEqProofs +decide (maxSteps := 2000000) [-selQ_sel, hokQ_of, h_40, h_41, h_42, k_43]
                  obtain ⟨h_44, H⟩ := HS.chkP H
                  try simp -implicitDefEqProofs +decide (maxSteps := 2000000) [-selQ_sel, hokQ_of, h_40, h_41, h_42, k_43, h_44]
                  obtain ⟨l92, h_45, H⟩ := HS.nam H
                  have m_46 := congrArg (List.map ePoint) h_45
                  have q_47 := congrArg List.length h_45
                  simp -implicitDefEqProofs at m_46 q_47
                  try simp only [q_47] at m_46
                  try simp only [q_47] at h_44
                  try simp -implicitDefEqProofs +decide (maxSteps := 2000000) [-selQ_sel, hokQ_of, h_40, h_41, h_42, k_43, h_44, m_46, q_47]
                  have hr := (HS.some H).symm; subst hr
                  exact Hid.mk ⟨spec_l06Path_l1_S l77 x42 ((IntKind.i64.wrap (x83 + 1)), w91.b, w91.i, w91.h, l92), Wk.ofk [0, 1, 2, 3, 4] hk (by rfl) (by simp -implicitDefEqProofs [spec_l06Path_l1_S, h_40, h_41, h_42, k_43, h_44, m_46, q_47]) (by simp -implicitDefEqProofs [spec_l06Path_l1_S, h_40, h_41, h_42, k_43, h_44, m_46, q_47]), hR⟩
              · obtain ⟨y93, y94, y95, y96⟩ := q
                try dsimp only at H
                try simp -implicitDefEqProofs +decide (maxSteps := 2000000) [-selQ_sel, hokQ_of, h_9, k_10, h_11, h_12, k_13, h_14, h_30, g_31, h_32, h_33, h_34, h_35, m_37, q_38, spec_l06Path_l1_X]
                have hr := (HS.some H).symm; subst hr
                exact Hid.mk ⟨spec_l06Path_l3_S ((IntKind.i64.wrap (x42 + 1)), y93, y94, y95, l77, y96), Wk.ofk [0, 1, 2, 3, 4] hk (by rfl) (by simp -implicitDefEqProofs [spec_l06Path_l3_S, h_9, k_10, h_11, h_12, k_13, h_14, h_30, g_31, h_32, h_33, h_34, h_35, m_37, q_38]) (by simp -implicitDefEqProofs [spec_l06Path_l3_S, h_9, k_10, h_11, h_12, k_13, h_14, h_30, g_31, h_32, h_33, h_34, h_35, m_37, q_38]), hR⟩
            · replace H := HS.cnd_f h_34 H
              try simp -implicitDefEqProofs +decide (maxSteps := 2000000) [-selQ_sel, hokQ_of, h_9, k_10, h_11, h_12, k_13, h_14, h_30, g_31, h_32, h_33, h_34]
              have hr := (HS.some H).symm; subst hr
              exact Hid.mk ⟨(spec_l06Path_l3_X (.inr (w53.b, w53.i, w53.h, x46, x47))).2, Wk.ofk [0, 1, 3, 4] hk (by rfl) (by simp -implicitDefEqProofs [spec_l06Path_l3_X, h_9, k_10, h_11, h_12, k_13, h_14, h_30, g_31, h_32, h_33, h_34]) (by simp -implicitDefEqProofs [spec_l06Path_l3_X, h_9, k_10, h_11, h_12, k_13, h_14, h_30, g_31, h_32, h_33, h_34]), hR⟩
          · replace H := HS.cnd_f h_32 H
            try simp -implicitDefEqProofs +decide (maxSteps := 2000000) [-selQ_sel, hokQ_of, h_9, k_10, h_11, h_12, k_13, h_14, h_30, g_31, h_32]
            obtain ⟨v97, h_48, H⟩ := HS.bnd H
            try simp -implicitDefEqProofs +decide (maxSteps := 2000000) [-selQ_sel, hokQ_of, h_9, k_10, h_11, h_12, k_13, h_14, h_30, g_31, h_32, h_48]
            refine Hid.brV (fun h_49 => ?_) (fun h_49 => ?_)
            · replace H := HS.cnd_t h_49 H
              try simp -implicitDefEqProofs +decide (maxSteps := 2000000) [-selQ_sel, hokQ_of, h_9, k_10, h_11, h_12, k_13, h_14, h_30, g_31, h_32, h_48, h_49]
              obtain ⟨h_50, H⟩ := HS.chkP H
              try simp -implicitDefEqProofs +decide (maxSteps := 2000000) [-selQ_sel, hokQ_of, h_9, k_10, h_11, h_12, k_13, h_14, h_30, g_31, h_32, h_48, h_49, h_50]
              obtain ⟨l98, h_51, H⟩ := HS.nam H
              have m_52 := congrArg (List.map (AV.int .i64)) h_51
              have q_53 := congrArg List.length h_51
              simp -implicitDefEqProofs at m_52 q_53
              try simp only [q_53] at m_52
              try simp only [q_53] at h_50
              try simp -implicitDefEqProofs +decide (maxSteps := 2000000) [-selQ_sel, hokQ_of, h_9, k_10, h_11, h_12, k_13, h_14, h_30, g_31, h_32, h_48, h_49, h_50, m_52, q_53]
              obtain ⟨q, h_54, H⟩ := HS.bnd H
              refine Hid.mk (Tr.weak (s' := (spec_l06Path_l2_S l98 w52 x42) (0, w53.b, w53.i, w53.h, x47)) (Wk.ofk [0, 1, 2, 3, 4] hk (by rfl) (by simp -implicitDefEqProofs [spec_l06Path_l2_S, h_9, k_10, h_11, h_12, k_13, h_14, h_30, g_31, h_32, h_48, h_49, h_50, m_52, q_53]) (by simp -implicitDefEqProofs [spec_l06Path_l2_S, h_9, k_10, h_11, h_12, k_13, h_14, h_30, g_31, h_32, h_48, h_49, h_50, m_52, q_53])) ?_)
              refine wp_loop_of (S := (spec_l06Path_l2_S l98 w52 x42)) (f := (spec_l06Path_l2 l98 w52 x42)) (xt := (spec_l06Path_l2_X l98 w52 x42)) ?_ ?_ h_54 ?_
              · intro q; rcases q with ⟨y114, y115, y116, y117⟩ <;> simp [spec_l06Path_l2_X]
              · clear H h_54 q
                rintro ⟨x104, x105, x106, x107, x108⟩ o R hf hR
                have H : HS (spec_l06Path_l2 l98 w52 x42 (x104, x105, x106, x107, x108)) o := hf
                clear hf; unfold spec_l06Path_l2 at H
                try simp -implicitDefEqProofs at H
                refine Tr.of_vc (cl := tabC [(170, spec_l01Once_x), (107, spec_l01Below_x), (213, spec_RectPath_x), (171, spec_l01PickInt_x), (212, spec_NeedOf_x), (214, spec_l04Point_x)]) (E := E0) [] (tab_cons k_spec_l01Once (tab_cons k_spec_l01Below (tab_cons k_spec_RectPath (tab_cons k_spec_l01PickInt (tab_cons k_spec_NeedOf (tab_cons k_spec_l04Point tab_nil)))))) hm (by rw [hn]; decide +kernel) ?_
                try simp -implicitDefEqProofs +decide (maxSteps := 2000000) [-selQ_sel, hokQ_of, spec_l06Path_l2_S]
                obtain ⟨v109, h_55, H⟩ := HS.bnd H
                try simp -implicitDefEqProofs +decide (maxSteps := 2000000) [-selQ_sel, hokQ_of, h_55]
                refine Hid.brV (fun h_56 => ?_) (fun h_56 => ?_)
                · replace H := HS.cnd_t h_56 H
                  try simp -implicitDefEqProofs +decide (maxSteps := 2000000) [-selQ_sel, hokQ_of, h_55, h_56]
                  have hr := (HS.some H).symm; subst hr
                  exact Hid.mk ⟨(spec_l06Path_l2_X l98 w52 x42 (x105, x106, x107, x108)).2, Wk.ofk [0, 1, 2, 3, 4] hk (by rfl) (by simp -implicitDefEqProofs [spec_l06Path_l2_X, h_55, h_56]) (by simp -implicitDefEqProofs [spec_l06Path_l2_X, h_55, h_56]), hR⟩
                · replace H := HS.cnd_f h_56 H
                  try simp -implicitDefEqProofs +decide (maxSteps := 2000000) [-selQ_sel, hokQ_of, h_55, h_56]
                  obtain ⟨⟨w111, w112⟩, h_57, H⟩ := HS.bnd H
                  dsimp only at H
                  have k_58 := spec_l04Point_k ((TL01Cur.mk x105 x106 x107).b) ((TL01Cur.mk x105 x106 x107).i) ((TL01Cur.mk x105 x106 x107).h)
                  simp -implicitDefEqProofs [-spec_l04Point_k] at k_58
                  try simp -implicitDefEqProofs +decide (maxSteps := 2000000) [-selQ_sel, hokQ_of, h_55, h_56, h_57, k_58]
                  obtain ⟨h_59, H⟩ := HS.chkP H
                  try simp -implicitDefEqProofs +decide (maxSteps := 2000000) [-selQ_sel, hokQ_of, h_55, h_56, h_57, k_58, h_59]
                  obtain ⟨l113, h_60, H⟩ := HS.nam H
                  have m_61 := congrArg (List.map ePoint) h_60
                  have q_62 := congrArg List.length h_60
                  simp -implicitDefEqProofs at m_61 q_62
                  try simp only [q_62] at m_61
                  try simp only [q_62] at h_59
                  try simp -implicitDefEqProofs +decide (maxSteps := 2000000) [-selQ_sel, hokQ_of, h_55, h_56, h_57, k_58, h_59, m_61, q_62]
                  have hr := (HS.some H).symm; subst hr
                  exact Hid.mk ⟨spec_l06Path_l2_S l98 w52 x42 ((IntKind.i64.wrap (x104 + 1)), w112.b, w112.i, w112.h, l113), Wk.ofk [0, 1, 2, 3, 4] hk (by rfl) (by simp -implicitDefEqProofs [spec_l06Path_l2_S, h_55, h_56, h_57, k_58, h_59, m_61, q_62]) (by simp -implicitDefEqProofs [spec_l06Path_l2_S, h_55, h_56, h_57, k_58, h_59, m_61, q_62]), hR⟩
              · obtain ⟨y114, y115, y116, y117⟩ := q
                try dsimp only at H
                try simp -implicitDefEqProofs +decide (maxSteps := 2000000) [-selQ_sel, hokQ_of, h_9, k_10, h_11, h_12, k_13, h_14, h_30, g_31, h_32, h_48, h_49, h_50, m_52, q_53, spec_l06Path_l2_X]
                have hr := (HS.some H).symm; subst hr
                exact Hid.mk ⟨spec_l06Path_l3_S ((IntKind.i64.wrap (x42 + 1)), y114, y115, y116, l98, y117), Wk.ofk [0, 1, 2, 3, 4] hk (by rfl) (by simp -implicitDefEqProofs [spec_l06Path_l3_S, h_9, k_10, h_11, h_12, k_13, h_14, h_30, g_31, h_32, h_48, h_49, h_50, m_52, q_53]) (by simp -implicitDefEqProofs [spec_l06Path_l3_S, h_9, k_10, h_11, h_12, k_13, h_14, h_30, g_31, h_32, h_48, h_49, h_50, m_52, q_53]), hR⟩
            · replace H := HS.cnd_f h_49 H
              try simp -implicitDefEqProofs +decide (maxSteps := 2000000) [-selQ_sel, hokQ_of, h_9, k_10, h_11, h_12, k_13, h_14, h_30, g_31, h_32, h_48, h_49]
              have hr := (HS.some H).symm; subst hr
              exact Hid.mk ⟨(spec_l06Path_l3_X (.inr (w53.b, w53.i, w53.h, x46, x47))).2, Wk.ofk [0, 1, 3, 4] hk (by rfl) (by simp -implicitDefEqProofs [spec_l06Path_l3_X, h_9, k_10, h_11, h_12, k_13, h_14, h_30, g_31, h_32, h_48, h_49]) (by simp -implicitDefEqProofs [spec_l06Path_l3_X, h_9, k_10, h_11, h_12, k_13, h_14, h_30, g_31, h_32, h_48, h_49]), hR⟩
    · rcases q with ⟨y118, y119, y120, y121, y122⟩ | ⟨y123, y124, y125, y126, y127⟩
      · dsimp only at H
        try simp -implicitDefEqProofs +decide (maxSteps := 2000000) [-selQ_sel, hokQ_of, h_1, h_2, spec_l06Path_l3_X]
        have hr := (HS.some H).symm; subst hr
        refine Hid.mk ⟨_, Wk.refl _, ?_⟩
        try simp -implicitDefEqProofs +decide (maxSteps := 2000000) [-selQ_sel, hokQ_of, h_1, h_2]
      · dsimp only at H
        try simp -implicitDefEqProofs +decide (maxSteps := 2000000) [-selQ_sel, hokQ_of, h_1, h_2, spec_l06Path_l3_X]
        have hr := (HS.some H).symm; subst hr
        refine Hid.mk ⟨_, Wk.refl _, ?_⟩
        try simp -implicitDefEqProofs +decide (maxSteps := 2000000) [-selQ_sel, hokQ_of, h_1, h_2]
theorem spec_CacheOk_ok0 (hm : Try.prog.follows .mixedOrders = true) (k_spec_l01In : Sound Try.prog 91 spec_l01In_x) (k_spec_MaskOk : Sound Try.prog 92 spec_MaskOk_x) : Sound Try.prog 90 spec_CacheOk_x := by
  refine xOf_sound fun q r h => ?_
  revert h; revert r; revert q; intro a0 r h
  refine fn_ok E0 hm Try.func90 rfl (by decide +kernel) (by rfl) fun Γ hn hk => ?_
  dsimp only [spec_CacheOk_e, spec_CacheOk_v]
  replace hn : Γ.n = 60 := hn
  replace hk : Γ.k = 0 := hk
  have H : HS (spec_CacheOk a0) r := h
  clear h; unfold spec_CacheOk at H
  try simp -implicitDefEqProofs at H
  refine Tr.of_vc (cl := tabC [(91, spec_l01In_x), (92, spec_MaskOk_x)]) (E := E0) [] (tab_cons k_spec_l01In (tab_cons k_spec_MaskOk tab_nil)) hm (by rw [hn]; decide +kernel) ?_
  try simp -implicitDefEqProofs +decide (maxSteps := 2000000) [-selQ_sel, hokQ_of]
  obtain ⟨v1, h_1, H⟩ := HS.bnd H
  try simp -implicitDefEqProofs +decide (maxSteps := 2000000) [-selQ_sel, hokQ_of, h_1]
  refine Hid.selQ (fun h_2 => ?_) (fun h_2 => ?_)
  · replace H := HS.cnd_t h_2 H
    try simp -implicitDefEqProofs +decide (maxSteps := 2000000) [-selQ_sel, hokQ_of, h_1, h_2]
    refine Hid.brV (fun h_3 => ?_) (fun h_3 => ?_)
    · replace H := HS.cnd_t h_3 H
      try simp -implicitDefEqProofs +decide (maxSteps := 2000000) [-selQ_sel, hokQ_of, h_1, h_2, h_3]
      obtain ⟨q, h_4, H⟩ := HS.bnd H
      refine Hid.mk (Tr.weak (s' := (spec_CacheOk_l1_S a0) 0) (Wk.ofk [0] hk (by rfl) (by simp -implicitDefEqProofs [spec_CacheOk_l1_S, h_1, h_2, h_3]) (by simp -implicitDefEqProofs [spec_CacheOk_l1_S, h_1, h_2, h_3])) ?_)
      refine wp_loop_of (S := (spec_CacheOk_l1_S a0)) (f := (spec_CacheOk_l1 a0)) (xt := (spec_CacheOk_l1_X a0)) ?_ ?_ h_4 ?_
      · intro q; rcases q with ⟨⟩ | ⟨⟩ <;> simp [spec_CacheOk_l1_X]
      · clear H h_4 q
        rintro x5 o R hf hR
        have H : HS (spec_CacheOk_l1 a0 x5) o := hf
        clear hf; unfold spec_CacheOk_l1 at H
        try simp -implicitDefEqProofs at H
        refine Tr.of_vc (cl := tabC [(91, spec_l01In_x), (92, spec_MaskOk_x)]) (E := E0) [] (tab_cons k_spec_l01In (tab_cons k_spec_MaskOk tab_nil)) hm (by rw [hn]; decide +kernel) ?_
        try simp -implicitDefEqProofs +decide (maxSteps := 2000000) [-selQ_sel, hokQ_of, spec_CacheOk_l1_S]
        refine Hid.brV (fun h_5 => ?_) (fun h_5 => ?_)
        · replace H := HS.cnd_t h_5 H
          try simp -implicitDefEqProofs +decide (maxSteps := 2000000) [-selQ_sel, hokQ_of, h_5]
          have hr := (HS.some H).symm; subst hr
          exact Hid.mk ⟨(spec_CacheOk_l1_X a0 (.inl ())).2, Wk.ofk [] hk (by rfl) (by simp -implicitDefEqProofs [spec_CacheOk_l1_X, h_5]) (by simp -implicitDefEqProofs [spec_CacheOk_l1_X, h_5]), hR⟩
        · replace H := HS.cnd_f h_5 H
          try simp -implicitDefEqProofs +decide (maxSteps := 2000000) [-selQ_sel, hokQ_of, h_5]
          obtain ⟨v6, h_6, H⟩ := HS.bnd H
          try simp -implicitDefEqProofs +decide (maxSteps := 2000000) [-selQ_sel, hokQ_of, h_5, h_6]
          obtain ⟨v7, h_7, H⟩ := HS.bnd H
          try simp -implicitDefEqProofs +decide (maxSteps := 2000000) [-selQ_sel, hokQ_of, h_5, h_6, h_7]
          refine Hid.selQ (fun h_8 => ?_) (fun h_8 => ?_)
          · replace H := HS.cnd_t h_8 H
            try simp -implicitDefEqProofs +decide (maxSteps := 2000000) [-selQ_sel, hokQ_of, h_5, h_6, h_7, h_8]
            obtain ⟨v8, h_9, H⟩ := HS.bnd H
            try simp -implicitDefEqProofs +decide (maxSteps := 2000000) [-selQ_sel, hokQ_of, h_5, h_6, h_7, h_8, h_9]
            refine Hid.brV (fun h_10 => ?_) (fun h_10 => ?_)
            · replace H := HS.cnd_t h_10 H
              try simp -implicitDefEqProofs +decide (maxSteps := 2000000) [-selQ_sel, hokQ_of, h_5, h_6, h_7, h_8, h_9, h_10]
              obtain ⟨q, h_11, H⟩ := HS.bnd H
              refine Hid.mk (Tr.weak (s' := (spec_CacheOk_l0_S a0 x5) 0) (Wk.ofk [0] hk (by rfl) (by simp -implicitDefEqProofs [spec_CacheOk_l0_S, h_5, h_6, h_7, h_8, h_9, h_10]) (by simp -implicitDefEqProofs [spec_CacheOk_l0_S, h_5, h_6, h_7, h_8, h_9, h_10])) ?_)
              refine wp_loop_of (S := (spec_CacheOk_l0_S a0 x5)) (f := (spec_CacheOk_l0 a0 x5)) (xt := (spec_CacheOk_l0_X a0 x5)) ?_ ?_ h_11 ?_
              · intro q; rcases q with ⟨⟩ | ⟨⟩ <;> simp [spec_CacheOk_l0_X]
              · clear H h_11 q
                rintro x11 o R hf hR
                have H : HS (spec_CacheOk_l0 a0 x5 x11) o := hf
                clear hf; unfold spec_CacheOk_l0 at H
                try simp -implicitDefEqProofs at H
                refine Tr.of_vc (cl := tabC [(91, spec_l01In_x), (92, spec_MaskOk_x)]) (E := E0) [] (tab_cons k_spec_l01In (tab_cons k_spec_MaskOk tab_nil)) hm (by rw [hn]; decide +kernel) ?_
                try simp -implicitDefEqProofs +decide (maxSteps := 2000000) [-selQ_sel, hokQ_of, spec_CacheOk_l0_S]
                refine Hid.brV (fun h_12 => ?_) (fun h_12 => ?_)
                · replace H := HS.cnd_t h_12 H
                  try simp -implicitDefEqProofs +decide (maxSteps := 2000000) [-selQ_sel, hokQ_of, h_12]
                  have hr := (HS.some H).symm; subst hr
                  exact Hid.mk ⟨(spec_CacheOk_l0_X a0 x5 (.inl ())).2, Wk.ofk [0] hk (by rfl) (by simp -implicitDefEqProofs [spec_CacheOk_l0_X, h_12]) (by simp -implicitDefEqProofs [spec_CacheOk_l0_X, h_12]), hR⟩
                · replace H := HS.cnd_f h_12 H
                  try simp -implicitDefEqProofs +decide (maxSteps := 2000000) [-selQ_sel, hokQ_of, h_12]
                  obtain ⟨v12, h_13, H⟩ := HS.bnd H
                  try simp -implicitDefEqProofs +decide (maxSteps := 2000000) [-selQ_sel, hokQ_of, h_12, h_13]
                  obtain ⟨v13, h_14, H⟩ := HS.bnd H
                  try simp -implicitDefEqProofs +decide (maxSteps := 2000000) [-selQ_sel, hokQ_of, h_12, h_13, h_14]
                  refine Hid.brV (fun h_15 => ?_) (fun h_15 => ?_)
                  · replace H := HS.cnd_t h_15 H
                    try simp -implicitDefEqProofs +decide (maxSteps := 2000000) [-selQ_sel, hokQ_of, h_12, h_13, h_14, h_15]
                    have hr := (HS.some H).symm; subst hr
                    exact Hid.mk ⟨(spec_CacheOk_l0_X a0 x5 (.inr ())).2, Wk.ofk [] hk (by rfl) (by simp -implicitDefEqProofs [spec_CacheOk_l0_X, h_12, h_13, h_14, h_15]) (by simp -implicitDefEqProofs [spec_CacheOk_l0_X, h_12, h_13, h_14, h_15]), hR⟩
                  · replace H := HS.cnd_f h_15 H
                    try simp -implicitDefEqProofs +decide (maxSteps := 2000000) [-selQ_sel, hokQ_of, h_12, h_13, h_14, h_15]
                    have hr := (HS.some H).symm; subst hr
                    exact Hid.mk ⟨spec_CacheOk_l0_S a0 x5 (IntKind.i64.wrap (x11 + 1)), Wk.ofk [0] hk (by rfl) (by simp -implicitDefEqProofs [spec_CacheOk_l0_S, h_12, h_13, h_14, h_15]) (by simp -implicitDefEqProofs [spec_CacheOk_l0_S, h_12, h_13, h_14, h_15]), hR⟩
              · rcases q with ⟨⟩ | ⟨⟩
                · dsimp only at H
                  try simp -implicitDefEqProofs +decide (maxSteps := 2000000) [-selQ_sel, hokQ_of, h_5, h_6, h_7, h_8, h_9, h_10, spec_CacheOk_l0_X]
                  have hr := (HS.some H).symm; subst hr
                  exact Hid.mk ⟨spec_CacheOk_l1_S a0 (IntKind.i64.wrap (x5 + 1)), Wk.ofk [0] hk (by rfl) (by simp -implicitDefEqProofs [spec_CacheOk_l1_S, h_5, h_6, h_7, h_8, h_9, h_10]) (by simp -implicitDefEqProofs [spec_CacheOk_l1_S, h_5, h_6, h_7, h_8, h_9, h_10]), hR⟩
                · dsimp only at H
                  try simp -implicitDefEqProofs +decide (maxSteps := 2000000) [-selQ_sel, hokQ_of, h_5, h_6, h_7, h_8, h_9, h_10, spec_CacheOk_l0_X]
                  have hr := (HS.some H).symm; subst hr
                  exact Hid.mk ⟨(spec_CacheOk_l1_X a0 (.inr ())).2, Wk.ofk [] hk (by rfl) (by simp -implicitDefEqProofs [spec_CacheOk_l1_X, h_5, h_6, h_7, h_8, h_9, h_10]) (by simp -implicitDefEqProofs [spec_CacheOk_l1_X, h_5, h_6, h_7, h_8, h_9, h_10]), hR⟩
            · replace H := HS.cnd_f h_10 H
              try simp -implicitDefEqProofs +decide (maxSteps := 2000000) [-selQ_sel, hokQ_of, h_5, h_6, h_7, h_8, h_9, h_10]
              have hr := (HS.some H).symm; subst hr
              exact Hid.mk ⟨(spec_CacheOk_l1_X a0 (.inr ())).2, Wk.ofk [] hk (by rfl) (by simp -implicitDefEqProofs [spec_CacheOk_l1_X, h_5, h_6, h_7, h_8, h_9, h_10]) (by simp -implicitDefEqProofs [spec_CacheOk_l1_X, h_5, h_6, h_7, h_8, h_9, h_10]), hR⟩
          · replace H := HS.cnd_f h_8 H
            try simp -implicitDefEqProofs +decide (maxSteps := 2000000) [-selQ_sel, hokQ_of, h_5, h_6, h_7, h_8]
            have hr := (HS.some H).symm; subst hr
            exact Hid.mk ⟨(spec_CacheOk_l1_X a0 (.inr ())).2, Wk.ofk [] hk (by rfl) (by simp -implicitDefEqProofs [spec_CacheOk_l1_X, h_5, h_6, h_7, h_8]) (by simp -implicitDefEqProofs [spec_CacheOk_l1_X, h_5, h_6, h_7, h_8]), hR⟩
      · rcases q with ⟨⟩ | ⟨⟩
        · dsimp only at H
          try simp -implicitDefEqProofs +decide (maxSteps := 2000000) [-selQ_sel, hokQ_of, h_1, h_2, h_3, spec_CacheOk_l1_X]
          have hr := (HS.some H).symm; subst hr
          refine Hid.mk ⟨_, Wk.refl _, ?_⟩
          try simp -implicitDefEqProofs +decide (maxSteps := 2000000) [-selQ_sel, hokQ_of, h_1, h_2, h_3]
        · dsimp only at H
          try simp -implicitDefEqProofs +decide (maxSteps := 2000000) [-selQ_sel, hokQ_of, h_1, h_2, h_3, spec_CacheOk_l1_X]
          have hr := (HS.some H).symm; subst hr
          refine Hid.mk ⟨_, Wk.refl _, ?_⟩
          try simp -implicitDefEqProofs +decide (maxSteps := 2000000) [-selQ_sel, hokQ_of, h_1, h_2, h_3]
    · replace H := HS.cnd_f h_3 H
      try simp -implicitDefEqProofs +decide (maxSteps := 2000000) [-selQ_sel, hokQ_of, h_1, h_2, h_3]
      have hr := (HS.some H).symm; subst hr
      refine Hid.mk ⟨_, Wk.refl _, ?_⟩
      try simp -implicitDefEqProofs +decide (maxSteps := 2000000) [-selQ_sel, hokQ_of, h_1, h_2, h_3]
  · replace H := HS.cnd_f h_2 H
    try simp -implicitDefEqProofs +decide (maxSteps := 2000000) [-selQ_sel, hokQ_of, h_1, h_2]
    have hr := (HS.some H).symm; subst hr
    refine Hid.mk ⟨_, Wk.refl _, ?_⟩
    try simp -implicitDefEqProofs +decide (maxSteps := 2000000) [-selQ_sel, hokQ_of, h_1, h_2]
theorem slices_DeleteFunc_Kept_Forget_1_ok0 (hm : Try.prog.follows .mixedOrders = true) (k_slices_IndexFunc_Kept_Forget_1 : Sound Try.prog 158 slices_IndexFunc_Kept_Forget_1_x) (k_impl_Forget_1 : Sound Try.prog 84 impl_Forget_1_x) : Sound Try.prog 83 slices_DeleteFunc_Kept_Forget_1_x := by
  refine xOf_sound fun q r h => ?_
  obtain ⟨a0, a1⟩ := q
  refine fn_ok E0 hm Try.func83 rfl (by decide +kernel) (by rfl) fun Γ hn hk => ?_
  dsimp only [slices_DeleteFunc_Kept_Forget_1_e, slices_DeleteFunc_Kept_Forget_1_v]
  replace hn : Γ.n = 42 := hn
  replace hk : Γ.k = 2 := hk
  have H : HS (slices_DeleteFunc_Kept_Forget_1 a0 a1) r := h
  clear h; unfold slices_DeleteFunc_Kept_Forget_1 at H
  try simp -implicitDefEqProofs at H
  refine Tr.of_vc (cl := tabC [(158, slices_IndexFunc_Kept_Forget_1_x), (84, impl_Forget_1_x)]) (E := E0) [] (tab_cons k_slices_IndexFunc_Kept_Forget_1 (tab_cons k_impl_Forget_1 tab_nil)) hm (by rw [hn]; decide +kernel) ?_
  try simp -implicitDefEqProofs (maxSteps := 2000000) [-selQ_sel]
  obtain ⟨v1, h_1, H⟩ := HS.bnd H
  try simp -implicitDefEqProofs (maxSteps := 2000000) [-selQ_sel, h_1]
  refine Hid.brV (fun h_2 => ?_) (fun h_2 => ?_)
  · replace H := HS.cnd_t h_2 H
    try simp -implicitDefEqProofs (maxSteps := 2000000) [-selQ_sel, h_1, h_2]
    have hr := (HS.some H).symm; subst hr
    refine Hid.mk ⟨⟨[(4, AV.osl 0 0 (List.length a0) (List.length a0))], [(0, Ob.arr 6 (List.map eKept a0) false), (1, Ob.box [AV.fsl (List.map (AV.int .i64) a1)])], 2⟩, Wk.ofk [0, 1] hk (by rfl) (by simp -implicitDefEqProofs [h_1, h_2]) (by simp -implicitDefEqProofs [h_1, h_2]), ?_⟩
    try simp -implicitDefEqProofs (maxSteps := 2000000) [-selQ_sel, h_1, h_2]
  · replace H := HS.cnd_f h_2 H
    try simp -implicitDefEqProofs (maxSteps := 2000000) [-selQ_sel, h_1, h_2]
    obtain ⟨q, h_3, H⟩ := HS.bnd H
    refine Hid.mk (Tr.weak (s' := (slices_DeleteFunc_Kept_Forget_1_l0_S a1) ((IntKind.i64.wrap (v1 + 1)), v1, a0)) (Wk.ofk [0, 1] hk (by rfl) (by simp -implicitDefEqProofs [slices_DeleteFunc_Kept_Forget_1_l0_S, h_1, h_2]) (by simp -implicitDefEqProofs [slices_DeleteFunc_Kept_Forget_1_l0_S, h_1, h_2])) ?_)
    refine wp_loop_of (S := (slices_DeleteFunc_Kept_Forget_1_l0_S a1)) (f := (slices_DeleteFunc_Kept_Forget_1_l0 a1)) (xt := (slices_DeleteFunc_Kept_Forget_1_l0_X a1)) ?_ ?_ h_3 ?_
    · intro q; rcases q with ⟨y13, y14⟩ <;> simp [slices_DeleteFunc_Kept_Forget_1_l0_X]
    · clear H h_3 q
      rintro ⟨x6, x7, x8⟩ o R hf hR
      have H : HS (slices_DeleteFunc_Kept_Forget_1_l0 a1 (x6, x7, x8)) o := hf
      clear hf; unfold slices_DeleteFunc_Kept_Forget_1_l0 at H
      try simp -implicitDefEqProofs at H
      refine Tr.of_vc (cl := tabC [(158, slices_IndexFunc_Kept_Forget_1_x), (84, impl_Forget_1_x)]) (E := E0) [] (tab_cons k_slices_IndexFunc_Kept_Forget_1 (tab_cons k_impl_Forget_1 tab_nil)) hm (by rw [hn]; decide +kernel) ?_
      try simp -implicitDefEqProofs (maxSteps := 2000000) [-selQ_sel, slices_DeleteFunc_Kept_Forget_1_l0_S]
      refine Hid.brV (fun h_4 => ?_) (fun h_4 => ?_)
      · replace H := HS.cnd_t h_4 H
        try simp -implicitDefEqProofs (maxSteps := 2000000) [-selQ_sel, h_4]
        have hr := (HS.some H).symm; subst hr
        exact Hid.mk ⟨(slices_DeleteFunc_Kept_Forget_1_l0_X a1 (x8, x7)).2, Wk.ofk [0, 1] hk (by rfl) (by simp -implicitDefEqProofs [slices_DeleteFunc_Kept_Forget_1_l0_X, h_4]) (by simp -implicitDefEqProofs [slices_DeleteFunc_Kept_Forget_1_l0_X, h_4]), hR⟩
      · replace H := HS.cnd_f h_4 H
        try simp -implicitDefEqProofs (maxSteps := 2000000) [-selQ_sel, h_4]
        obtain ⟨v9, h_5, H⟩ := HS.bnd H
        have g_6 := idx_get h_5
        try simp -implicitDefEqProofs (maxSteps := 2000000) [-selQ_sel, h_4, h_5, g_6]
        obtain ⟨v10, h_7, H⟩ := HS.bnd H
        try simp -implicitDefEqProofs (maxSteps := 2000000) [-selQ_sel, h_4, h_5, g_6, h_7]
        refine Hid.brV (fun h_8 => ?_) (fun h_8 => ?_)
        · replace H := HS.cnd_t h_8 H
          try simp -implicitDefEqProofs (maxSteps := 2000000) [-selQ_sel, h_4, h_5, g_6, h_7, h_8]
          have hr := (HS.some H).symm; subst hr
          exact Hid.mk ⟨slices_DeleteFunc_Kept_Forget_1_l0_S a1 ((IntKind.i64.wrap (x6 + 1)), x7, x8), Wk.ofk [0, 1] hk (by rfl) (by simp -implicitDefEqProofs [slices_DeleteFunc_Kept_Forget_1_l0_S, h_4, h_5, g_6, h_7, h_8]) (by simp -implicitDefEqProofs [slices_DeleteFunc_Kept_Forget_1_l0_S, h_4, h_5, g_6, h_7, h_8]), hR⟩
        · replace H := HS.cnd_f h_8 H
          try simp -implicitDefEqProofs (maxSteps := 2000000) [-selQ_sel, h_4, h_5, g_6, h_7, h_8]
          obtain ⟨v11, h_9, H⟩ := HS.bnd H
          have g_10 := idx_get h_9
          try simp -implicitDefEqProofs (maxSteps := 2000000) [-selQ_sel, h_4, h_5, g_6, h_7, h_8, h_9, g_10]
          obtain ⟨l12, h_11, H⟩ := HS.nam H
          have m_12 := congrArg (List.map eKept) h_11
          have q_13 := congrArg List.length h_11
          simp -implicitDefEqProofs at m_12 q_13
          try simp only [q_13] at m_12
          try simp only [q_13] at g_10
          try simp -implicitDefEqProofs (maxSteps := 2000000) [-selQ_sel, h_4, h_5, g_6, h_7, h_8, h_9, g_10, m_12, q_13]
          have hr := (HS.some H).symm; subst hr
          exact Hid.mk ⟨slices_DeleteFunc_Kept_Forget_1_l0_S a1 ((IntKind.i64.wrap (x6 + 1)), (IntKind.i64.wrap (x7 + 1)), l12), Wk.ofk [0, 1] hk (by rfl) (by simp -implicitDefEqProofs [slices_DeleteFunc_Kept_Forget_1_l0_S, h_4, h_5, g_6, h_7, h_8, h_9, g_10, m_12, q_13]) (by simp -implicitDefEqProofs [slices_DeleteFunc_Kept_Forget_1_l0_S, h_4, h_5, g_6, h_7, h_8, h_9, g_10, m_12, q_13]), hR⟩
    · obtain ⟨y13, y14⟩ := q
      try dsimp only at H
      try simp -implicitDefEqProofs (maxSteps := 2000000) [-selQ_sel, h_1, h_2, slices_DeleteFunc_Kept_Forget_1_l0_X]
      obtain ⟨v15, h_14, H⟩ := HS.bnd H
      have s_15 := (slc_spec h_14).1
      have s_16 := slc_fit h_14
      have s_17 := slc_map (e := eKept) h_14
      have s_18 := (slc_spec h_14).2.1
      simp -implicitDefEqProofs at s_15 s_16 s_17 s_18
      try simp only [s_18] at s_16 s_17
      try simp -implicitDefEqProofs (maxSteps := 2000000) [-selQ_sel, h_1, h_2, h_14, s_15, s_16, s_17, s_18]
      obtain ⟨l16, h_19, H⟩ := HS.nam H
      have m_20 := congrArg (List.map eKept) h_19
      have q_21 := congrArg List.length h_19
      rw [clrL_len (by simp -implicitDefEqProofs [h_1, h_2, h_14, s_15, s_16, s_17, s_18])] at q_21
      simp -implicitDefEqProofs at m_20 q_21
      try simp only [q_21] at m_20
      try simp only [q_21] at s_18
      try simp only [q_21] at s_15
      try simp only [q_21] at s_16
      try simp only [q_21] at s_17
      try simp -implicitDefEqProofs (maxSteps := 2000000) [-selQ_sel, h_1, h_2, h_14, s_15, s_16, s_17, s_18, m_20, q_21]
      obtain ⟨v17, h_22, H⟩ := HS.bnd H
      have s_23 := (slc_spec h_22).1
      have s_24 := slc_fit h_22
      have s_25 := slc_map (e := eKept) h_22
      have s_26 := (slc_spec h_22).2.1
      simp -implicitDefEqProofs at s_23 s_24 s_25 s_26
      try simp only [s_26] at s_24 s_25
      try simp -implicitDefEqProofs (maxSteps := 2000000) [-selQ_sel, h_1, h_2, h_14, s_15, s_16, s_17, s_18, m_20, q_21, h_22, s_23, s_24, s_25, s_26]
      have hr := (HS.some H).symm; subst hr
      refine Hid.mk ⟨⟨[(4, AV.osl 0 0 (List.length v17) (List.length l16))], [(0, Ob.arr 6 (List.map eKept l16) false), (1, Ob.box [AV.fsl (List.map (AV.int .i64) a1)])], 2⟩, Wk.ofk [0, 1] hk (by rfl) (by simp -implicitDefEqProofs [h_1, h_2, h_14, s_15, s_16, s_17, s_18, m_20, q_21, h_22, s_23, s_24, s_25, s_26]) (by simp -implicitDefEqProofs [h_1, h_2, h_14, s_15, s_16, s_17, s_18, m_20, q_21, h_22, s_23, s_24, s_25, s_26]), ?_⟩
      try simp -implicitDefEqProofs (maxSteps := 2000000) [-selQ_sel, h_1, h_2, h_14, s_15, s_16, s_17, s_18, m_20, q_21, h_22, s_23, s_24, s_25, s_26]
theorem slices_Delete_Kept_ok0 (hm : Try.prog.follows .mixedOrders = true) : Sound Try.prog 163 slices_Delete_Kept_x := by
  refine xOf_sound fun q r h => ?_
  obtain ⟨a0, a1, a2, a3⟩ := q
  refine fn_ok E0 hm Try.func163 rfl (by decide +kernel) (by rfl) fun Γ hn hk => ?_
  dsimp only [slices_Delete_Kept_e, slices_Delete_Kept_v]
  replace hn : Γ.n = 33 := hn
  replace hk : Γ.k = 1 := hk
  have H : HS (slices_Delete_Kept a0 a1 a2 a3) r := h
  clear h; unfold slices_Delete_Kept at H
  try simp -implicitDefEqProofs at H
  refine Tr.of_vc (cl := tabC []) (E := E0) [] tab_nil hm (by rw [hn]; decide +kernel) ?_
  try simp -implicitDefEqProofs +decide (maxSteps := 2000000) [-selQ_sel, hokQ_of, -appO_some, appO_part, appO_whole]
  obtain ⟨h_1, H⟩ := HS.chkP H
  try simp -implicitDefEqProofs +decide (maxSteps := 2000000) [-selQ_sel, hokQ_of, -appO_some, appO_part, appO_whole, h_1]
  obtain ⟨h_2, H⟩ := HS.chkP H
  try simp -implicitDefEqProofs +decide (maxSteps := 2000000) [-selQ_sel, hokQ_of, -appO_some, appO_part, appO_whole, h_1, h_2]
  refine Hid.brV (fun h_3 => ?_) (fun h_3 => ?_)
  · replace H := HS.cnd_t h_3 H
    try simp -implicitDefEqProofs +decide (maxSteps := 2000000) [-selQ_sel, hokQ_of, -appO_some, appO_part, appO_whole, h_1, h_2, h_3]
    have hr := (HS.some H).symm; subst hr
    refine Hid.mk ⟨⟨[(6, AV.osl 0 0 a0 (List.length a3))], [(0, Ob.arr 6 (List.map eKept a3) false)], 1⟩, Wk.ofk [0] hk (by rfl) (by simp -implicitDefEqProofs [h_1, h_2, h_3]) (by simp -implicitDefEqProofs [h_1, h_2, h_3]), ?_⟩
    try simp -implicitDefEqProofs +decide (maxSteps := 2000000) [-selQ_sel, hokQ_of, -appO_some, appO_part, appO_whole, h_1, h_2, h_3]
  · replace H := HS.cnd_f h_3 H
    try simp -implicitDefEqProofs +decide (maxSteps := 2000000) [-selQ_sel, hokQ_of, -appO_some, appO_part, appO_whole, h_1, h_2, h_3]
    obtain ⟨v1, h_4, H⟩ := HS.bnd H
    have s_5 := (slc_spec h_4).1
    have s_6 := slc_fit h_4
    have s_7 := slc_map (e := eKept) h_4
    have s_8 := (slc_spec h_4).2.1
    simp -implicitDefEqProofs at s_5 s_6 s_7 s_8
    try simp only [s_8] at s_6 s_7
    try simp -implicitDefEqProofs +decide (maxSteps := 2000000) [-selQ_sel, hokQ_of, -appO_some, appO_part, appO_whole, h_1, h_2, h_3, h_4, s_5, s_6, s_7, s_8]
    obtain ⟨v2, h_9, H⟩ := HS.bnd H
    have s_10 := (slc_spec h_9).1
    have s_11 := slc_fit h_9
    have s_12 := slc_map (e := eKept) h_9
    have s_13 := (slc_spec h_9).2.1
    simp -implicitDefEqProofs at s_10 s_11 s_12 s_13
    try simp only [s_13] at s_11 s_12
    try simp -implicitDefEqProofs +decide (maxSteps := 2000000) [-selQ_sel, hokQ_of, -appO_some, appO_part, appO_whole, h_1, h_2, h_3, h_4, s_5, s_6, s_7, s_8, h_9, s_10, s_11, s_12, s_13]
    obtain ⟨h_14, H⟩ := HS.chkP H
    try simp -implicitDefEqProofs +decide (maxSteps := 2000000) [-selQ_sel, hokQ_of, -appO_some, appO_part, appO_whole, h_1, h_2, h_3, h_4, s_5, s_6, s_7, s_8, h_9, s_10, s_11, s_12, s_13, h_14]
    obtain ⟨h_15, H⟩ := HS.chkP H
    try simp -implicitDefEqProofs +decide (maxSteps := 2000000) [-selQ_sel, hokQ_of, -appO_some, appO_part, appO_whole, h_1, h_2, h_3, h_4, s_5, s_6, s_7, s_8, h_9, s_10, s_11, s_12, s_13, h_14, h_15]
    obtain ⟨l3, h_16, H⟩ := HS.nam H
    have m_17 := congrArg (List.map eKept) h_16
    have q_18 := congrArg List.length h_16
    rw [ovr_len (by simp -implicitDefEqProofs [h_1, h_2, h_3, h_4, s_5, s_6, s_7, s_8, h_9, s_10, s_11, s_12, s_13, h_14, h_15])] at q_18
    simp -implicitDefEqProofs at m_17 q_18
    try simp only [q_18] at m_17
    try simp only [q_18] at h_15
    try simp only [q_18] at s_5
    try simp only [q_18] at s_6
    try simp only [q_18] at s_7
    try simp only [q_18] at s_8
    try simp only [q_18] at s_10
    try simp only [q_18] at s_11
    try simp only [q_18] at s_12
    try simp only [q_18] at s_13
    try simp -implicitDefEqProofs +decide (maxSteps := 2000000) [-selQ_sel, hokQ_of, -appO_some, appO_part, appO_whole, h_1, h_2, h_3, h_4, s_5, s_6, s_7, s_8, h_9, s_10, s_11, s_12, s_13, h_14, h_15, m_17, q_18]
    obtain ⟨v4, h_19, H⟩ := HS.bnd H
    have s_20 := (slc_spec h_19).1
    have s_21 := slc_fit h_19
    have s_22 := slc_map (e := eKept) h_19
    have s_23 := (slc_spec h_19).2.1
    simp -implicitDefEqProofs at s_20 s_21 s_22 s_23
    try simp only [s_23] at s_21 s_22
    have s_24 := slc_hi h_19
    try simp -implicitDefEqProofs +decide (maxSteps := 2000000) [-selQ_sel, hokQ_of, -appO_some, appO_part, appO_whole, h_1, h_2, h_3, h_4, s_5, s_6, s_7, s_8, h_9, s_10, s_11, s_12, s_13, h_14, h_15, m_17, q_18, h_19, s_20, s_21, s_22, s_23, s_24]
    obtain ⟨v5, h_25, H⟩ := HS.bnd H
    have s_26 := (slc_spec h_25).1
    have s_27 := slc_fit h_25
    have s_28 := slc_map (e := eKept) h_25
    have s_29 := (slc_spec h_25).2.1
    simp -implicitDefEqProofs at s_26 s_27 s_28 s_29
    try simp only [s_29] at s_27 s_28
    try simp -implicitDefEqProofs +decide (maxSteps := 2000000) [-selQ_sel, hokQ_of, -appO_some, appO_part, appO_whole, h_1, h_2, h_3, h_4, s_5, s_6, s_7, s_8, h_9, s_10, s_11, s_12, s_13, h_14, h_15, m_17, q_18, h_19, s_20, s_21, s_22, s_23, s_24, h_25, s_26, s_27, s_28, s_29]
    obtain ⟨l6, h_30, H⟩ := HS.nam H
    have m_31 := congrArg (List.map eKept) h_30
    have q_32 := congrArg List.length h_30
    rw [clrL_len (by simp -implicitDefEqProofs [h_1, h_2, h_3, h_4, s_5, s_6, s_7, s_8, h_9, s_10, s_11, s_12, s_13, h_14, h_15, h_19, s_20, s_21, s_22, s_23, s_24, h_25, s_26, s_27, s_28, s_29])] at q_32
    simp -implicitDefEqProofs at m_31 q_32
    try simp only [q_32] at m_31
    try simp only [q_32] at s_29
    try simp only [q_32] at s_5
    try simp only [q_32] at s_6
    try simp only [q_32] at s_7
    try simp only [q_32] at s_8
    try simp only [q_32] at s_10
    try simp only [q_32] at s_11
    try simp only [q_32] at s_12
    try simp only [q_32] at s_13
    try simp only [q_32] at s_20
    try simp only [q_32] at s_21
    try simp only [q_32] at s_22
    try simp only [q_32] at s_23
    try simp only [q_32] at s_24
    try simp only [q_32] at s_26
    try simp only [q_32] at s_27
    try simp only [q_32] at s_28
    try simp -implicitDefEqProofs +decide (maxSteps := 2000000) [-selQ_sel, hokQ_of, -appO_some, appO_part, appO_whole, h_1, h_2, h_3, h_4, s_5, s_6, s_7, s_8, h_9, s_10, s_11, s_12, s_13, h_14, h_15, m_17, q_18, h_19, s_20, s_21, s_22, s_23, s_24, h_25, s_26, s_27, s_28, s_29, m_31, q_32]
    have hr := (HS.some H).symm; subst hr
    refine Hid.mk ⟨⟨[(6, AV.osl 0 0 (List.length v4) (List.length l6))], [(0, Ob.arr 6 (List.map eKept l6) false)], 1⟩, Wk.ofk [0] hk (by rfl) (by simp -implicitDefEqProofs [h_1, h_2, h_3, h_4, s_5, s_6, s_7, s_8, h_9, s_10, s_11, s_12, s_13, h_14, h_15, m_17, q_18, h_19, s_20, s_21, s_22, s_23, s_24, h_25, s_26, s_27, s_28, s_29, m_31, q_32]) (by simp -implicitDefEqProofs [h_1, h_2, h_3, h_4, s_5, s_6, s_7, s_8, h_9, s_10, s_11, s_12, s_13, h_14, h_15, m_17, q_18, h_19, s_20, s_21, s_22, s_23, s_24, h_25, s_26, s_27, s_28, s_29, m_31, q_32]), ?_⟩
    try simp -implicitDefEqProofs +decide (maxSteps := 2000000) [-selQ_sel, hokQ_of, -appO_some, appO_part, appO_whole, h_1, h_2, h_3, h_4, s_5, s_6, s_7, s_8, h_9, s_10, s_11, s_12, s_13, h_14, h_15, m_17, q_18, h_19, s_20, s_21, s_22, s_23, s_24, h_25, s_26, s_27, s_28, s_29, m_31, q_32]
theorem spec_l11Mask_ok0 (hm : Try.prog.follows .mixedOrders = true) (k_spec_l01Below : Sound Try.prog 107 spec_l01Below_x) (k_spec_l06Path : Sound Try.prog 169 spec_l06Path_x) (k_spec_FlatOf : Sound Try.prog 168 spec_FlatOf_x) (k_spec_MaskOf : Sound Try.prog 167 spec_MaskOf_x) (k_spec_l01Once : Sound Try.prog 170 spec_l01Once_x) (k_spec_l01PickInt : Sound Try.prog 171 spec_l01PickInt_x) : Sound Try.prog 105 spec_l11Mask_x := by
  refine xOf_sound fun q r h => ?_
  revert h; revert r; revert q; intro a0 r h
  refine fn_ok E0 hm Try.func105 rfl (by decide +kernel) (by rfl) fun Γ hn hk => ?_
  dsimp only [spec_l11Mask_e, spec_l11Mask_v]
  replace hn : Γ.n = 49 := hn
  replace hk : Γ.k = 1 := hk
  have H : HS (spec_l11Mask a0) r := h
  clear h; unfold spec_l11Mask at H
  try simp -implicitDefEqProofs at H
  refine Tr.of_vc (cl := tabC [(107, spec_l01Below_x), (169, spec_l06Path_x), (168, spec_FlatOf_x), (167, spec_MaskOf_x), (170, spec_l01Once_x), (171, spec_l01PickInt_x)]) (E := E0) [] (tab_cons k_spec_l01Below (tab_cons k_spec_l06Path (tab_cons k_spec_FlatOf (tab_cons k_spec_MaskOf (tab_cons k_spec_l01Once (tab_cons k_spec_l01PickInt tab_nil)))))) hm (by rw [hn]; decide +kernel) ?_
  try simp -implicitDefEqProofs +decide (maxSteps := 2000000) [-selQ_sel, hokQ_of]
  obtain ⟨⟨w2, w3⟩, h_1, H⟩ := HS.bnd H
  dsimp only at H
  try simp -implicitDefEqProofs +decide (maxSteps := 2000000) [-selQ_sel, hokQ_of, h_1]
  obtain ⟨⟨w5, w6⟩, h_2, H⟩ := HS.bnd H
  dsimp only at H
  try simp -implicitDefEqProofs +decide (maxSteps := 2000000) [-selQ_sel, hokQ_of, h_1, h_2]
  obtain ⟨⟨w8, w9⟩, h_3, H⟩ := HS.bnd H
  dsimp only at H
  try simp -implicitDefEqProofs +decide (maxSteps := 2000000) [-selQ_sel, hokQ_of, h_1, h_2, h_3]
  obtain ⟨⟨w11, w12⟩, h_4, H⟩ := HS.bnd H
  dsimp only at H
  try simp -implicitDefEqProofs +decide (maxSteps := 2000000) [-selQ_sel, hokQ_of, h_1, h_2, h_3, h_4]
  obtain ⟨⟨w14, w15⟩, h_5, H⟩ := HS.bnd H
  dsimp only at H
  try simp -implicitDefEqProofs +decide (maxSteps := 2000000) [-selQ_sel, hokQ_of, h_1, h_2, h_3, h_4, h_5]
  obtain ⟨v16, h_6, H⟩ := HS.bnd H
  try simp -implicitDefEqProofs +decide (maxSteps := 2000000) [-selQ_sel, hokQ_of, h_1, h_2, h_3, h_4, h_5, h_6]
  obtain ⟨⟨w18, w19⟩, h_7, H⟩ := HS.bnd H
  dsimp only at H
  try simp -implicitDefEqProofs +decide (maxSteps := 2000000) [-selQ_sel, hokQ_of, h_1, h_2, h_3, h_4, h_5, h_6, h_7]
  obtain ⟨⟨w21, w22⟩, h_8, H⟩ := HS.bnd H
  dsimp only at H
  try simp -implicitDefEqProofs +decide (maxSteps := 2000000) [-selQ_sel, hokQ_of, h_1, h_2, h_3, h_4, h_5, h_6, h_7, h_8]
  refine Hid.brV (fun h_9 => ?_) (fun h_9 => ?_)
  · replace H := HS.cnd_t h_9 H
    try simp -implicitDefEqProofs +decide (maxSteps := 2000000) [-selQ_sel, hokQ_of, h_1, h_2, h_3, h_4, h_5, h_6, h_7, h_8, h_9]
    obtain ⟨q, h_10, H⟩ := HS.bnd H
    refine Hid.mk (Tr.weak (s' := (spec_l11Mask_l0_S w18) (0, w22.b, w22.i, w22.h, w19)) (Wk.ofk [0, 1, 4, 3] hk (by rfl) (by simp -implicitDefEqProofs [spec_l11Mask_l0_S, h_1, h_2, h_3, h_4, h_5, h_6, h_7, h_8, h_9]) (by simp -implicitDefEqProofs [spec_l11Mask_l0_S, h_1, h_2, h_3, h_4, h_5, h_6, h_7, h_8, h_9])) ?_)
    refine wp_loop_of (S := (spec_l11Mask_l0_S w18)) (f := (spec_l11Mask_l0 w18)) (xt := (spec_l11Mask_l0_X w18)) ?_ ?_ h_10 ?_
    · intro q; rcases q with ⟨y38, y39, y40, y41⟩ <;> simp [spec_l11Mask_l0_X]
    · clear H h_10 q
      rintro ⟨x28, x29, x30, x31, x32⟩ o R hf hR
      have H : HS (spec_l11Mask_l0 w18 (x28, x29, x30, x31, x32)) o := hf
      clear hf; unfold spec_l11Mask_l0 at H
      try simp -implicitDefEqProofs at H
      refine Tr.of_vc (cl := tabC [(107, spec_l01Below_x), (169, spec_l06Path_x), (168, spec_FlatOf_x), (167, spec_MaskOf_x), (170, spec_l01Once_x), (171, spec_l01PickInt_x)]) (E := E0) [] (tab_cons k_spec_l01Below (tab_cons k_spec_l06Path (tab_cons k_spec_FlatOf (tab_cons k_spec_MaskOf (tab_cons k_spec_l01Once (tab_cons k_spec_l01PickInt tab_nil)))))) hm (by rw [hn]; decide +kernel) ?_
      try simp -implicitDefEqProofs +decide (maxSteps := 2000000) [-selQ_sel, hokQ_of, spec_l11Mask_l0_S]
      refine Hid.brV (fun h_11 => ?_) (fun h_11 => ?_)
      · replace H := HS.cnd_t h_11 H
        try simp -implicitDefEqProofs +decide (maxSteps := 2000000) [-selQ_sel, hokQ_of, h_11]
        have hr := (HS.some H).symm; subst hr
        exact Hid.mk ⟨(spec_l11Mask_l0_X w18 (x29, x30, x31, x32)).2, Wk.ofk [0, 1, 2, 3] hk (by rfl) (by simp -implicitDefEqProofs [spec_l11Mask_l0_X, h_11]) (by simp -implicitDefEqProofs [spec_l11Mask_l0_X, h_11]), hR⟩
      · replace H := HS.cnd_f h_11 H
        try simp -implicitDefEqProofs +decide (maxSteps := 2000000) [-selQ_sel, hokQ_of, h_11]
        obtain ⟨⟨w34, w35⟩, h_12, H⟩ := HS.bnd H
        dsimp only at H
        have k_13 := spec_l01PickInt_k ((TL01Cur.mk x29 x30 x31).b) ((TL01Cur.mk x29 x30 x31).i) ((TL01Cur.mk x29 x30 x31).h) [0, 0, 15, 15, 3, 8]
        simp -implicitDefEqProofs [-spec_l01PickInt_k] at k_13
        try simp -implicitDefEqProofs +decide (maxSteps := 2000000) [-selQ_sel, hokQ_of, h_11, h_12, k_13]
        obtain ⟨v36, h_14, H⟩ := HS.bnd H
        have g_15 := idx_get h_14
        try simp -implicitDefEqProofs +decide (maxSteps := 2000000) [-selQ_sel, hokQ_of, h_11, h_12, k_13, h_14, g_15]
        obtain ⟨l37, h_16, H⟩ := HS.nam H
        have m_17 := congrArg (List.map (AV.int .i64)) h_16
        have q_18 := congrArg List.length h_16
        simp -implicitDefEqProofs at m_17 q_18
        try simp only [q_18] at m_17
        try simp only [q_18] at g_15
        try simp -implicitDefEqProofs +decide (maxSteps := 2000000) [-selQ_sel, hokQ_of, h_11, h_12, k_13, h_14, g_15, m_17, q_18]
        have hr := (HS.some H).symm; subst hr
        exact Hid.mk ⟨spec_l11Mask_l0_S w18 ((IntKind.i64.wrap (x28 + 1)), w35.b, w35.i, w35.h, l37), Wk.ofk [0, 1, 2, 3] hk (by rfl) (by simp -implicitDefEqProofs [spec_l11Mask_l0_S, h_11, h_12, k_13, h_14, g_15, m_17, q_18]) (by simp -implicitDefEqProofs [spec_l11Mask_l0_S, h_11, h_12, k_13, h_14, g_15, m_17, q_18]), hR⟩
    · obtain ⟨y38, y39, y40, y41⟩ := q
      try dsimp only at H
      try simp -implicitDefEqProofs +decide (maxSteps := 2000000) [-selQ_sel, hokQ_of, h_1, h_2, h_3, h_4, h_5, h_6, h_7, h_8, h_9, spec_l11Mask_l0_X]
      have hr := (HS.some H).symm; subst hr
      refine Hid.mk ⟨_, Wk.refl _, ?_⟩
      try simp -implicitDefEqProofs +decide (maxSteps := 2000000) [-selQ_sel, hokQ_of, h_1, h_2, h_3, h_4, h_5, h_6, h_7, h_8, h_9]
  · replace H := HS.cnd_f h_9 H
    try simp -implicitDefEqProofs +decide (maxSteps := 2000000) [-selQ_sel, hokQ_of, h_1, h_2, h_3, h_4, h_5, h_6, h_7, h_8, h_9]
    have hr := (HS.some H).symm; subst hr
    refine Hid.mk ⟨_, Wk.refl _, ?_⟩
    try simp -implicitDefEqProofs +decide (maxSteps := 2000000) [-selQ_sel, hokQ_of, h_1, h_2, h_3, h_4, h_5, h_6, h_7, h_8, h_9]
theorem spec_MaskAt_ok0 (hm : Try.prog.follows .mixedOrders = true) (k_spec_l01In : Sound Try.prog 91 spec_l01In_x) (k_spec_Covers : Sound Try.prog 227 spec_Covers_x) : Sound Try.prog 209 spec_MaskAt_x := by
  refine xOf_sound fun q r h => ?_
  obtain ⟨a0, a1, a2, a3⟩ := q
  refine fn_ok E0 hm Try.func209 rfl (by decide +kernel) (by rfl) fun Γ hn hk => ?_
  dsimp only [spec_MaskAt_e, spec_MaskAt_v]
  replace hn : Γ.n = 50 := hn
  replace hk : Γ.k = 0 := hk
  have H : HS (spec_MaskAt a0 a1 a2 a3) r := h
  clear h; unfold spec_MaskAt at H
  try simp -implicitDefEqProofs at H
  refine Tr.of_vc (cl := tabC [(91, spec_l01In_x), (227, spec_Covers_x)]) (E := E0) [] (tab_cons k_spec_l01In (tab_cons k_spec_Covers tab_nil)) hm (by rw [hn]; decide +kernel) ?_
  try simp -implicitDefEqProofs (maxSteps := 2000000) [-selQ_sel]
  obtain ⟨v1, h_1, H⟩ := HS.bnd H
  try simp -implicitDefEqProofs (maxSteps := 2000000) [-selQ_sel, h_1]
  refine Hid.selQ (fun h_2 => ?_) (fun h_2 => ?_)
  · replace H := HS.cnd_t h_2 H
    try simp -implicitDefEqProofs (maxSteps := 2000000) [-selQ_sel, h_1, h_2]
    obtain ⟨v2, h_3, H⟩ := HS.bnd H
    try simp -implicitDefEqProofs (maxSteps := 2000000) [-selQ_sel, h_1, h_2, h_3]
    refine Hid.brV (fun h_4 => ?_) (fun h_4 => ?_)
    · replace H := HS.cnd_t h_4 H
      try simp -implicitDefEqProofs (maxSteps := 2000000) [-selQ_sel, h_1, h_2, h_3, h_4]
      obtain ⟨q, h_5, H⟩ := HS.bnd H
      refine Hid.mk (Tr.weak (s' := (spec_MaskAt_l0_S a0 a1 a2 a3) (0, 0)) (Wk.ofk [] hk (by rfl) (by simp -implicitDefEqProofs [spec_MaskAt_l0_S, h_1, h_2, h_3, h_4]) (by simp -implicitDefEqProofs [spec_MaskAt_l0_S, h_1, h_2, h_3, h_4])) ?_)
      refine wp_loop_of (S := (spec_MaskAt_l0_S a0 a1 a2 a3)) (f := (spec_MaskAt_l0 a0 a1 a2 a3)) (xt := (spec_MaskAt_l0_X a0 a1 a2 a3)) ?_ ?_ h_5 ?_
      · intro q; simp [spec_MaskAt_l0_X]
      · clear H h_5 q
        rintro ⟨x4, x5⟩ o R hf hR
        have H : HS (spec_MaskAt_l0 a0 a1 a2 a3 (x4, x5)) o := hf
        clear hf; unfold spec_MaskAt_l0 at H
        try simp -implicitDefEqProofs at H
        refine Tr.of_vc (cl := tabC [(91, spec_l01In_x), (227, spec_Covers_x)]) (E := E0) [] (tab_cons k_spec_l01In (tab_cons k_spec_Covers tab_nil)) hm (by rw [hn]; decide +kernel) ?_
        try simp -implicitDefEqProofs (maxSteps := 2000000) [-selQ_sel, spec_MaskAt_l0_S]
        refine Hid.brV (fun h_6 => ?_) (fun h_6 => ?_)
        · replace H := HS.cnd_t h_6 H
          try simp -implicitDefEqProofs (maxSteps := 2000000) [-selQ_sel, h_6]
          have hr := (HS.some H).symm; subst hr
          exact Hid.mk ⟨(spec_MaskAt_l0_X a0 a1 a2 a3 x4).2, Wk.ofk [] hk (by rfl) (by simp -implicitDefEqProofs [spec_MaskAt_l0_X, h_6]) (by simp -implicitDefEqProofs [spec_MaskAt_l0_X, h_6]), hR⟩
        · replace H := HS.cnd_f h_6 H
          try simp -implicitDefEqProofs (maxSteps := 2000000) [-selQ_sel, h_6]
          obtain ⟨v6, h_7, H⟩ := HS.bnd H
          try simp -implicitDefEqProofs (maxSteps := 2000000) [-selQ_sel, h_6, h_7]
          refine Hid.brV (fun h_8 => ?_) (fun h_8 => ?_)
          · replace H := HS.cnd_t h_8 H
            try simp -implicitDefEqProofs (maxSteps := 2000000) [-selQ_sel, h_6, h_7, h_8]
            obtain ⟨v7, h_9, H⟩ := HS.bnd H
            have g_10 := idx_get h_9
            have g_11 := idx_map (e := (AV.int .i64)) h_9
            have g_12 := idx_get g_11
            simp -implicitDefEqProofs at g_11 g_12
            try simp -implicitDefEqProofs (maxSteps := 2000000) [-selQ_sel, h_6, h_7, h_8, h_9, g_10, g_11, g_12]
            have hr := (HS.some H).symm; subst hr
            exact Hid.mk ⟨spec_MaskAt_l0_S a0 a1 a2 a3 ((IntKind.i64.wrap (x4 + v7)), (IntKind.i64.wrap (x5 + 1))), Wk.ofk [] hk (by rfl) (by simp -implicitDefEqProofs [spec_MaskAt_l0_S, h_6, h_7, h_8, h_9, g_10, g_11, g_12]) (by simp -implicitDefEqProofs [spec_MaskAt_l0_S, h_6, h_7, h_8, h_9, g_10, g_11, g_12]), hR⟩
          · replace H := HS.cnd_f h_8 H
            try simp -implicitDefEqProofs (maxSteps := 2000000) [-selQ_sel, h_6, h_7, h_8]
            have hr := (HS.some H).symm; subst hr
            exact Hid.mk ⟨spec_MaskAt_l0_S a0 a1 a2 a3 (x4, (IntKind.i64.wrap (x5 + 1))), Wk.ofk [] hk (by rfl) (by simp -implicitDefEqProofs [spec_MaskAt_l0_S, h_6, h_7, h_8]) (by simp -implicitDefEqProofs [spec_MaskAt_l0_S, h_6, h_7, h_8]), hR⟩
      · revert H h_5; revert q; intro y8 h_5 H
        try dsimp only at H
        try simp -implicitDefEqProofs (maxSteps := 2000000) [-selQ_sel, h_1, h_2, h_3, h_4, spec_MaskAt_l0_X]
        have hr := (HS.some H).symm; subst hr
        refine Hid.mk ⟨_, Wk.refl _, ?_⟩
        try simp -implicitDefEqProofs (maxSteps := 2000000) [-selQ_sel, h_1, h_2, h_3, h_4]
    · replace H := HS.cnd_f h_4 H
      try simp -implicitDefEqProofs (maxSteps := 2000000) [-selQ_sel, h_1, h_2, h_3, h_4]
      have hr := (HS.some H).symm; subst hr
      refine Hid.mk ⟨_, Wk.refl _, ?_⟩
      try simp -implicitDefEqProofs (maxSteps := 2000000) [-selQ_sel, h_1, h_2, h_3, h_4]
  · replace H := HS.cnd_f h_2 H
    try simp -implicitDefEqProofs (maxSteps := 2000000) [-selQ_sel, h_1, h_2]
    have hr := (HS.some H).symm; subst hr
    refine Hid.mk ⟨_, Wk.refl _, ?_⟩
    try simp -implicitDefEqProofs (maxSteps := 2000000) [-selQ_sel, h_1, h_2]
theorem spec_l21Cache_ok0 (hm : Try.prog.follows .mixedOrders = true) (k_spec_l01Below : Sound Try.prog 107 spec_l01Below_x) (k_spec_l11Mask : Sound Try.prog 105 spec_l11Mask_x) (k_spec_Remember : Sound Try.prog 30 spec_Remember_x) : Sound Try.prog 103 spec_l21Cache_x := by
  refine xOf_sound fun q r h => ?_
  revert h; revert r; revert q; intro a0 r h
  refine fn_ok E0 hm Try.func103 rfl (by decide +kernel) (by rfl) fun Γ hn hk => ?_
  dsimp only [spec_l21Cache_e, spec_l21Cache_v]
  replace hn : Γ.n = 23 := hn
  replace hk : Γ.k = 1 := hk
  have H : HS (spec_l21Cache a0) r := h
  clear h; unfold spec_l21Cache at H
  try simp -implicitDefEqProofs at H
  refine Tr.of_vc (cl := tabC [(107, spec_l01Below_x), (105, spec_l11Mask_x), (30, spec_Remember_x)]) (E := E0) [] (tab_cons k_spec_l01Below (tab_cons k_spec_l11Mask (tab_cons k_spec_Remember tab_nil))) hm (by rw [hn]; decide +kernel) ?_
  try simp -implicitDefEqProofs +decide (maxSteps := 2000000) [-selQ_sel, hokQ_of]
  obtain ⟨⟨w2, w3⟩, h_1, H⟩ := HS.bnd H
  dsimp only at H
  try simp -implicitDefEqProofs +decide (maxSteps := 2000000) [-selQ_sel, hokQ_of, h_1]
  obtain ⟨q, h_2, H⟩ := HS.bnd H
  refine Hid.mk (Tr.weak (s' := spec_l21Cache_l0_S (0, w3.b, w3.i, w3.h, (IntKind.i64.wrap (1 + w2)), [])) (Wk.ofk [0, 1, 2] hk (by rfl) (by simp -implicitDefEqProofs [spec_l21Cache_l0_S, h_1]) (by simp -implicitDefEqProofs [spec_l21Cache_l0_S, h_1])) ?_)
  refine wp_loop_of (S := spec_l21Cache_l0_S) (f := spec_l21Cache_l0) (xt := spec_l21Cache_l0_X) ?_ ?_ h_2 ?_
  · intro q; rcases q with ⟨y30, y31, y32, y33, y34⟩ <;> simp [spec_l21Cache_l0_X]
  · clear H h_2 q
    rintro ⟨x14, x15, x16, x17, x18, x19⟩ o R hf hR
    have H : HS (spec_l21Cache_l0 (x14, x15, x16, x17, x18, x19)) o := hf
    clear hf; unfold spec_l21Cache_l0 at H
    try simp -implicitDefEqProofs at H
    refine Tr.of_vc (cl := tabC [(107, spec_l01Below_x), (105, spec_l11Mask_x), (30, spec_Remember_x)]) (E := E0) [] (tab_cons k_spec_l01Below (tab_cons k_spec_l11Mask (tab_cons k_spec_Remember tab_nil))) hm (by rw [hn]; decide +kernel) ?_
    try simp -implicitDefEqProofs +decide (maxSteps := 2000000) [-selQ_sel, hokQ_of, spec_l21Cache_l0_S]
    obtain ⟨⟨w21, w22⟩, h_3, H⟩ := HS.bnd H
    dsimp only at H
    have k_4 := spec_l01Below_k 6 ((TL01Cur.mk x15 x16 x17).b) ((TL01Cur.mk x15 x16 x17).i) ((TL01Cur.mk x15 x16 x17).h)
    simp -implicitDefEqProofs [-spec_l01Below_k] at k_4
    try simp -implicitDefEqProofs +decide (maxSteps := 2000000) [-selQ_sel, hokQ_of, h_3, k_4]
    refine Hid.brV (fun h_5 => ?_) (fun h_5 => ?_)
    · replace H := HS.cnd_t h_5 H
      try simp -implicitDefEqProofs +decide (maxSteps := 2000000) [-selQ_sel, hokQ_of, h_3, k_4, h_5]
      have hr := (HS.some H).symm; subst hr
      exact Hid.mk ⟨(spec_l21Cache_l0_X (w22.b, w22.i, w22.h, x18, x19)).2, Wk.ofk [0, 1, 2] hk (by rfl) (by simp -implicitDefEqProofs [spec_l21Cache_l0_X, h_3, k_4, h_5]) (by simp -implicitDefEqProofs [spec_l21Cache_l0_X, h_3, k_4, h_5]), hR⟩
    · replace H := HS.cnd_f h_5 H
      try simp -implicitDefEqProofs +decide (maxSteps := 2000000) [-selQ_sel, hokQ_of, h_3, k_4, h_5]
      obtain ⟨⟨w24, w25⟩, h_6, H⟩ := HS.bnd H
      dsimp only at H
      try simp -implicitDefEqProofs +decide (maxSteps := 2000000) [-selQ_sel, hokQ_of, h_3, k_4, h_5, h_6]
      obtain ⟨⟨w27, w28⟩, h_7, H⟩ := HS.bnd H
      dsimp only at H
      try simp -implicitDefEqProofs +decide (maxSteps := 2000000) [-selQ_sel, hokQ_of, h_3, k_4, h_5, h_6, h_7]
      obtain ⟨v29, h_8, H⟩ := HS.bnd H
      have k_9 := spec_Remember_k ((TCache.mk x18 x19).most) ((TCache.mk x18 x19).list) (IntKind.i64.wrap (1 + w24)) w27.box.x0 w27.box.y0 w27.box.x1 w27.box.y1 w27.bits
      simp -implicitDefEqProofs [-spec_Remember_k] at k_9
      try simp -implicitDefEqProofs +decide (maxSteps := 2000000) [-selQ_sel, hokQ_of, h_3, k_4, h_5, h_6, h_7, h_8, k_9]
      have hr := (HS.some H).symm; subst hr
      exact Hid.mk ⟨spec_l21Cache_l0_S ((IntKind.i64.wrap (x14 + 1)), w28.b, w28.i, w28.h, v29.most, v29.list), Wk.ofk [0, 1, 2] hk (by rfl) (by simp -implicitDefEqProofs [spec_l21Cache_l0_S, h_3, k_4, h_5, h_6, h_7, h_8, k_9]) (by simp -implicitDefEqProofs [spec_l21Cache_l0_S, h_3, k_4, h_5, h_6, h_7, h_8, k_9]), hR⟩
  · obtain ⟨y30, y31, y32, y33, y34⟩ := q
    try dsimp only at H
    try simp -implicitDefEqProofs +decide (maxSteps := 2000000) [-selQ_sel, hokQ_of, h_1, spec_l21Cache_l0_X]
    have hr := (HS.some H).symm; subst hr
    refine Hid.mk ⟨_, Wk.refl _, ?_⟩
    try simp -implicitDefEqProofs +decide (maxSteps := 2000000) [-selQ_sel, hokQ_of, h_1]
theorem slices_IndexFunc_Kept_Cache_keptAt_1_ok0 (hm : Try.prog.follows .mixedOrders = true) (k_impl_Cache_keptAt_1 : Sound Try.prog 166 impl_Cache_keptAt_1_x) : Sound Try.prog 158 slices_IndexFunc_Kept_Cache_keptAt_1_x := by
  refine xOf_sound fun q r h => ?_
  obtain ⟨a0, a1⟩ := q
  refine fn_ok E0 hm Try.func158 rfl (by decide +kernel) (by rfl) fun Γ hn hk => ?_
  dsimp only [slices_IndexFunc_Kept_Cache_keptAt_1_e, slices_IndexFunc_Kept_Cache_keptAt_1_v]
  replace hn : Γ.n = 19 := hn
  replace hk : Γ.k = 0 := hk
  have H : HS (slices_IndexFunc_Kept_Cache_keptAt_1 a0 a1) r := h
  clear h; unfold slices_IndexFunc_Kept_Cache_keptAt_1 at H
  try simp -implicitDefEqProofs at H
  refine Tr.of_vc (cl := tabC [(166, impl_Cache_keptAt_1_x)]) (E := E0) [] (tab_cons k_impl_Cache_keptAt_1 tab_nil) hm (by rw [hn]; decide +kernel) ?_
  try simp -implicitDefEqProofs (maxSteps := 2000000) [-selQ_sel]
  obtain ⟨q, h_1, H⟩ := HS.bnd H
  refine Hid.mk (Tr.weak (s' := (slices_IndexFunc_Kept_Cache_keptAt_1_l0_S a0 a1) 0) (Wk.ofk [] hk (by rfl) (by simp -implicitDefEqProofs [slices_IndexFunc_Kept_Cache_keptAt_1_l0_S]) (by simp -implicitDefEqProofs [slices_IndexFunc_Kept_Cache_keptAt_1_l0_S])) ?_)
  refine wp_loop_of (S := (slices_IndexFunc_Kept_Cache_keptAt_1_l0_S a0 a1)) (f := (slices_IndexFunc_Kept_Cache_keptAt_1_l0 a0 a1)) (xt := (slices_IndexFunc_Kept_Cache_keptAt_1_l0_X a0 a1)) ?_ ?_ h_1 ?_
  · intro q; rcases q with ⟨⟩ | y6 <;> simp [slices_IndexFunc_Kept_Cache_keptAt_1_l0_X]
  · clear H h_1 q
    rintro x3 o R hf hR
    have H : HS (slices_IndexFunc_Kept_Cache_keptAt_1_l0 a0 a1 x3) o := hf
    clear hf; unfold slices_IndexFunc_Kept_Cache_keptAt_1_l0 at H
    try simp -implicitDefEqProofs at H
    refine Tr.of_vc (cl := tabC [(166, impl_Cache_keptAt_1_x)]) (E := E0) [] (tab_cons k_impl_Cache_keptAt_1 tab_nil) hm (by rw [hn]; decide +kernel) ?_
    try simp -implicitDefEqProofs (maxSteps := 2000000) [-selQ_sel, slices_IndexFunc_Kept_Cache_keptAt_1_l0_S]
    refine Hid.brV (fun h_2 => ?_) (fun h_2 => ?_)
    · replace H := HS.cnd_t h_2 H
      try simp -implicitDefEqProofs (maxSteps := 2000000) [-selQ_sel, h_2]
      have hr := (HS.some H).symm; subst hr
      exact Hid.mk ⟨(slices_IndexFunc_Kept_Cache_keptAt_1_l0_X a0 a1 (.inl ())).2, Wk.ofk [] hk (by rfl) (by simp -implicitDefEqProofs [slices_IndexFunc_Kept_Cache_keptAt_1_l0_X, h_2]) (by simp -implicitDefEqProofs [slices_IndexFunc_Kept_Cache_keptAt_1_l0_X, h_2]), hR⟩
    · replace H := HS.cnd_f h_2 H
      try simp -implicitDefEqProofs (maxSteps := 2000000) [-selQ_sel, h_2]
      obtain ⟨v4, h_3, H⟩ := HS.bnd H
      try simp -implicitDefEqProofs (maxSteps := 2000000) [-selQ_sel, h_2, h_3]
      obtain ⟨v5, h_4, H⟩ := HS.bnd H
      try simp -implicitDefEqProofs (maxSteps := 2000000) [-selQ_sel, h_2, h_3, h_4]
      refine Hid.brV (fun h_5 => ?_) (fun h_5 => ?_)
      · replace H := HS.cnd_t h_5 H
        try simp -implicitDefEqProofs (maxSteps := 2000000) [-selQ_sel, h_2, h_3, h_4, h_5]
        have hr := (HS.some H).symm; subst hr
        exact Hid.mk ⟨(slices_IndexFunc_Kept_Cache_keptAt_1_l0_X a0 a1 (.inr x3)).2, Wk.ofk [] hk (by rfl) (by simp -implicitDefEqProofs [slices_IndexFunc_Kept_Cache_keptAt_1_l0_X, h_2, h_3, h_4, h_5]) (by simp -implicitDefEqProofs [slices_IndexFunc_Kept_Cache_keptAt_1_l0_X, h_2, h_3, h_4, h_5]), hR⟩
      · replace H := HS.cnd_f h_5 H
        try simp -implicitDefEqProofs (maxSteps := 2000000) [-selQ_sel, h_2, h_3, h_4, h_5]
        have hr := (HS.some H).symm; subst hr
        exact Hid.mk ⟨slices_IndexFunc_Kept_Cache_keptAt_1_l0_S a0 a1 (IntKind.i64.wrap (x3 + 1)), Wk.ofk [] hk (by rfl) (by simp -implicitDefEqProofs [slices_IndexFunc_Kept_Cache_keptAt_1_l0_S, h_2, h_3, h_4, h_5]) (by simp -implicitDefEqProofs [slices_IndexFunc_Kept_Cache_keptAt_1_l0_S, h_2, h_3, h_4, h_5]), hR⟩
  · rcases q with ⟨⟩ | y6
    · dsimp only at H
      try simp -implicitDefEqProofs (maxSteps := 2000000) [-selQ_sel, slices_IndexFunc_Kept_Cache_keptAt_1_l0_X]
      have hr := (HS.some H).symm; subst hr
      refine Hid.mk ⟨_, Wk.refl _, ?_⟩
      try simp -implicitDefEqProofs (maxSteps := 2000000) [-selQ_sel]
    · dsimp only at H
      try simp -implicitDefEqProofs (maxSteps := 2000000) [-selQ_sel, slices_IndexFunc_Kept_Cache_keptAt_1_l0_X]
      have hr := (HS.some H).symm; subst hr
      refine Hid.mk ⟨_, Wk.refl _, ?_⟩
      try simp -implicitDefEqProofs (maxSteps := 2000000) [-selQ_sel]
theorem spec_DrawPlaces_ok0 (hm : Try.prog.follows .mixedOrders = true) (k_spec_l01New : Sound Try.prog 104 spec_l01New_x) (k_spec_l01Byte : Sound Try.prog 106 spec_l01Byte_x) (k_spec_l01Below : Sound Try.prog 107 spec_l01Below_x) : Sound Try.prog 41 spec_DrawPlaces_x := by
  refine xOf_sound fun q r h => ?_
  revert h; revert r; revert q; intro a0 r h
  refine fn_ok E0 hm Try.func41 rfl (by decide +kernel) (by rfl) fun Γ hn hk => ?_
  dsimp only [spec_DrawPlaces_e, spec_DrawPlaces_v]
  replace hn : Γ.n = 21 := hn
  replace hk : Γ.k = 0 := hk
  have H : HS (spec_DrawPlaces a0) r := h
  clear h; unfold spec_DrawPlaces at H
  try simp -implicitDefEqProofs at H
  refine Tr.of_vc (cl := tabC [(104, spec_l01New_x), (106, spec_l01Byte_x), (107, spec_l01Below_x)]) (E := E0) [] (tab_cons k_spec_l01New (tab_cons k_spec_l01Byte (tab_cons k_spec_l01Below tab_nil))) hm (by rw [hn]; decide +kernel) ?_
  try simp -implicitDefEqProofs (maxSteps := 2000000) [-selQ_sel]
  obtain ⟨v1, h_1, H⟩ := HS.bnd H
  try simp -implicitDefEqProofs (maxSteps := 2000000) [-selQ_sel, h_1]
  obtain ⟨⟨w3, w4⟩, h_2, H⟩ := HS.bnd H
  dsimp only at H
  try simp -implicitDefEqProofs (maxSteps := 2000000) [-selQ_sel, h_1, h_2]
  obtain ⟨q, h_3, H⟩ := HS.bnd H
  refine Hid.mk (Tr.weak (s' := spec_DrawPlaces_l0_S (0, w4.b, w4.i, w4.h, [])) (Wk.ofk [0, 1] hk (by rfl) (by simp -implicitDefEqProofs [spec_DrawPlaces_l0_S, h_1, h_2]) (by simp -implicitDefEqProofs [spec_DrawPlaces_l0_S, h_1, h_2])) ?_)
  refine wp_loop_of (S := spec_DrawPlaces_l0_S) (f := spec_DrawPlaces_l0) (xt := spec_DrawPlaces_l0_X) ?_ ?_ h_3 ?_
  · intro q; simp [spec_DrawPlaces_l0_X]
  · clear H h_3 q
    rintro ⟨x8, x9, x10, x11, x12⟩ o R hf hR
    have H : HS (spec_DrawPlaces_l0 (x8, x9, x10, x11, x12)) o := hf
    clear hf; unfold spec_DrawPlaces_l0 at H
    try simp -implicitDefEqProofs at H
    refine Tr.of_vc (cl := tabC [(104, spec_l01New_x), (106, spec_l01Byte_x), (107, spec_l01Below_x)]) (E := E0) [] (tab_cons k_spec_l01New (tab_cons k_spec_l01Byte (tab_cons k_spec_l01Below tab_nil))) hm (by rw [hn]; decide +kernel) ?_
    try simp -implicitDefEqProofs (maxSteps := 2000000) [-selQ_sel, spec_DrawPlaces_l0_S]
    refine Hid.brV (fun h_4 => ?_) (fun h_4 => ?_)
    · replace H := HS.cnd_t h_4 H
      try simp -implicitDefEqProofs (maxSteps := 2000000) [-selQ_sel, h_4]
      have hr := (HS.some H).symm; subst hr
      exact Hid.mk ⟨(spec_DrawPlaces_l0_X x12).2, Wk.ofk [1] hk (by rfl) (by simp -implicitDefEqProofs [spec_DrawPlaces_l0_X, h_4]) (by simp -implicitDefEqProofs [spec_DrawPlaces_l0_X, h_4]), hR⟩
    · replace H := HS.cnd_f h_4 H
      try simp -implicitDefEqProofs (maxSteps := 2000000) [-selQ_sel, h_4]
      obtain ⟨⟨w14, w15⟩, h_5, H⟩ := HS.bnd H
      dsimp only at H
      have k_6 := spec_l01Below_k 10000 ((TL01Cur.mk x9 x10 x11).b) ((TL01Cur.mk x9 x10 x11).i) ((TL01Cur.mk x9 x10 x11).h)
      simp -implicitDefEqProofs [-spec_l01Below_k] at k_6
      try simp -implicitDefEqProofs (maxSteps := 2000000) [-selQ_sel, h_4, h_5, k_6]
      obtain ⟨h_7, H⟩ := HS.chkP H
      try simp -implicitDefEqProofs (maxSteps := 2000000) [-selQ_sel, h_4, h_5, k_6, h_7]
      obtain ⟨l16, h_8, H⟩ := HS.nam H
      have m_9 := congrArg (List.map (AV.int .i64)) h_8
      have q_10 := congrArg List.length h_8
      simp -implicitDefEqProofs at m_9 q_10
      try simp only [q_10] at m_9
      try simp only [q_10] at h_7
      try simp -implicitDefEqProofs (maxSteps := 2000000) [-selQ_sel, h_4, h_5, k_6, h_7, m_9, q_10]
      have hr := (HS.some H).symm; subst hr
      exact Hid.mk ⟨spec_DrawPlaces_l0_S ((IntKind.i64.wrap (x8 + 1)), w15.b, w15.i, w15.h, l16), Wk.ofk [0, 1] hk (by rfl) (by simp -implicitDefEqProofs [spec_DrawPlaces_l0_S, h_4, h_5, k_6, h_7, m_9, q_10]) (by simp -implicitDefEqProofs [spec_DrawPlaces_l0_S, h_4, h_5, k_6, h_7, m_9, q_10]), hR⟩
  · revert H h_3; revert q; intro y17 h_3 H
    try dsimp only at H
    try simp -implicitDefEqProofs (maxSteps := 2000000) [-selQ_sel, h_1, h_2, spec_DrawPlaces_l0_X]
    have hr := (HS.some H).symm; subst hr
    refine Hid.mk ⟨_, Wk.refl _, ?_⟩
    try simp -implicitDefEqProofs (maxSteps := 2000000) [-selQ_sel, h_1, h_2]
theorem impl_Recall_ok0 (hm : Try.prog.follows .mixedOrders = true) (k_impl_copyCache : Sound Try.prog 82 impl_copyCache_x) (k_impl_Cache_keptAt : Sound Try.prog 101 impl_Cache_keptAt_x) (k_impl_CacheOk : Sound Try.prog 42 impl_CacheOk_x) (k_impl_Cache_toFront : Sound Try.prog 97 impl_Cache_toFront_x) (k_impl_copyMask : Sound Try.prog 98 impl_copyMask_x) : Sound Try.prog 36 impl_Recall_x := by
  refine xOf_sound fun q r h => ?_
  obtain ⟨a0, a1⟩ := q
  refine fn_ok E0 hm Try.func36 rfl (by decide +kernel) (by rfl) fun Γ hn hk => ?_
  dsimp only [impl_Recall_e, impl_Recall_v]
  replace hn : Γ.n = 36 := hn
  replace hk : Γ.k = 0 := hk
  have H : HS (impl_Recall a0 a1) r := h
  clear h; unfold impl_Recall at H
  try simp -implicitDefEqProofs at H
  refine Tr.of_vc (cl := tabC [(82, impl_copyCache_x), (101, impl_Cache_keptAt_x), (42, impl_CacheOk_x), (97, impl_Cache_toFront_x), (98, impl_copyMask_x)]) (E := E0) [] (tab_cons k_impl_copyCache (tab_cons k_impl_Cache_keptAt (tab_cons k_impl_CacheOk (tab_cons k_impl_Cache_toFront (tab_cons k_impl_copyMask tab_nil))))) hm (by rw [hn]; decide +kernel) ?_
  try simp -implicitDefEqProofs +decide (maxSteps := 2000000) [-selQ_sel, hokQ_of]
  obtain ⟨⟨w2, w3⟩, h_1, H⟩ := HS.bnd H
  dsimp only at H
  try simp -implicitDefEqProofs +decide (maxSteps := 2000000) [-selQ_sel, hokQ_of, h_1]
  obtain ⟨v4, h_2, H⟩ := HS.bnd H
  try simp -implicitDefEqProofs +decide (maxSteps := 2000000) [-selQ_sel, hokQ_of, h_1, h_2]
  refine Hid.selQ (fun h_3 => ?_) (fun h_3 => ?_)
  · replace H := HS.cnd_t h_3 H
    try simp -implicitDefEqProofs +decide (maxSteps := 2000000) [-selQ_sel, hokQ_of, h_1, h_2, h_3]
    obtain ⟨v5, h_4, H⟩ := HS.bnd H
    try simp -implicitDefEqProofs +decide (maxSteps := 2000000) [-selQ_sel, hokQ_of, h_1, h_2, h_3, h_4]
    refine Hid.brV (fun h_5 => ?_) (fun h_5 => ?_)
    · replace H := HS.cnd_t h_5 H
      try simp -implicitDefEqProofs +decide (maxSteps := 2000000) [-selQ_sel, hokQ_of, h_1, h_2, h_3, h_4, h_5]
      obtain ⟨v6, h_6, H⟩ := HS.bnd H
      have g_7 := idx_get h_6
      try simp -implicitDefEqProofs +decide (maxSteps := 2000000) [-selQ_sel, hokQ_of, h_1, h_2, h_3, h_4, h_5, h_6, g_7]
      obtain ⟨⟨w8, w9, w10⟩, h_8, H⟩ := HS.bnd H
      dsimp only at H
      try simp -implicitDefEqProofs +decide (maxSteps := 2000000) [-selQ_sel, hokQ_of, h_1, h_2, h_3, h_4, h_5, h_6, g_7, h_8]
      obtain ⟨v11, h_9, H⟩ := HS.bnd H
      try simp -implicitDefEqProofs +decide (maxSteps := 2000000) [-selQ_sel, hokQ_of, h_1, h_2, h_3, h_4, h_5, h_6, g_7, h_8, h_9]
      obtain ⟨v12, h_10, H⟩ := HS.bnd H
      try simp -implicitDefEqProofs +decide (maxSteps := 2000000) [-selQ_sel, hokQ_of, h_1, h_2, h_3, h_4, h_5, h_6, g_7, h_8, h_9, h_10]
      obtain ⟨v13, h_11, H⟩ := HS.bnd H
      have s_12 := (slc_spec h_11).1
      have s_13 := slc_fit h_11
      have s_14 := slc_map (e := eKept) h_11
      have s_15 := (slc_spec h_11).2.1
      simp -implicitDefEqProofs at s_12 s_13 s_14 s_15
      try simp only [s_15] at s_13 s_14
      try simp -implicitDefEqProofs +decide (maxSteps := 2000000) [-selQ_sel, hokQ_of, h_1, h_2, h_3, h_4, h_5, h_6, g_7, h_8, h_9, h_10, h_11, s_12, s_13, s_14, s_15]
      have hr := (HS.some H).symm; subst hr
      refine Hid.mk ⟨_, Wk.refl _, ?_⟩
      try simp -implicitDefEqProofs +decide (maxSteps := 2000000) [-selQ_sel, hokQ_of, h_1, h_2, h_3, h_4, h_5, h_6, g_7, h_8, h_9, h_10, h_11, s_12, s_13, s_14, s_15]
    · replace H := HS.cnd_f h_5 H
      try simp -implicitDefEqProofs +decide (maxSteps := 2000000) [-selQ_sel, hokQ_of, h_1, h_2, h_3, h_4, h_5]
      have hr := (HS.some H).symm; subst hr
      refine Hid.mk ⟨_, Wk.refl _, ?_⟩
      try simp -implicitDefEqProofs +decide (maxSteps := 2000000) [-selQ_sel, hokQ_of, h_1, h_2, h_3, h_4, h_5]
  · replace H := HS.cnd_f h_3 H
    try simp -implicitDefEqProofs +decide (maxSteps := 2000000) [-selQ_sel, hokQ_of, h_1, h_2, h_3]
    have hr := (HS.some H).symm; subst hr
    refine Hid.mk ⟨_, Wk.refl _, ?_⟩
    try simp -implicitDefEqProofs +decide (maxSteps := 2000000) [-selQ_sel, hokQ_of, h_1, h_2, h_3]
theorem slices_Index_int_ok0 (hm : Try.prog.follows .mixedOrders = true) : Sound Try.prog 159 slices_Index_int_x := by
  refine xOf_sound fun q r h => ?_
  obtain ⟨a0, a1⟩ := q
  refine fn_ok E0 hm Try.func159 rfl (by decide +kernel) (by rfl) fun Γ hn hk => ?_
  dsimp only [slices_Index_int_e, slices_Index_int_v]
  replace hn : Γ.n = 19 := hn
  replace hk : Γ.k = 0 := hk
  have H : HS (slices_Index_int a0 a1) r := h
  clear h; unfold slices_Index_int at H
  try simp -implicitDefEqProofs at H
  refine Tr.of_vc (cl := tabC []) (E := E0) [] tab_nil hm (by rw [hn]; decide +kernel) ?_
  try simp -implicitDefEqProofs (maxSteps := 2000000) [-selQ_sel]
  obtain ⟨q, h_1, H⟩ := HS.bnd H
  refine Hid.mk (Tr.weak (s' := (slices_Index_int_l0_S a0 a1) 0) (Wk.ofk [] hk (by rfl) (by simp -implicitDefEqProofs [slices_Index_int_l0_S]) (by simp -implicitDefEqProofs [slices_Index_int_l0_S])) ?_)
  refine wp_loop_of (S := (slices_Index_int_l0_S a0 a1)) (f := (slices_Index_int_l0 a0 a1)) (xt := (slices_Index_int_l0_X a0 a1)) ?_ ?_ h_1 ?_
  · intro q; rcases q with ⟨⟩ | y4 <;> simp [slices_Index_int_l0_X]
  · clear H h_1 q
    rintro x2 o R hf hR
    have H : HS (slices_Index_int_l0 a0 a1 x2) o := hf
    clear hf; unfold slices_Index_int_l0 at H
    try simp -implicitDefEqProofs at H
    refine Tr.of_vc (cl := tabC []) (E := E0) [] tab_nil hm (by rw [hn]; decide +kernel) ?_
    try simp -implicitDefEqProofs (maxSteps := 2000000) [-selQ_sel, slices_Index_int_l0_S]
    refine Hid.brV (fun h_2 => ?_) (fun h_2 => ?_)
    · replace H := HS.cnd_t h_2 H
      try simp -implicitDefEqProofs (maxSteps := 2000000) [-selQ_sel, h_2]
      have hr := (HS.some H).symm; subst hr
      exact Hid.mk ⟨(slices_Index_int_l0_X a0 a1 (.inl ())).2, Wk.ofk [] hk (by rfl) (by simp -implicitDefEqProofs [slices_Index_int_l0_X, h_2]) (by simp -implicitDefEqProofs [slices_Index_int_l0_X, h_2]), hR⟩
    · replace H := HS.cnd_f h_2 H
      try simp -implicitDefEqProofs (maxSteps := 2000000) [-selQ_sel, h_2]
      obtain ⟨v3, h_3, H⟩ := HS.bnd H
      try simp -implicitDefEqProofs (maxSteps := 2000000) [-selQ_sel, h_2, h_3]
      refine Hid.brV (fun h_4 => ?_) (fun h_4 => ?_)
      · replace H := HS.cnd_t h_4 H
        try simp -implicitDefEqProofs (maxSteps := 2000000) [-selQ_sel, h_2, h_3, h_4]
        have hr := (HS.some H).symm; subst hr
        exact Hid.mk ⟨(slices_Index_int_l0_X a0 a1 (.inr x2)).2, Wk.ofk [] hk (by rfl) (by simp -implicitDefEqProofs [slices_Index_int_l0_X, h_2, h_3, h_4]) (by simp -implicitDefEqProofs [slices_Index_int_l0_X, h_2, h_3, h_4]), hR⟩
      · replace H := HS.cnd_f h_4 H
        try simp -implicitDefEqProofs (maxSteps := 2000000) [-selQ_sel, h_2, h_3, h_4]
        have hr := (HS.some H).symm; subst hr
        exact Hid.mk ⟨slices_Index_int_l0_S a0 a1 (IntKind.i64.wrap (x2 + 1)), Wk.ofk [] hk (by rfl) (by simp -implicitDefEqProofs [slices_Index_int_l0_S, h_2, h_3, h_4]) (by simp -implicitDefEqProofs [slices_Index_int_l0_S, h_2, h_3, h_4]), hR⟩
  · rcases q with ⟨⟩ | y4
    · dsimp only at H
      try simp -implicitDefEqProofs (maxSteps := 2000000) [-selQ_sel, slices_Index_int_l0_X]
      have hr := (HS.some H).symm; subst hr
      refine Hid.mk ⟨_, Wk.refl _, ?_⟩
      try simp -implicitDefEqProofs (maxSteps := 2000000) [-selQ_sel]
    · dsimp only at H
      try simp -implicitDefEqProofs (maxSteps := 2000000) [-selQ_sel, slices_Index_int_l0_X]
      have hr := (HS.some H).symm; subst hr
      refine Hid.mk ⟨_, Wk.refl _, ?_⟩
      try simp -implicitDefEqProofs (maxSteps := 2000000) [-selQ_sel]
theorem spec_l01Below_ok0 (hm : Try.prog.follows .mixedOrders = true) (k_spec_l01Byte : Sound Try.prog 106 spec_l01Byte_x) : Sound Try.prog 107 spec_l01Below_x := by
  refine xOf_sound fun q r h => ?_
  obtain ⟨a0, a1⟩ := q
  refine fn_ok E0 hm Try.func107 rfl (by decide +kernel) (by rfl) fun Γ hn hk => ?_
  dsimp only [spec_l01Below_e, spec_l01Below_v]
  replace hn : Γ.n = 37 := hn
  replace hk : Γ.k = 1 := hk
  have H : HS (spec_l01Below a0 a1) r := h
  clear h; unfold spec_l01Below at H
  try simp -implicitDefEqProofs at H
  refine Tr.of_vc (cl := tabC [(106, spec_l01Byte_x)]) (E := E0) [] (tab_cons k_spec_l01Byte tab_nil) hm (by rw [hn]; decide +kernel) ?_
  try simp -implicitDefEqProofs (maxSteps := 2000000) [-selQ_sel]
  refine Hid.brV (fun h_1 => ?_) (fun h_1 => ?_)
  · replace H := HS.cnd_t h_1 H
    try simp -implicitDefEqProofs (maxSteps := 2000000) [-selQ_sel, h_1]
    have hr := (HS.some H).symm; subst hr
    refine Hid.mk ⟨_, Wk.refl _, ?_⟩
    try simp -implicitDefEqProofs (maxSteps := 2000000) [-selQ_sel, h_1]
  · replace H := HS.cnd_f h_1 H
    try simp -implicitDefEqProofs (maxSteps := 2000000) [-selQ_sel, h_1]
    refine Hid.brV (fun h_2 => ?_) (fun h_2 => ?_)
    · replace H := HS.cnd_t h_2 H
      try simp -implicitDefEqProofs (maxSteps := 2000000) [-selQ_sel, h_1, h_2]
      obtain ⟨⟨w2, w3⟩, h_3, H⟩ := HS.bnd H
      dsimp only at H
      try simp -implicitDefEqProofs (maxSteps := 2000000) [-selQ_sel, h_1, h_2, h_3]
      obtain ⟨h_4, H⟩ := HS.chkP H
      try simp -implicitDefEqProofs (maxSteps := 2000000) [-selQ_sel, h_1, h_2, h_3, h_4]
      have hr := (HS.some H).symm; subst hr
      refine Hid.mk ⟨_, Wk.refl _, ?_⟩
      try simp -implicitDefEqProofs (maxSteps := 2000000) [-selQ_sel, h_1, h_2, h_3, h_4]
    · replace H := HS.cnd_f h_2 H
      try simp -implicitDefEqProofs (maxSteps := 2000000) [-selQ_sel, h_1, h_2]
      obtain ⟨⟨w5, w6⟩, h_5, H⟩ := HS.bnd H
      dsimp only at H
      try simp -implicitDefEqProofs (maxSteps := 2000000) [-selQ_sel, h_1, h_2, h_5]
      obtain ⟨⟨w8, w9⟩, h_6, H⟩ := HS.bnd H
      dsimp only at H
      try simp -implicitDefEqProofs (maxSteps := 2000000) [-selQ_sel, h_1, h_2, h_5, h_6]
      obtain ⟨⟨w11, w12⟩, h_7, H⟩ := HS.bnd H
      dsimp only at H
      try simp -implicitDefEqProofs (maxSteps := 2000000) [-selQ_sel, h_1, h_2, h_5, h_6, h_7]
      obtain ⟨⟨w14, w15⟩, h_8, H⟩ := HS.bnd H
      dsimp only at H
      try simp -implicitDefEqProofs (maxSteps := 2000000) [-selQ_sel, h_1, h_2, h_5, h_6, h_7, h_8]
      obtain ⟨h_9, H⟩ := HS.chkP H
      try simp -implicitDefEqProofs (maxSteps := 2000000) [-selQ_sel, h_1, h_2, h_5, h_6, h_7, h_8, h_9]
      have hr := (HS.some H).symm; subst hr
      refine Hid.mk ⟨_, Wk.refl _, ?_⟩
      try simp -implicitDefEqProofs (maxSteps := 2000000) [-selQ_sel, h_1, h_2, h_5, h_6, h_7, h_8, h_9]
theorem spec_RectPath_ok0 (hm : Try.prog.follows .mixedOrders = true) (k_spec_Empty : Sound Try.prog 205 spec_Empty_x) (k_spec_PointOk : Sound Try.prog 222 spec_PointOk_x) : Sound Try.prog 213 spec_RectPath_x := by
  refine xOf_sound fun q r h => ?_
  revert h; revert r; revert q; intro a0 r h
  refine fn_ok E0 hm Try.func213 rfl (by decide +kernel) (by rfl) fun Γ hn hk => ?_
  dsimp only [spec_RectPath_e, spec_RectPath_v]
  replace hn : Γ.n = 45 := hn
  replace hk : Γ.k = 0 := hk
  have H : HS (spec_RectPath a0) r := h
  clear h; unfold spec_RectPath at H
  try simp -implicitDefEqProofs at H
  refine Tr.of_vc (cl := tabC [(205, spec_Empty_x), (222, spec_PointOk_x)]) (E := E0) [] (tab_cons k_spec_Empty (tab_cons k_spec_PointOk tab_nil)) hm (by rw [hn]; decide +kernel) ?_
  try simp -implicitDefEqProofs (maxSteps := 2000000) [-selQ_sel]
  obtain ⟨v1, h_1, H⟩ := HS.bnd H
  try simp -implicitDefEqProofs (maxSteps := 2000000) [-selQ_sel, h_1]
  refine Hid.selQ (fun h_2 => ?_) (fun h_2 => ?_)
  · replace H := HS.cnd_t h_2 H
    try simp -implicitDefEqProofs (maxSteps := 2000000) [-selQ_sel, h_1, h_2]
    have hr := (HS.some H).symm; subst hr
    refine Hid.mk ⟨_, Wk.refl _, ?_⟩
    try simp -implicitDefEqProofs (maxSteps := 2000000) [-selQ_sel, h_1, h_2]
  · replace H := HS.cnd_f h_2 H
    try simp -implicitDefEqProofs (maxSteps := 2000000) [-selQ_sel, h_1, h_2]
    obtain ⟨v2, h_3, H⟩ := HS.bnd H
    try simp -implicitDefEqProofs (maxSteps := 2000000) [-selQ_sel, h_1, h_2, h_3]
    refine Hid.selQ (fun h_4 => ?_) (fun h_4 => ?_)
    · replace H := HS.cnd_t h_4 H
      try simp -implicitDefEqProofs (maxSteps := 2000000) [-selQ_sel, h_1, h_2, h_3, h_4]
      obtain ⟨v3, h_5, H⟩ := HS.bnd H
      try simp -implicitDefEqProofs (maxSteps := 2000000) [-selQ_sel, h_1, h_2, h_3, h_4, h_5]
      refine Hid.brV (fun h_6 => ?_) (fun h_6 => ?_)
      · replace H := HS.cnd_t h_6 H
        try simp -implicitDefEqProofs (maxSteps := 2000000) [-selQ_sel, h_1, h_2, h_3, h_4, h_5, h_6]
        have hr := (HS.some H).symm; subst hr
        refine Hid.mk ⟨_, Wk.refl _, ?_⟩
        try simp -implicitDefEqProofs (maxSteps := 2000000) [-selQ_sel, h_1, h_2, h_3, h_4, h_5, h_6]
      · replace H := HS.cnd_f h_6 H
        try simp -implicitDefEqProofs (maxSteps := 2000000) [-selQ_sel, h_1, h_2, h_3, h_4, h_5, h_6]
        have hr := (HS.some H).symm; subst hr
        refine Hid.mk ⟨_, Wk.refl _, ?_⟩
        try simp -implicitDefEqProofs (maxSteps := 2000000) [-selQ_sel, h_1, h_2, h_3, h_4, h_5, h_6]
    · replace H := HS.cnd_f h_4 H
      try simp -implicitDefEqProofs (maxSteps := 2000000) [-selQ_sel, h_1, h_2, h_3, h_4]
      have hr := (HS.some H).symm; subst hr
      refine Hid.mk ⟨_, Wk.refl _, ?_⟩
      try simp -implicitDefEqProofs (maxSteps := 2000000) [-selQ_sel, h_1, h_2, h_3, h_4]
theorem spec_Clamp_ok0 (hm : Try.prog.follows .mixedOrders = true) : Sound Try.prog 228 spec_Clamp_x := by
  refine xOf_sound fun q r h => ?_
  obtain ⟨a0, a1, a2⟩ := q
  refine fn_ok E0 hm Try.func228 rfl (by decide +kernel) (by rfl) fun Γ hn hk => ?_
  dsimp only [spec_Clamp_e, spec_Clamp_v]
  replace hn : Γ.n = 16 := hn
  replace hk : Γ.k = 0 := hk
  have H : HS (spec_Clamp a0 a1 a2) r := h
  clear h; unfold spec_Clamp at H
  try simp -implicitDefEqProofs at H
  refine Tr.of_vc (cl := tabC []) (E := E0) [] tab_nil hm (by rw [hn]; decide +kernel) ?_
  try simp -implicitDefEqProofs (maxSteps := 2000000) [-selQ_sel]
  refine Hid.brV (fun h_1 => ?_) (fun h_1 => ?_)
  · replace H := HS.cnd_t h_1 H
    try simp -implicitDefEqProofs (maxSteps := 2000000) [-selQ_sel, h_1]
    refine Hid.brV (fun h_2 => ?_) (fun h_2 => ?_)
    · replace H := HS.cnd_t h_2 H
      try simp -implicitDefEqProofs (maxSteps := 2000000) [-selQ_sel, h_1, h_2]
      have hr := (HS.some H).symm; subst hr
      refine Hid.mk ⟨_, Wk.refl _, ?_⟩
      try simp -implicitDefEqProofs (maxSteps := 2000000) [-selQ_sel, h_1, h_2]
    · replace H := HS.cnd_f h_2 H
      try simp -implicitDefEqProofs (maxSteps := 2000000) [-selQ_sel, h_1, h_2]
      have hr := (HS.some H).symm; subst hr
      refine Hid.mk ⟨_, Wk.refl _, ?_⟩
      try simp -implicitDefEqProofs (maxSteps := 2000000) [-selQ_sel, h_1, h_2]
  · replace H := HS.cnd_f h_1 H
    try simp -implicitDefEqProofs (maxSteps := 2000000) [-selQ_sel, h_1]
    have hr := (HS.some H).symm; subst hr
    refine Hid.mk ⟨_, Wk.refl _, ?_⟩
    try simp -implicitDefEqProofs (maxSteps := 2000000) [-selQ_sel, h_1]
theorem slices_Clone_int_ok0 (hm : Try.prog.follows .mixedOrders = true) : Sound Try.prog 165 slices_Clone_int_x := by
  refine xOf_sound fun q r h => ?_
  revert h; revert r; revert q; intro a0 r h
  refine fn_ok E0 hm Try.func165 rfl (by decide +kernel) (by rfl) fun Γ hn hk => ?_
  dsimp only [slices_Clone_int_e, slices_Clone_int_v]
  replace hn : Γ.n = 8 := hn
  replace hk : Γ.k = 0 := hk
  have H : HS (slices_Clone_int a0) r := h
  clear h; unfold slices_Clone_int at H
  obtain ⟨h_1, H⟩ := HS.chkP H
  have hr := (HS.some H).symm; subst hr
  refine Tr.of_vc (cl := tabC []) (E := E0) [1] tab_nil hm (by rw [hn]; decide +kernel) ?_
  simp -implicitDefEqProofs [-selQ_sel]
  refine Hid.mk (Tr_nil (E := E0) tab_nil (h1 := rfl) (hd1 := fun d h => by cases h; rw [hn]; decide) (ho := rfl) (hg := rfl) (hd := rfl) (hdn := by rw [hn]; decide) (hu := elt_36) (hx := rfl) fun b hb => ?_)
  refine Tr.of_vc (cl := tabC []) (E := E0) [] tab_nil hm (by rw [hn]; decide +kernel) ?_
  simp -implicitDefEqProofs [-selQ_sel, aft, putT]
  refine Hid.brV (fun h_2 => ?_) (fun h_2 => ?_)
  · simp -implicitDefEqProofs [-selQ_sel]
    have h_3 := hb h_2; simp at h_3; subst h_3
    refine Hid.mk ⟨_, Wk.refl _, ?_⟩
    simp -implicitDefEqProofs [-selQ_sel, h_1]
    refine ⟨_, Wk.refl _, ?_⟩
    simp -implicitDefEqProofs [-selQ_sel, h_1]
  · simp -implicitDefEqProofs [-selQ_sel]
    refine Hid.mk ⟨_, Wk.refl _, ?_⟩
    simp -implicitDefEqProofs [-selQ_sel, h_1]
    refine ⟨_, Wk.refl _, ?_⟩
    simp -implicitDefEqProofs [-selQ_sel, h_1]
theorem spec_DrawMasks_ok0 (hm : Try.prog.follows .mixedOrders = true) (k_spec_l01New : Sound Try.prog 104 spec_l01New_x) (k_spec_l11Mask : Sound Try.prog 105 spec_l11Mask_x) : Sound Try.prog 40 spec_DrawMasks_x := by
  refine xOf_sound fun q r h => ?_
  revert h; revert r; revert q; intro a0 r h
  refine fn_ok E0 hm Try.func40 rfl (by decide +kernel) (by rfl) fun Γ hn hk => ?_
  dsimp only [spec_DrawMasks_e, spec_DrawMasks_v]
  replace hn : Γ.n = 11 := hn
  replace hk : Γ.k = 0 := hk
  have H : HS (spec_DrawMasks a0) r := h
  clear h; unfold spec_DrawMasks at H
  try simp -implicitDefEqProofs at H
  refine Tr.of_vc (cl := tabC [(104, spec_l01New_x), (105, spec_l11Mask_x)]) (E := E0) [] (tab_cons k_spec_l01New (tab_cons k_spec_l11Mask tab_nil)) hm (by rw [hn]; decide +kernel) ?_
  try simp -implicitDefEqProofs (maxSteps := 2000000) [-selQ_sel]
  obtain ⟨v1, h_1, H⟩ := HS.bnd H
  try simp -implicitDefEqProofs (maxSteps := 2000000) [-selQ_sel, h_1]
  obtain ⟨⟨w3, w4⟩, h_2, H⟩ := HS.bnd H
  dsimp only at H
  try simp -implicitDefEqProofs (maxSteps := 2000000) [-selQ_sel, h_1, h_2]
  obtain ⟨⟨w6, w7⟩, h_3, H⟩ := HS.bnd H
  dsimp only at H
  try simp -implicitDefEqProofs (maxSteps := 2000000) [-selQ_sel, h_1, h_2, h_3]
  have hr := (HS.some H).symm; subst hr
  refine Hid.mk ⟨_, Wk.refl _, ?_⟩
  try simp -implicitDefEqProofs (maxSteps := 2000000) [-selQ_sel, h_1, h_2, h_3]
theorem spec_Empty_ok0 (hm : Try.prog.follows .mixedOrders = true) : Sound Try.prog 205 spec_Empty_x := by
  refine xOf_sound fun q r h => ?_
  revert h; revert r; revert q; intro a0 r h
  refine fn_ok E0 hm Try.func205 rfl (by decide +kernel) (by rfl) fun Γ hn hk => ?_
  dsimp only [spec_Empty_e, spec_Empty_v]
  replace hn : Γ.n = 15 := hn
  replace hk : Γ.k = 0 := hk
  have H : HS (spec_Empty a0) r := h
  clear h; unfold spec_Empty at H
  try simp -implicitDefEqProofs at H
  refine Tr.of_vc (cl := tabC []) (E := E0) [] tab_nil hm (by rw [hn]; decide +kernel) ?_
  try simp -implicitDefEqProofs (maxSteps := 2000000) [-selQ_sel]
  refine Hid.selQ (fun h_1 => ?_) (fun h_1 => ?_)
  · replace H := HS.cnd_t h_1 H
    try simp -implicitDefEqProofs (maxSteps := 2000000) [-selQ_sel, h_1]
    have hr := (HS.some H).symm; subst hr
    refine Hid.mk ⟨_, Wk.refl _, ?_⟩
    try simp -implicitDefEqProofs (maxSteps := 2000000) [-selQ_sel, h_1]
  · replace H := HS.cnd_f h_1 H
    try simp -implicitDefEqProofs (maxSteps := 2000000) [-selQ_sel, h_1]
    have hr := (HS.some H).symm; subst hr
    refine Hid.mk ⟨_, Wk.refl _, ?_⟩
    try simp -implicitDefEqProofs (maxSteps := 2000000) [-selQ_sel, h_1]
theorem spec_l01In_ok0 (hm : Try.prog.follows .mixedOrders = true) : Sound Try.prog 91 spec_l01In_x := by
  refine xOf_sound fun q r h => ?_
  obtain ⟨a0, a1, a2⟩ := q
  refine fn_ok E0 hm Try.func91 rfl (by decide +kernel) (by rfl) fun Γ hn hk => ?_
  dsimp only [spec_l01In_e, spec_l01In_v]
  replace hn : Γ.n = 15 := hn
  replace hk : Γ.k = 0 := hk
  have H : HS (spec_l01In a0 a1 a2) r := h
  clear h; unfold spec_l01In at H
  try simp -implicitDefEqProofs at H
  refine Tr.of_vc (cl := tabC []) (E := E0) [] tab_nil hm (by rw [hn]; decide +kernel) ?_
  try simp -implicitDefEqProofs (maxSteps := 2000000) [-selQ_sel]
  refine Hid.selQ (fun h_1 => ?_) (fun h_1 => ?_)
  · replace H := HS.cnd_t h_1 H
    try simp -implicitDefEqProofs (maxSteps := 2000000) [-selQ_sel, h_1]
    have hr := (HS.some H).symm; subst hr
    refine Hid.mk ⟨_, Wk.refl _, ?_⟩
    try simp -implicitDefEqProofs (maxSteps := 2000000) [-selQ_sel, h_1]
  · replace H := HS.cnd_f h_1 H
    try simp -implicitDefEqProofs (maxSteps := 2000000) [-selQ_sel, h_1]
    have hr := (HS.some H).symm; subst hr
    refine Hid.mk ⟨_, Wk.refl _, ?_⟩
    try simp -implicitDefEqProofs (maxSteps := 2000000) [-selQ_sel, h_1]
theorem impl_Cache_keptAt_ok0 (hm : Try.prog.follows .mixedOrders = true) (k_slices_IndexFunc_Kept_Cache_keptAt_1 : Sound Try.prog 158 slices_IndexFunc_Kept_Cache_keptAt_1_x) : Sound Try.prog 101 impl_Cache_keptAt_x := by
  refine xOf_sound fun q r h => ?_
  obtain ⟨a0, a1⟩ := q
  refine fn_ok E0 hm Try.func101 rfl (by decide +kernel) (by rfl) fun Γ hn hk => ?_
  dsimp only [impl_Cache_keptAt_e, impl_Cache_keptAt_v]
  replace hn : Γ.n = 11 := hn
  replace hk : Γ.k = 0 := hk
  have H : HS (impl_Cache_keptAt a0 a1) r := h
  clear h; unfold impl_Cache_keptAt at H
  try simp -implicitDefEqProofs at H
  refine Tr.of_vc (cl := tabC [(158, slices_IndexFunc_Kept_Cache_keptAt_1_x)]) (E := E0) [] (tab_cons k_slices_IndexFunc_Kept_Cache_keptAt_1 tab_nil) hm (by rw [hn]; decide +kernel) ?_
  try simp -implicitDefEqProofs (maxSteps := 2000000) [-selQ_sel]
  obtain ⟨v1, h_1, H⟩ := HS.bnd H
  try simp -implicitDefEqProofs (maxSteps := 2000000) [-selQ_sel, h_1]
  have hr := (HS.some H).symm; subst hr
  refine Hid.mk ⟨_, Wk.refl _, ?_⟩
  try simp -implicitDefEqProofs (maxSteps := 2000000) [-selQ_sel, h_1]
theorem impl_Forget_1_ok0 (hm : Try.prog.follows .mixedOrders = true) (k_slices_Contains_int : Sound Try.prog 85 slices_Contains_int_x) : Sound Try.prog 84 impl_Forget_1_x := by
  refine xOf_sound fun q r h => ?_
  obtain ⟨a0, a1⟩ := q
  refine fn_ok E0 hm Try.func84 rfl (by decide +kernel) (by rfl) fun Γ hn hk => ?_
  dsimp only [impl_Forget_1_e, impl_Forget_1_v]
  replace hn : Γ.n = 8 := hn
  replace hk : Γ.k = 0 := hk
  have H : HS (impl_Forget_1 a0 a1) r := h
  clear h; unfold impl_Forget_1 at H
  try simp -implicitDefEqProofs at H
  refine Tr.of_vc (cl := tabC [(85, slices_Contains_int_x)]) (E := E0) [] (tab_cons k_slices_Contains_int tab_nil) hm (by rw [hn]; decide +kernel) ?_
  try simp -implicitDefEqProofs (maxSteps := 2000000) [-selQ_sel]
  obtain ⟨v1, h_1, H⟩ := HS.bnd H
  try simp -implicitDefEqProofs (maxSteps := 2000000) [-selQ_sel, h_1]
  have hr := (HS.some H).symm; subst hr
  refine Hid.mk ⟨_, Wk.refl _, ?_⟩
  try simp -implicitDefEqProofs (maxSteps := 2000000) [-selQ_sel, h_1]
theorem laws_big_ok0 (hm : Try.prog.follows .mixedOrders = true) : Sound Try.prog 38 laws_big_x := by
  refine xOf_sound fun q r h => ?_
  revert h; revert r; revert q; intro a0 r h
  refine fn_ok E0 hm Try.func38 rfl (by decide +kernel) (by rfl) fun Γ hn hk => ?_
  dsimp only [laws_big_e, laws_big_v]
  replace hn : Γ.n = 6 := hn
  replace hk : Γ.k = 0 := hk
  have H : HS (laws_big a0) r := h
  clear h; unfold laws_big at H
  try simp -implicitDefEqProofs at H
  refine Tr.of_vc (cl := tabC []) (E := E0) [] tab_nil hm (by rw [hn]; decide +kernel) ?_
  try simp -implicitDefEqProofs (maxSteps := 2000000) [-selQ_sel]
  have hr := (HS.some H).symm; subst hr
  refine Hid.mk ⟨_, Wk.refl _, ?_⟩
  try simp -implicitDefEqProofs (maxSteps := 2000000) [-selQ_sel]
end Go.Proofs.Ytafljhadfoaceaa.Am
