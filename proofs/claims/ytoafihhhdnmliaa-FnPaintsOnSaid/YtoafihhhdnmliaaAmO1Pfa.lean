import Derived.Test.YtoafihhhdnmliaaAmO1Mo
set_option linter.unusedVariables false
set_option linter.unusedSimpArgs false
set_option linter.unusedSectionVars false
namespace Go.Proofs.Ytoafihhhdnmliaa.Am
open Go Go.Proofs
set_option maxRecDepth 100000
set_option linter.unusedSimpArgs false
set_option linter.unusedVariables false
set_option maxHeartbeats 4000000
theorem spec_l06Path_ok0 (hm : Try.prog.follows .mixedOrders = true) (k_spec_l01Once : Sound Try.prog 184 spec_l01Once_x) (k_spec_l01Below : Sound Try.prog 110 spec_l01Below_x) (k_spec_RectPath : Sound Try.prog 225 spec_RectPath_x) (k_spec_l01PickInt : Sound Try.prog 171 spec_l01PickInt_x) (k_spec_NeedOf : Sound Try.prog 224 spec_NeedOf_x) (k_spec_l04Point : Sound Try.prog 186 spec_l04Point_x) : Sound Try.prog 183 spec_l06Path_x := by
  refine xOf_sound fun q r h => ?_
  revert h; revert r; revert q; intro a0 r h
  refine fn_ok E0 hm Try.func183 rfl (by decide +kernel) (by rfl) fun Γ hn hk => ?_
  dsimp only [spec_l06Path_e, spec_l06Path_v]
  replace hn : Γ.n = 79 := hn
  replace hk : Γ.k = 1 := hk
  have H : HS (spec_l06Path a0) r := h
  clear h; unfold spec_l06Path at H
  try simp -implicitDefEqProofs at H
  refine Tr.of_vc (cl := tabC [(184, spec_l01Once_x), (110, spec_l01Below_x), (225, spec_RectPath_x), (171, spec_l01PickInt_x), (224, spec_NeedOf_x), (186, spec_l04Point_x)]) (E := E0) [] (tab_cons k_spec_l01Once (tab_cons k_spec_l01Below (tab_cons k_spec_RectPath (tab_cons k_spec_l01PickInt (tab_cons k_spec_NeedOf (tab_cons k_spec_l04Point tab_nil)))))) hm (by rw [hn]; decide +kernel) ?_
  try simp -implicitDefEqProofs +decide (maxSteps := 2000000) [-selQ_sel, hokQ_of]
  obtain ⟨⟨w2, w3⟩, h_1, H⟩ := HS.bnd H
  dsimp only at H
  try simp -implicitDefEqProofs +decide (maxSteps := 2000000) [-selQ_sel, hokQ_of, h_1]
  refine Hid.brV (fun h_2 => ?_) (fun h_2 => ?_)
  · replace H := HS.cnd_t h_2 H
    try simp -implicitDefEqProofs +decide (maxSteps := 2000000) [-selQ_sel, hokQ_of, h_1, h_2]
    obtain ⟨⟨w5, w6⟩, h_3, H⟩ := HS.bnd H
    dsimp only at H
    try simp -implicitDefEqProofs +decide (maxSteps := 2000000) [-selQ_sel, hokQ_of, h_1, h_2, h_3]
    obtain ⟨⟨w8, w9⟩, h_4, H⟩ := HS.bnd H
    dsimp only at H
    try simp -implicitDefEqProofs +decide (maxSteps := 2000000) [-selQ_sel, hokQ_of, h_1, h_2, h_3, h_4]
    obtain ⟨⟨w11, w12⟩, h_5, H⟩ := HS.bnd H
    dsimp only at H
    try simp -implicitDefEqProofs +decide (maxSteps := 2000000) [-selQ_sel, hokQ_of, h_1, h_2, h_3, h_4, h_5]
    obtain ⟨⟨w14, w15⟩, h_6, H⟩ := HS.bnd H
    dsimp only at H
    try simp -implicitDefEqProofs +decide (maxSteps := 2000000) [-selQ_sel, hokQ_of, h_1, h_2, h_3, h_4, h_5, h_6]
    obtain ⟨v16, h_7, H⟩ := HS.bnd H
    try simp -implicitDefEqProofs +decide (maxSteps := 2000000) [-selQ_sel, hokQ_of, h_1, h_2, h_3, h_4, h_5, h_6, h_7]
    have hr := (HS.some H).symm; subst hr
    refine Hid.mk ⟨_, Wk.refl _, ?_⟩
    try simp -implicitDefEqProofs +decide (maxSteps := 2000000) [-selQ_sel, hokQ_of, h_1, h_2, h_3, h_4, h_5, h_6, h_7]
  · replace H := HS.cnd_f h_2 H
    try simp -implicitDefEqProofs +decide (maxSteps := 2000000) [-selQ_sel, hokQ_of, h_1, h_2]
    obtain ⟨q, h_8, H⟩ := HS.bnd H
    refine Hid.mk (Tr.weak (s' := spec_l06Path_l3_S (0, w3.b, w3.i, w3.h, [], [])) (Wk.ofk [0, 1, 2, 3, 4] hk (by rfl) (by simp -implicitDefEqProofs [spec_l06Path_l3_S, h_1, h_2]) (by simp -implicitDefEqProofs [spec_l06Path_l3_S, h_1, h_2])) ?_)
    refine wp_loop_of (S := spec_l06Path_l3_S) (f := spec_l06Path_l3) (xt := spec_l06Path_l3_X) ?_ ?_ h_8 ?_
    · intro q; rcases q with ⟨y118, y119, y120, y121, y122⟩ | ⟨y123, y124, y125, y126, y127⟩ <;> simp [spec_l06Path_l3_X]
    · clear H h_8 q
      rintro ⟨x42, x43, x44, x45, x46, x47⟩ o R hf hR
      have H : HS (spec_l06Path_l3 (x42, x43, x44, x45, x46, x47)) o := hf
      clear hf; unfold spec_l06Path_l3 at H
      try simp -implicitDefEqProofs at H
      refine Tr.of_vc (cl := tabC [(184, spec_l01Once_x), (110, spec_l01Below_x), (225, spec_RectPath_x), (171, spec_l01PickInt_x), (224, spec_NeedOf_x), (186, spec_l04Point_x)]) (E := E0) [] (tab_cons k_spec_l01Once (tab_cons k_spec_l01Below (tab_cons k_spec_RectPath (tab_cons k_spec_l01PickInt (tab_cons k_spec_NeedOf (tab_cons k_spec_l04Point tab_nil)))))) hm (by rw [hn]; decide +kernel) ?_
      try simp -implicitDefEqProofs +decide (maxSteps := 2000000) [-selQ_sel, hokQ_of, spec_l06Path_l3_S]
      obtain ⟨⟨w49, w50⟩, h_9, H⟩ := HS.bnd H
      dsimp only at H
      have k_10 := spec_l01Below_k 6 ((TL01Cur.mk x43 x44 x45).b) ((TL01Cur.mk x43 x44 x45).i) ((TL01Cur.mk x43 x44 x45).h)
      simp -implicitDefEqProofs [-spec_l01Below_k] at k_10
      try simp -implicitDefEqProofs +decide (maxSteps := 2000000) [-selQ_sel, hokQ_of, h_9, k_10]
      refine Hid.brV (fun h_11 => ?_) (fun h_11 => ?_)
      · replace H := HS.cnd_t h_11 H
        try simp -implicitDefEqProofs +decide (maxSteps := 2000000) [-selQ_sel, hokQ_of, h_9, k_10, h_11]
        have hr := (HS.some H).symm; subst hr
        exact Hid.mk ⟨(spec_l06Path_l3_X (.inl (w50.b, w50.i, w50.h, x46, x47))).2, Wk.ofk [0, 1, 2, 3, 4] hk (by rfl) (by simp -implicitDefEqProofs [spec_l06Path_l3_X, h_9, k_10, h_11]) (by simp -implicitDefEqProofs [spec_l06Path_l3_X, h_9, k_10, h_11]), hR⟩
      · replace H := HS.cnd_f h_11 H
        try simp -implicitDefEqProofs +decide (maxSteps := 2000000) [-selQ_sel, hokQ_of, h_9, k_10, h_11]
        obtain ⟨⟨w52, w53⟩, h_12, H⟩ := HS.bnd H
        dsimp only at H
        have k_13 := spec_l01PickInt_k w50.b w50.i w50.h [2, 2, 2, 3, 4, 5, 1]
        simp -implicitDefEqProofs [-spec_l01PickInt_k] at k_13
        try simp -implicitDefEqProofs +decide (maxSteps := 2000000) [-selQ_sel, hokQ_of, h_9, k_10, h_11, h_12, k_13]
        refine Hid.selQ (fun h_14 => ?_) (fun h_14 => ?_)
        · replace H := HS.cnd_t h_14 H
          try simp -implicitDefEqProofs +decide (maxSteps := 2000000) [-selQ_sel, hokQ_of, h_9, k_10, h_11, h_12, k_13, h_14]
          obtain ⟨v54, h_15, H⟩ := HS.bnd H
          try simp -implicitDefEqProofs +decide (maxSteps := 2000000) [-selQ_sel, hokQ_of, h_9, k_10, h_11, h_12, k_13, h_14, h_15]
          refine Hid.brV (fun h_16 => ?_) (fun h_16 => ?_)
          · replace H := HS.cnd_t h_16 H
            try simp -implicitDefEqProofs +decide (maxSteps := 2000000) [-selQ_sel, hokQ_of, h_9, k_10, h_11, h_12, k_13, h_14, h_15, h_16]
            obtain ⟨h_17, H⟩ := HS.chkP H
            try simp -implicitDefEqProofs +decide (maxSteps := 2000000) [-selQ_sel, hokQ_of, h_9, k_10, h_11, h_12, k_13, h_14, h_15, h_16, h_17]
            obtain ⟨l55, h_18, H⟩ := HS.nam H
            have m_19 := congrArg (List.map (AV.int .i64)) h_18
            have q_20 := congrArg List.length h_18
            simp -implicitDefEqProofs at m_19 q_20
            try simp only [q_20] at m_19
            try simp only [q_20] at h_17
            try simp -implicitDefEqProofs +decide (maxSteps := 2000000) [-selQ_sel, hokQ_of, h_9, k_10, h_11, h_12, k_13, h_14, h_15, h_16, h_17, m_19, q_20]
            obtain ⟨q, h_21, H⟩ := HS.bnd H
            refine Hid.mk (Tr.weak (s' := (spec_l06Path_l0_S l55 x42) (0, w53.b, w53.i, w53.h, x47)) (Wk.ofk [0, 1, 2, 3, 4] hk (by rfl) (by simp -implicitDefEqProofs [spec_l06Path_l0_S, h_9, k_10, h_11, h_12, k_13, h_14, h_15, h_16, h_17, m_19, q_20]) (by simp -implicitDefEqProofs [spec_l06Path_l0_S, h_9, k_10, h_11, h_12, k_13, h_14, h_15, h_16, h_17, m_19, q_20])) ?_)
            refine wp_loop_of (S := (spec_l06Path_l0_S l55 x42)) (f := (spec_l06Path_l0 l55 x42)) (xt := (spec_l06Path_l0_X l55 x42)) ?_ ?_ h_21 ?_
            · intro q; rcases q with ⟨y71, y72, y73, y74⟩ <;> simp [spec_l06Path_l0_X]
            · clear H h_21 q
              rintro ⟨x61, x62, x63, x64, x65⟩ o R hf hR
              have H : HS (spec_l06Path_l0 l55 x42 (x61, x62, x63, x64, x65)) o := hf
              clear hf; unfold spec_l06Path_l0 at H
              try simp -implicitDefEqProofs at H
              refine Tr.of_vc (cl := tabC [(184, spec_l01Once_x), (110, spec_l01Below_x), (225, spec_RectPath_x), (171, spec_l01PickInt_x), (224, spec_NeedOf_x), (186, spec_l04Point_x)]) (E := E0) [] (tab_cons k_spec_l01Once (tab_cons k_spec_l01Below (tab_cons k_spec_RectPath (tab_cons k_spec_l01PickInt (tab_cons k_spec_NeedOf (tab_cons k_spec_l04Point tab_nil)))))) hm (by rw [hn]; decide +kernel) ?_
              try simp -implicitDefEqProofs +decide (maxSteps := 2000000) [-selQ_sel, hokQ_of, spec_l06Path_l0_S]
              obtain ⟨v66, h_22, H⟩ := HS.bnd H
              try simp -implicitDefEqProofs +decide (maxSteps := 2000000) [-selQ_sel, hokQ_of, h_22]
              refine Hid.brV (fun h_23 => ?_) (fun h_23 => ?_)
              · replace H := HS.cnd_t h_23 H
                try simp -implicitDefEqProofs +decide (maxSteps := 2000000) [-selQ_sel, hokQ_of, h_22, h_23]
                have hr := (HS.some H).symm; subst hr
                exact Hid.mk ⟨(spec_l06Path_l0_X l55 x42 (x62, x63, x64, x65)).2, Wk.ofk [0, 1, 2, 3, 4] hk (by rfl) (by simp -implicitDefEqProofs [spec_l06Path_l0_X, h_22, h_23]) (by simp -implicitDefEqProofs [spec_l06Path_l0_X, h_22, h_23]), hR⟩
              · replace H := HS.cnd_f h_23 H
                try simp -implicitDefEqProofs +decide (maxSteps := 2000000) [-selQ_sel, hokQ_of, h_22, h_23]
                obtain ⟨⟨w68, w69⟩, h_24, H⟩ := HS.bnd H
                dsimp only at H
                have k_25 := spec_l04Point_k ((TL01Cur.mk x62 x63 x64).b) ((TL01Cur.mk x62 x63 x64).i) ((TL01Cur.mk x62 x63 x64).h)
                simp -implicitDefEqProofs [-spec_l04Point_k] at k_25
                try simp -implicitDefEqProofs +decide (maxSteps := 2000000) [-selQ_sel, hokQ_of, h_22, h_23, h_24, k_25]
                obtain ⟨h_26, H⟩ := HS.chkP H
                try simp -implicitDefEqProofs +decide (maxSteps := 2000000) [-selQ_sel, hokQ_of, h_22, h_23, h_24, k_25, h_26]
                obtain ⟨l70, h_27, H⟩ := HS.nam H
                have m_28 := congrArg (List.map ePoint) h_27
                have q_29 := congrArg List.length h_27
                simp -implicitDefEqProofs at m_28 q_29
                try simp only [q_29] at m_28
                try simp only [q_29] at h_26
                try simp -implicitDefEqProofs +decide (maxSteps := 2000000) [-selQ_sel, hokQ_of, h_22, h_23, h_24, k_25, h_26, m_28, q_29]
                have hr := (HS.some H).symm; subst hr
                exact Hid.mk ⟨spec_l06Path_l0_S l55 x42 ((IntKind.i64.wrap (x61 + 1)), w69.b, w69.i, w69.h, l70), Wk.ofk [0, 1, 2, 3, 4] hk (by rfl) (by simp -implicitDefEqProofs [spec_l06Path_l0_S, h_22, h_23, h_24, k_25, h_26, m_28, q_29]) (by simp -implicitDefEqProofs [spec_l06Path_l0_S, h_22, h_23, h_24, k_25, h_26, m_28, q_29]), hR⟩
            · obtain ⟨y71, y72, y73, y74⟩ := q
              try dsimp only at H
              try simp -implicitDefEqProofs +decide (maxSteps := 2000000) [-selQ_sel, hokQ_of, h_9, k_10, h_11, h_12, k_13, h_14, h_15, h_16, h_17, m_19, q_20, spec_l06Path_l0_X]
              have hr := (HS.some H).symm; subst hr
              exact Hid.mk ⟨spec_l06Path_l3_S ((IntKind.i64.wrap (x42 + 1)), y71, y72, y73, l55, y74), Wk.ofk [0, 1, 2, 3, 4] hk (by rfl) (by simp -implicitDefEqProofs [spec_l06Path_l3_S, h_9, k_10, h_11, h_12, k_13, h_14, h_15, h_16, h_17, m_19, q_20]) (by simp -implicitDefEqProofs [spec_l06Path_l3_S, h_9, k_10, h_11, h_12, k_13, h_14, h_15, h_16, h_17, m_19, q_20]), hR⟩
          · replace H := HS.cnd_f h_16 H
            try simp -implicitDefEqProofs +decide (maxSteps := 2000000) [-selQ_sel, hokQ_of, h_9, k_10, h_11, h_12, k_13, h_14, h_15, h_16]
            have hr := (HS.some H).symm; subst hr
            exact Hid.mk ⟨(spec_l06Path_l3_X (.inr (w53.b, w53.i, w53.h, x46, x47))).2, Wk.ofk [0, 1, 3, 4] hk (by rfl) (by simp -implicitDefEqProofs [spec_l06Path_l3_X, h_9, k_10, h_11, h_12, k_13, h_14, h_15, h_16]) (by simp -implicitDefEqProofs [spec_l06Path_l3_X, h_9, k_10, h_11, h_12, k_13, h_14, h_15, h_16]), hR⟩
        · replace H := HS.cnd_f h_14 H
          try simp -implicitDefEqProofs +decide (maxSteps := 2000000) [-selQ_sel, hokQ_of, h_9, k_10, h_11, h_12, k_13, h_14]
          obtain ⟨v75, h_30, H⟩ := HS.bnd H
          have g_31 := idx_get h_30
          try simp -implicitDefEqProofs +decide (maxSteps := 2000000) [-selQ_sel, hokQ_of, h_9, k_10, h_11, h_12, k_13, h_14, h_30, g_31]
          refine Hid.brV (fun h_32 => ?_) (fun h_32 => ?_)
          · replace H := HS.cnd_t h_32 H
            try simp -implicitDefEqProofs +decide (maxSteps := 2000000) [-selQ_sel, hokQ_of, h_9, k_10, h_11, h_12, k_13, h_14, h_30, g_31, h_32]
            obtain ⟨v76, h_33, H⟩ := HS.bnd H
            try simp -implicitDefEqProofs +decide (maxSteps := 2000000) [-selQ_sel, hokQ_of, h_9, k_10, h_11, h_12, k_13, h_14, h_30, g_31, h_32, h_33]
            refine Hid.brV (fun h_34 => ?_) (fun h_34 => ?_)
            · replace H := HS.cnd_t h_34 H
              try simp -implicitDefEqProofs +decide (maxSteps := 2000000) [-selQ_sel, hokQ_of, h_9, k_10, h_11, h_12, k_13, h_14, h_30, g_31, h_32, h_33, h_34]
              obtain ⟨h_35, H⟩ := HS.chkP H
              try simp -implicitDefEqProofs +decide (maxSteps := 2000000) [-selQ_sel, hokQ_of, h_9, k_10, h_11, h_12, k_13, h_14, h_30, g_31, h_32, h_33, h_34, h_35]
              obtain ⟨l77, h_36, H⟩ := HS.nam H
              have m_37 := congrArg (List.map (AV.int .i64)) h_36
              have q_38 := congrArg List.length h_36
              simp -implicitDefEqProofs at m_37 q_38
              try simp only [q_38] at m_37
              try simp only [q_38] at h_35
              try simp -implicitDefEqProofs +decide (maxSteps := 2000000) [-selQ_sel, hokQ_of, h_9, k_10, h_11, h_12, k_13, h_14, h_30, g_31, h_32, h_33, h_34, h_35, m_37, q_38]
              obtain ⟨q, h_39, H⟩ := HS.bnd H
              refine Hid.mk (Tr.weak (s' := (spec_l06Path_l1_S l77 x42) (0, w53.b, w53.i, w53.h, x47)) (Wk.ofk [0, 1, 2, 3, 4] hk (by rfl) (by simp -implicitDefEqProofs [spec_l06Path_l1_S, h_9, k_10, h_11, h_12, k_13, h_14, h_30, g_31, h_32, h_33, h_34, h_35, m_37, q_38]) (by simp -implicitDefEqProofs [spec_l06Path_l1_S, h_9, k_10, h_11, h_12, k_13, h_14, h_30, g_31, h_32, h_33, h_34, h_35, m_37, q_38])) ?_)
              refine wp_loop_of (S := (spec_l06Path_l1_S l77 x42)) (f := (spec_l06Path_l1 l77 x42)) (xt := (spec_l06Path_l1_X l77 x42)) ?_ ?_ h_39 ?_
              · intro q; rcases q with ⟨y93, y94, y95, y96⟩ <;> simp [spec_l06Path_l1_X]
              · clear H h_39 q
                rintro ⟨x83, x84, x85, x86, x87⟩ o R hf hR
                have H : HS (spec_l06Path_l1 l77 x42 (x83, x84, x85, x86, x87)) o := hf
                clear hf; unfold spec_l06Path_l1 at H
                try simp -implicitDefEqProofs at H
                refine Tr.of_vc (cl := tabC [(184, spec_l01Once_x), (110, spec_l01Below_x), (225, spec_RectPath_x), (171, spec_l01PickInt_x), (224, spec_NeedOf_x), (186, spec_l04Point_x)]) (E := E0) [] (tab_cons k_spec_l01Once (tab_cons k_spec_l01Below (tab_cons k_spec_RectPath (tab_cons k_spec_l01PickInt (tab_cons k_spec_NeedOf (tab_cons k_spec_l04Point tab_nil)))))) hm (by rw [hn]; decide +kernel) ?_
                try simp -implicitDefEqProofs +decide (maxSteps := 2000000) [-selQ_sel, hokQ_of, spec_l06Path_l1_S]
                obtain ⟨v88, h_40, H⟩ := HS.bnd H
                try simp -implicitDefEqProofs +decide (maxSteps := 2000000) [-selQ_sel, hokQ_of, h_40]
                refine Hid.brV (fun h_41 => ?_) (fun h_41 => ?_)
                · replace H := HS.cnd_t h_41 H
                  try simp -implicitDefEqProofs +decide (maxSteps := 2000000) [-selQ_sel, hokQ_of, h_40, h_41]
                  have hr := (HS.some H).symm; subst hr
                  exact Hid.mk ⟨(spec_l06Path_l1_X l77 x42 (x84, x85, x86, x87)).2, Wk.ofk [0, 1, 2, 3, 4] hk (by rfl) (by simp -implicitDefEqProofs [spec_l06Path_l1_X, h_40, h_41]) (by simp -implicitDefEqProofs [spec_l06Path_l1_X, h_40, h_41]), hR⟩
                · replace H := HS.cnd_f h_41 H
                  try simp -implicitDefEqProofs +decide (maxSteps := 2000000) [-selQ_sel, hokQ_of, h_40, h_41]
                  obtain ⟨⟨w90, w91⟩, h_42, H⟩ := HS.bnd H
                  dsimp only at H
                  have k_43 := spec_l04Point_k ((TL01Cur.mk x84 x85 x86).b) ((TL01Cur.mk x84 x85 x86).i) ((TL01Cur.mk x84 x85 x86).h)
                  simp -implicitDefEqProofs [-spec_l04Point_k] at k_43
                  try simp -implicitDefEqProofs +decide (maxSteps := 2000000) [-selQ_sel, hokQ_of, h_40, h_41, h_42, k_43]
                  obtain ⟨h_44, H⟩ := HS.chkP H
                  try simp -implicitDefEqProofs +decide (maxSteps := 2000000) [-selQ_sel, hokQ_of, h_40, h_41, h_42, k_43, h_44]
                  obtain ⟨l92, h_45, H⟩ := HS.nam H
                  have m_46 := congrArg (List.map ePoint) h_45
                  have q_47 := congrArg List.length h_45
                  simp -implicitDefEqProofs at m_46 q_47
                  try simp only [q_47] at m_46
                  try simp only [q_47] at h_44
                  try simp -implicitDefEqProofs +decide (maxSteps := 2000000) [-selQ_sel, hokQ_of, h_40, h_41, h_42, k_43, h_44, m_46, q_47]
                  have hr := (HS.some H).symm; subst hr
                  exact Hid.mk ⟨spec_l06Path_l1_S l77 x42 ((IntKind.i64.wrap (x83 + 1)), w91.b, w91.i, w91.h, l92), Wk.ofk [0, 1, 2, 3, 4] hk (by rfl) (by simp -implicitDefEqProofs [spec_l06Path_l1_S, h_40, h_41, h_42, k_43, h_44, m_46, q_47]) (by simp -implicitDefEqProofs [spec_l06Path_l1_S, h_40, h_41, h_42, k_43, h_44, m_46, q_47]), hR⟩
              · obtain ⟨y93, y94, y95, y96⟩ := q
                try dsimp only at H
                try simp -implicitDefEqProofs +decide (maxSteps := 2000000) [-selQ_sel, hokQ_of, h_9, k_10, h_11, h_12, k_13, h_14, h_30, g_31, h_32, h_33, h_34, h_35, m_37, q_38, spec_l06Path_l1_X]
                have hr := (HS.some H).symm; subst hr
                exact Hid.mk ⟨spec_l06Path_l3_S ((IntKind.i64.wrap (x42 + 1)), y93, y94, y95, l77, y96), Wk.ofk [0, 1, 2, 3, 4] hk (by rfl) (by simp -implicitDefEqProofs [spec_l06Path_l3_S, h_9, k_10, h_11, h_12, k_13, h_14, h_30, g_31, h_32, h_33, h_34, h_35, m_37, q_38]) (by simp -implicitDefEqProofs [spec_l06Path_l3_S, h_9, k_10, h_11, h_12, k_13, h_14, h_30, g_31, h_32, h_33, h_34, h_35, m_37, q_38]), hR⟩
            · replace H := HS.cnd_f h_34 H
              try simp -implicitDefEqProofs +decide (maxSteps := 2000000) [-selQ_sel, hokQ_of, h_9, k_10, h_11, h_12, k_13, h_14, h_30, g_31, h_32, h_33, h_34]
              have hr := (HS.some H).symm; subst hr
              exact Hid.mk ⟨(spec_l06Path_l3_X (.inr (w53.b, w53.i, w53.h, x46, x47))).2, Wk.ofk [0, 1, 3, 4] hk (by rfl) (by simp -implicitDefEqProofs [spec_l06Path_l3_X, h_9, k_10, h_11, h_12, k_13, h_14, h_30, g_31, h_32, h_33, h_34]) (by simp -implicitDefEqProofs [spec_l06Path_l3_X, h_9, k_10, h_11, h_12, k_13, h_14, h_30, g_31, h_32, h_33, h_34]), hR⟩
          · replace H := HS.cnd_f h_32 H
            try simp -implicitDefEqProofs +decide (maxSteps := 2000000) [-selQ_sel, hokQ_of, h_9, k_10, h_11, h_12, k_13, h_14, h_30, g_31, h_32]
            obtain ⟨v97, h_48, H⟩ := HS.bnd H
            try simp -implicitDefEqProofs +decide (maxSteps := 2000000) [-selQ_sel, hokQ_of, h_9, k_10, h_11, h_12, k_13, h_14, h_30, g_31, h_32, h_48]
            refine Hid.brV (fun h_49 => ?_) (fun h_49 => ?_)
            · replace H := HS.cnd_t h_49 H
              try simp -implicitDefEqProofs +decide (maxSteps := 2000000) [-selQ_sel, hokQ_of, h_9, k_10, h_11, h_12, k_13, h_14, h_30, g_31, h_32, h_48, h_49]
              obtain ⟨h_50, H⟩ := HS.chkP H
              try simp -implicitDefEqProofs +decide (maxSteps := 2000000) [-selQ_sel, hokQ_of, h_9, k_10, h_11, h_12, k_13, h_14, h_30, g_31, h_32, h_48, h_49, h_50]
              obtain ⟨l98, h_51, H⟩ := HS.nam H
              have m_52 := congrArg (List.map (AV.int .i64)) h_51
              have q_53 := congrArg List.length h_51
              simp -implicitDefEqProofs at m_52 q_53
              try simp only [q_53] at m_52
              try simp only [q_53] at h_50
              try simp -implicitDefEqProofs +decide (maxSteps := 2000000) [-selQ_sel, hokQ_of, h_9, k_10, h_11, h_12, k_13, h_14, h_30, g_31, h_32, h_48, h_49, h_50, m_52, q_53]
              obtain ⟨q, h_54, H⟩ := HS.bnd H
              refine Hid.mk (Tr.weak (s' := (spec_l06Path_l2_S l98 w52 x42) (0, w53.b, w53.i, w53.h, x47)) (Wk.ofk [0, 1, 2, 3, 4] hk (by rfl) (by simp -implicitDefEqProofs [spec_l06Path_l2_S, h_9, k_10, h_11, h_12, k_13, h_14, h_30, g_31, h_32, h_48, h_49, h_50, m_52, q_53]) (by simp -implicitDefEqProofs [spec_l06Path_l2_S, h_9, k_10, h_11, h_12, k_13, h_14, h_30, g_31, h_32, h_48, h_49, h_50, m_52, q_53])) ?_)
              refine wp_loop_of (S := (spec_l06Path_l2_S l98 w52 x42)) (f := (spec_l06Path_l2 l98 w52 x42)) (xt := (spec_l06Path_l2_X l98 w52 x42)) ?_ ?_ h_54 ?_
              · intro q; rcases q with ⟨y114, y115, y116, y117⟩ <;> simp [spec_l06Path_l2_X]
              · clear H h_54 q
                rintro ⟨x104, x105, x106, x107, x108⟩ o R hf hR
                have H : HS (spec_l06Path_l2 l98 w52 x42 (x104, x105, x106, x107, x108)) o := hf
                clear hf; unfold spec_l06Path_l2 at H
                try simp -implicitDefEqProofs at H
                refine Tr.of_vc (cl := tabC [(184, spec_l01Once_x), (110, spec_l01Below_x), (225, spec_RectPath_x), (171, spec_l01PickInt_x), (224, spec_NeedOf_x), (186, spec_l04Point_x)]) (E := E0) [] (tab_cons k_spec_l01Once (tab_cons k_spec_l01Below (tab_cons k_spec_RectPath (tab_cons k_spec_l01PickInt (tab_cons k_spec_NeedOf (tab_cons k_spec_l04Point tab_nil)))))) hm (by rw [hn]; decide +kernel) ?_
                try simp -implicitDefEqProofs +decide (maxSteps := 2000000) [-selQ_sel, hokQ_of, spec_l06Path_l2_S]
                obtain ⟨v109, h_55, H⟩ := HS.bnd H
                try simp -implicitDefEqProofs +decide (maxSteps := 2000000) [-selQ_sel, hokQ_of, h_55]
                refine Hid.brV (fun h_56 => ?_) (fun h_56 => ?_)
                · replace H := HS.cnd_t h_56 H
                  try simp -implicitDefEqProofs +decide (maxSteps := 2000000) [-selQ_sel, hokQ_of, h_55, h_56]
                  have hr := (HS.some H).symm; subst hr
                  exact Hid.mk ⟨(spec_l06Path_l2_X l98 w52 x42 (x105, x106, x107, x108)).2, Wk.ofk [0, 1, 2, 3, 4] hk (by rfl) (by simp -implicitDefEqProofs [spec_l06Path_l2_X, h_55, h_56]) (by simp -implicitDefEqProofs [spec_l06Path_l2_X, h_55, h_56]), hR⟩
                · replace H := HS.cnd_f h_56 H
                  try simp -implicitDefEqProofs +decide (maxSteps := 2000000) [-selQ_sel, hokQ_of, h_55, h_56]
                  obtain ⟨⟨w111, w112⟩, h_57, H⟩ := HS.bnd H
                  dsimp only at H
                  have k_58 := spec_l04Point_k ((TL01Cur.mk x105 x106 x107).b) ((TL01Cur.mk x105 x106 x107).i) ((TL01Cur.mk x105 x106 x107).h)
                  simp -implicitDefEqProofs [-spec_l04Point_k] at k_58
                  try simp -implicitDefEqProofs +decide (maxSteps := 2000000) [-selQ_sel, hokQ_of, h_55, h_56, h_57, k_58]
                  obtain ⟨h_59, H⟩ := HS.chkP H
                  try simp -implicitDefEqProofs +decide (maxSteps := 2000000) [-selQ_sel, hokQ_of, h_55, h_56, h_57, k_58, h_59]
                  obtain ⟨l113, h_60, H⟩ := HS.nam H
                  have m_61 := congrArg (List.map ePoint) h_60
                  have q_62 := congrArg List.length h_60
                  simp -implicitDefEqProofs at m_61 q_62
                  try simp only [q_62] at m_61
                  try simp only [q_62] at h_59
                  try simp -implicitDefEqProofs +decide (maxSteps := 2000000) [-selQ_sel, hokQ_of, h_55, h_56, h_57, k_58, h_59, m_61, q_62]
                  have hr := (HS.some H).symm; subst hr
                  exact Hid.mk ⟨spec_l06Path_l2_S l98 w52 x42 ((IntKind.i64.wrap (x104 + 1)), w112.b, w112.i, w112.h, l113), Wk.ofk [0, 1, 2, 3, 4] hk (by rfl) (by simp -implicitDefEqProofs [spec_l06Path_l2_S, h_55, h_56, h_57, k_58, h_59, m_61, q_62]) (by simp -implicitDefEqProofs [spec_l06Path_l2_S, h_55, h_56, h_57, k_58, h_59, m_61, q_62]), hR⟩
              · obtain ⟨y114, y115, y116, y117⟩ := q
                try dsimp only at H
                try simp -implicitDefEqProofs +decide (maxSteps := 2000000) [-selQ_sel, hokQ_of, h_9, k_10, h_11, h_12, k_13, h_14, h_30, g_31, h_32, h_48, h_49, h_50, m_52, q_53, spec_l06Path_l2_X]
                have hr := (HS.some H).symm; subst hr
                exact Hid.mk ⟨spec_l06Path_l3_S ((IntKind.i64.wrap (x42 + 1)), y114, y115, y116, l98, y117), Wk.ofk [0, 1, 2, 3, 4] hk (by rfl) (by simp -implicitDefEqProofs [spec_l06Path_l3_S, h_9, k_10, h_11, h_12, k_13, h_14, h_30, g_31, h_32, h_48, h_49, h_50, m_52, q_53]) (by simp -implicitDefEqProofs [spec_l06Path_l3_S, h_9, k_10, h_11, h_12, k_13, h_14, h_30, g_31, h_32, h_48, h_49, h_50, m_52, q_53]), hR⟩
            · replace H := HS.cnd_f h_49 H
              try simp -implicitDefEqProofs +decide (maxSteps := 2000000) [-selQ_sel, hokQ_of, h_9, k_10, h_11, h_12, k_13, h_14, h_30, g_31, h_32, h_48, h_49]
              have hr := (HS.some H).symm; subst hr
              exact Hid.mk ⟨(spec_l06Path_l3_X (.inr (w53.b, w53.i, w53.h, x46, x47))).2, Wk.ofk [0, 1, 3, 4] hk (by rfl) (by simp -implicitDefEqProofs [spec_l06Path_l3_X, h_9, k_10, h_11, h_12, k_13, h_14, h_30, g_31, h_32, h_48, h_49]) (by simp -implicitDefEqProofs [spec_l06Path_l3_X, h_9, k_10, h_11, h_12, k_13, h_14, h_30, g_31, h_32, h_48, h_49]), hR⟩
    · rcases q with ⟨y118, y119, y120, y121, y122⟩ | ⟨y123, y124, y125, y126, y127⟩
      · dsimp only at H
        try simp -implicitDefEqProofs +decide (maxSteps := 2000000) [-selQ_sel, hokQ_of, h_1, h_2, spec_l06Path_l3_X]
        have hr := (HS.some H).symm; subst hr
        refine Hid.mk ⟨_, Wk.refl _, ?_⟩
        try simp -implicitDefEqProofs +decide (maxSteps := 2000000) [-selQ_sel, hokQ_of, h_1, h_2]
      · dsimp only at H
        try simp -implicitDefEqProofs +decide (maxSteps := 2000000) [-selQ_sel, hokQ_of, h_1, h_2, spec_l06Path_l3_X]
        have hr := (HS.some H).symm; subst hr
        refine Hid.mk ⟨_, Wk.refl _, ?_⟩
        try simp -implicitDefEqProofs +decide (maxSteps := 2000000) [-selQ_sel, hokQ_of, h_1, h_2]
theorem spec_WindOf_ok0 (hm : Try.prog.follows .mixedOrders = true) (k_spec_l10Near : Sound Try.prog 247 spec_l10Near_x) : Sound Try.prog 245 spec_WindOf_x := by
  refine xOf_sound fun q r h => ?_
  obtain ⟨a0, a1⟩ := q
  refine fn_ok E0 hm Try.func245 rfl (by decide +kernel) (by rfl) fun Γ hn hk => ?_
  dsimp only [spec_WindOf_e, spec_WindOf_v]
  replace hn : Γ.n = 99 := hn
  replace hk : Γ.k = 0 := hk
  have H : HS (spec_WindOf a0 a1) r := h
  clear h; unfold spec_WindOf at H
  try simp -implicitDefEqProofs at H
  refine Tr.of_vc (cl := tabC [(247, spec_l10Near_x)]) (E := E0) [] (tab_cons k_spec_l10Near tab_nil) hm (by rw [hn]; decide +kernel) ?_
  try simp -implicitDefEqProofs (maxSteps := 2000000) [-selQ_sel]
  obtain ⟨v1, h_1, H⟩ := HS.bnd H
  try simp -implicitDefEqProofs (maxSteps := 2000000) [-selQ_sel, h_1]
  refine Hid.brV (fun h_2 => ?_) (fun h_2 => ?_)
  · replace H := HS.cnd_t h_2 H
    try simp -implicitDefEqProofs (maxSteps := 2000000) [-selQ_sel, h_1, h_2]
    obtain ⟨q, h_3, H⟩ := HS.bnd H
    refine Hid.mk (Tr.weak (s' := (spec_WindOf_l0_S a0 a1) (0, 0)) (Wk.ofk [0] hk (by rfl) (by simp -implicitDefEqProofs [spec_WindOf_l0_S, h_1, h_2]) (by simp -implicitDefEqProofs [spec_WindOf_l0_S, h_1, h_2])) ?_)
    refine wp_loop_of (S := (spec_WindOf_l0_S a0 a1)) (f := (spec_WindOf_l0 a0 a1)) (xt := (spec_WindOf_l0_X a0 a1)) ?_ ?_ h_3 ?_
    · intro q; rcases q with y12 | ⟨⟩ <;> simp [spec_WindOf_l0_X]
    · clear H h_3 q
      rintro ⟨x6, x7⟩ o R hf hR
      have H : HS (spec_WindOf_l0 a0 a1 (x6, x7)) o := hf
      clear hf; unfold spec_WindOf_l0 at H
      try simp -implicitDefEqProofs at H
      refine Tr.of_vc (cl := tabC [(247, spec_l10Near_x)]) (E := E0) [] (tab_cons k_spec_l10Near tab_nil) hm (by rw [hn]; decide +kernel) ?_
      try simp -implicitDefEqProofs (maxSteps := 2000000) [-selQ_sel, spec_WindOf_l0_S]
      refine Hid.brV (fun h_4 => ?_) (fun h_4 => ?_)
      · replace H := HS.cnd_t h_4 H
        try simp -implicitDefEqProofs (maxSteps := 2000000) [-selQ_sel, h_4]
        have hr := (HS.some H).symm; subst hr
        exact Hid.mk ⟨(spec_WindOf_l0_X a0 a1 (.inl x7)).2, Wk.ofk [] hk (by rfl) (by simp -implicitDefEqProofs [spec_WindOf_l0_X, h_4]) (by simp -implicitDefEqProofs [spec_WindOf_l0_X, h_4]), hR⟩
      · replace H := HS.cnd_f h_4 H
        try simp -implicitDefEqProofs (maxSteps := 2000000) [-selQ_sel, h_4]
        obtain ⟨v8, h_5, H⟩ := HS.bnd H
        try simp -implicitDefEqProofs (maxSteps := 2000000) [-selQ_sel, h_4, h_5]
        obtain ⟨h_6, H⟩ := HS.chkP H
        try simp -implicitDefEqProofs (maxSteps := 2000000) [-selQ_sel, h_4, h_5, h_6]
        obtain ⟨v9, h_7, H⟩ := HS.bnd H
        try simp -implicitDefEqProofs (maxSteps := 2000000) [-selQ_sel, h_4, h_5, h_6, h_7]
        obtain ⟨v10, h_8, H⟩ := HS.bnd H
        try simp -implicitDefEqProofs (maxSteps := 2000000) [-selQ_sel, h_4, h_5, h_6, h_7, h_8]
        refine Hid.selQ (fun h_9 => ?_) (fun h_9 => ?_)
        · replace H := HS.cnd_t h_9 H
          try simp -implicitDefEqProofs (maxSteps := 2000000) [-selQ_sel, h_4, h_5, h_6, h_7, h_8, h_9]
          obtain ⟨v11, h_10, H⟩ := HS.bnd H
          try simp -implicitDefEqProofs (maxSteps := 2000000) [-selQ_sel, h_4, h_5, h_6, h_7, h_8, h_9, h_10]
          refine Hid.brV (fun h_11 => ?_) (fun h_11 => ?_)
          · replace H := HS.cnd_t h_11 H
            try simp -implicitDefEqProofs (maxSteps := 2000000) [-selQ_sel, h_4, h_5, h_6, h_7, h_8, h_9, h_10, h_11]
            refine Hid.selQ (fun h_12 => ?_) (fun h_12 => ?_)
            · replace H := HS.cnd_t h_12 H
              try simp -implicitDefEqProofs (maxSteps := 2000000) [-selQ_sel, h_4, h_5, h_6, h_7, h_8, h_9, h_10, h_11, h_12]
              refine Hid.selQ (fun h_13 => ?_) (fun h_13 => ?_)
              · replace H := HS.cnd_t h_13 H
                try simp -implicitDefEqProofs (maxSteps := 2000000) [-selQ_sel, h_4, h_5, h_6, h_7, h_8, h_9, h_10, h_11, h_12, h_13]
                have hr := (HS.some H).symm; subst hr
                exact Hid.mk ⟨spec_WindOf_l0_S a0 a1 ((IntKind.i64.wrap (x6 + 1)), x7), Wk.ofk [0] hk (by rfl) (by simp -implicitDefEqProofs [spec_WindOf_l0_S, h_4, h_5, h_6, h_7, h_8, h_9, h_10, h_11, h_12, h_13]) (by simp -implicitDefEqProofs [spec_WindOf_l0_S, h_4, h_5, h_6, h_7, h_8, h_9, h_10, h_11, h_12, h_13]), hR⟩
              · replace H := HS.cnd_f h_13 H
                try simp -implicitDefEqProofs (maxSteps := 2000000) [-selQ_sel, h_4, h_5, h_6, h_7, h_8, h_9, h_10, h_11, h_12, h_13]
                refine Hid.brV (fun h_14 => ?_) (fun h_14 => ?_)
                · replace H := HS.cnd_t h_14 H
                  try simp -implicitDefEqProofs (maxSteps := 2000000) [-selQ_sel, h_4, h_5, h_6, h_7, h_8, h_9, h_10, h_11, h_12, h_13, h_14]
                  have hr := (HS.some H).symm; subst hr
                  exact Hid.mk ⟨spec_WindOf_l0_S a0 a1 ((IntKind.i64.wrap (x6 + 1)), x7), Wk.ofk [0] hk (by rfl) (by simp -implicitDefEqProofs [spec_WindOf_l0_S, h_4, h_5, h_6, h_7, h_8, h_9, h_10, h_11, h_12, h_13, h_14]) (by simp -implicitDefEqProofs [spec_WindOf_l0_S, h_4, h_5, h_6, h_7, h_8, h_9, h_10, h_11, h_12, h_13, h_14]), hR⟩
                · replace H := HS.cnd_f h_14 H
                  try simp -implicitDefEqProofs (maxSteps := 2000000) [-selQ_sel, h_4, h_5, h_6, h_7, h_8, h_9, h_10, h_11, h_12, h_13, h_14]
                  have hr := (HS.some H).symm; subst hr
                  exact Hid.mk ⟨spec_WindOf_l0_S a0 a1 ((IntKind.i64.wrap (x6 + 1)), (IntKind.i64.wrap (x7 + 1))), Wk.ofk [0] hk (by rfl) (by simp -implicitDefEqProofs [spec_WindOf_l0_S, h_4, h_5, h_6, h_7, h_8, h_9, h_10, h_11, h_12, h_13, h_14]) (by simp -implicitDefEqProofs [spec_WindOf_l0_S, h_4, h_5, h_6, h_7, h_8, h_9, h_10, h_11, h_12, h_13, h_14]), hR⟩
            · replace H := HS.cnd_f h_12 H
              try simp -implicitDefEqProofs (maxSteps := 2000000) [-selQ_sel, h_4, h_5, h_6, h_7, h_8, h_9, h_10, h_11, h_12]
              refine Hid.selQ (fun h_15 => ?_) (fun h_15 => ?_)
              · replace H := HS.cnd_t h_15 H
                try simp -implicitDefEqProofs (maxSteps := 2000000) [-selQ_sel, h_4, h_5, h_6, h_7, h_8, h_9, h_10, h_11, h_12, h_15]
                refine Hid.brV (fun h_16 => ?_) (fun h_16 => ?_)
                · replace H := HS.cnd_t h_16 H
                  try simp -implicitDefEqProofs (maxSteps := 2000000) [-selQ_sel, h_4, h_5, h_6, h_7, h_8, h_9, h_10, h_11, h_12, h_15, h_16]
                  have hr := (HS.some H).symm; subst hr
                  exact Hid.mk ⟨spec_WindOf_l0_S a0 a1 ((IntKind.i64.wrap (x6 + 1)), x7), Wk.ofk [0] hk (by rfl) (by simp -implicitDefEqProofs [spec_WindOf_l0_S, h_4, h_5, h_6, h_7, h_8, h_9, h_10, h_11, h_12, h_15, h_16]) (by simp -implicitDefEqProofs [spec_WindOf_l0_S, h_4, h_5, h_6, h_7, h_8, h_9, h_10, h_11, h_12, h_15, h_16]), hR⟩
                · replace H := HS.cnd_f h_16 H
                  try simp -implicitDefEqProofs (maxSteps := 2000000) [-selQ_sel, h_4, h_5, h_6, h_7, h_8, h_9, h_10, h_11, h_12, h_15, h_16]
                  have hr := (HS.some H).symm; subst hr
                  exact Hid.mk ⟨spec_WindOf_l0_S a0 a1 ((IntKind.i64.wrap (x6 + 1)), (IntKind.i64.wrap (x7 - 1))), Wk.ofk [0] hk (by rfl) (by simp -implicitDefEqProofs [spec_WindOf_l0_S, h_4, h_5, h_6, h_7, h_8, h_9, h_10, h_11, h_12, h_15, h_16]) (by simp -implicitDefEqProofs [spec_WindOf_l0_S, h_4, h_5, h_6, h_7, h_8, h_9, h_10, h_11, h_12, h_15, h_16]), hR⟩
              · replace H := HS.cnd_f h_15 H
                try simp -implicitDefEqProofs (maxSteps := 2000000) [-selQ_sel, h_4, h_5, h_6, h_7, h_8, h_9, h_10, h_11, h_12, h_15]
                have hr := (HS.some H).symm; subst hr
                exact Hid.mk ⟨spec_WindOf_l0_S a0 a1 ((IntKind.i64.wrap (x6 + 1)), x7), Wk.ofk [0] hk (by rfl) (by simp -implicitDefEqProofs [spec_WindOf_l0_S, h_4, h_5, h_6, h_7, h_8, h_9, h_10, h_11, h_12, h_15]) (by simp -implicitDefEqProofs [spec_WindOf_l0_S, h_4, h_5, h_6, h_7, h_8, h_9, h_10, h_11, h_12, h_15]), hR⟩
          · replace H := HS.cnd_f h_11 H
            try simp -implicitDefEqProofs (maxSteps := 2000000) [-selQ_sel, h_4, h_5, h_6, h_7, h_8, h_9, h_10, h_11]
            have hr := (HS.some H).symm; subst hr
            exact Hid.mk ⟨(spec_WindOf_l0_X a0 a1 (.inr ())).2, Wk.ofk [] hk (by rfl) (by simp -implicitDefEqProofs [spec_WindOf_l0_X, h_4, h_5, h_6, h_7, h_8, h_9, h_10, h_11]) (by simp -implicitDefEqProofs [spec_WindOf_l0_X, h_4, h_5, h_6, h_7, h_8, h_9, h_10, h_11]), hR⟩
        · replace H := HS.cnd_f h_9 H
          try simp -implicitDefEqProofs (maxSteps := 2000000) [-selQ_sel, h_4, h_5, h_6, h_7, h_8, h_9]
          have hr := (HS.some H).symm; subst hr
          exact Hid.mk ⟨(spec_WindOf_l0_X a0 a1 (.inr ())).2, Wk.ofk [] hk (by rfl) (by simp -implicitDefEqProofs [spec_WindOf_l0_X, h_4, h_5, h_6, h_7, h_8, h_9]) (by simp -implicitDefEqProofs [spec_WindOf_l0_X, h_4, h_5, h_6, h_7, h_8, h_9]), hR⟩
    · rcases q with y12 | ⟨⟩
      · dsimp only at H
        try simp -implicitDefEqProofs (maxSteps := 2000000) [-selQ_sel, h_1, h_2, spec_WindOf_l0_X]
        have hr := (HS.some H).symm; subst hr
        refine Hid.mk ⟨_, Wk.refl _, ?_⟩
        try simp -implicitDefEqProofs (maxSteps := 2000000) [-selQ_sel, h_1, h_2]
      · dsimp only at H
        try simp -implicitDefEqProofs (maxSteps := 2000000) [-selQ_sel, h_1, h_2, spec_WindOf_l0_X]
        have hr := (HS.some H).symm; subst hr
        refine Hid.mk ⟨_, Wk.refl _, ?_⟩
        try simp -implicitDefEqProofs (maxSteps := 2000000) [-selQ_sel, h_1, h_2]
  · replace H := HS.cnd_f h_2 H
    try simp -implicitDefEqProofs (maxSteps := 2000000) [-selQ_sel, h_1, h_2]
    have hr := (HS.some H).symm; subst hr
    refine Hid.mk ⟨_, Wk.refl _, ?_⟩
    try simp -implicitDefEqProofs (maxSteps := 2000000) [-selQ_sel, h_1, h_2]
theorem spec_MaskOf_ok0 (hm : Try.prog.follows .mixedOrders = true) (k_spec_l11Box : Sound Try.prog 148 spec_l11Box_x) (k_spec_MaskAt : Sound Try.prog 221 spec_MaskAt_x) : Sound Try.prog 181 spec_MaskOf_x := by
  refine xOf_sound fun q r h => ?_
  obtain ⟨a0, a1, a2⟩ := q
  refine fn_ok E0 hm Try.func181 rfl (by decide +kernel) (by rfl) fun Γ hn hk => ?_
  dsimp only [spec_MaskOf_e, spec_MaskOf_v]
  replace hn : Γ.n = 43 := hn
  replace hk : Γ.k = 0 := hk
  have H : HS (spec_MaskOf a0 a1 a2) r := h
  clear h; unfold spec_MaskOf at H
  try simp -implicitDefEqProofs at H
  refine Tr.of_vc (cl := tabC [(148, spec_l11Box_x), (221, spec_MaskAt_x)]) (E := E0) [] (tab_cons k_spec_l11Box (tab_cons k_spec_MaskAt tab_nil)) hm (by rw [hn]; decide +kernel) ?_
  try simp -implicitDefEqProofs +decide (maxSteps := 2000000) [-selQ_sel, hokQ_of]
  obtain ⟨v1, h_1, H⟩ := HS.bnd H
  try simp -implicitDefEqProofs +decide (maxSteps := 2000000) [-selQ_sel, hokQ_of, h_1]
  refine Hid.brV (fun h_2 => ?_) (fun h_2 => ?_)
  · replace H := HS.cnd_t h_2 H
    try simp -implicitDefEqProofs +decide (maxSteps := 2000000) [-selQ_sel, hokQ_of, h_1, h_2]
    obtain ⟨q, h_3, H⟩ := HS.bnd H
    refine Hid.mk (Tr.weak (s' := (spec_MaskOf_l1_S a0 a1 a2) (a2.y0, [])) (Wk.ofk [0, 1, 2, 3] hk (by rfl) (by simp -implicitDefEqProofs [spec_MaskOf_l1_S, h_1, h_2]) (by simp -implicitDefEqProofs [spec_MaskOf_l1_S, h_1, h_2])) ?_)
    refine wp_loop_of (S := (spec_MaskOf_l1_S a0 a1 a2)) (f := (spec_MaskOf_l1 a0 a1 a2)) (xt := (spec_MaskOf_l1_X a0 a1 a2)) ?_ ?_ h_3 ?_
    · intro q; simp [spec_MaskOf_l1_X]
    · clear H h_3 q
      rintro ⟨x8, x9⟩ o R hf hR
      have H : HS (spec_MaskOf_l1 a0 a1 a2 (x8, x9)) o := hf
      clear hf; unfold spec_MaskOf_l1 at H
      try simp -implicitDefEqProofs at H
      refine Tr.of_vc (cl := tabC [(148, spec_l11Box_x), (221, spec_MaskAt_x)]) (E := E0) [] (tab_cons k_spec_l11Box (tab_cons k_spec_MaskAt tab_nil)) hm (by rw [hn]; decide +kernel) ?_
      try simp -implicitDefEqProofs +decide (maxSteps := 2000000) [-selQ_sel, hokQ_of, spec_MaskOf_l1_S]
      refine Hid.brV (fun h_4 => ?_) (fun h_4 => ?_)
      · replace H := HS.cnd_t h_4 H
        try simp -implicitDefEqProofs +decide (maxSteps := 2000000) [-selQ_sel, hokQ_of, h_4]
        have hr := (HS.some H).symm; subst hr
        exact Hid.mk ⟨(spec_MaskOf_l1_X a0 a1 a2 x9).2, Wk.ofk [1, 2, 3] hk (by rfl) (by simp -implicitDefEqProofs [spec_MaskOf_l1_X, h_4]) (by simp -implicitDefEqProofs [spec_MaskOf_l1_X, h_4]), hR⟩
      · replace H := HS.cnd_f h_4 H
        try simp -implicitDefEqProofs +decide (maxSteps := 2000000) [-selQ_sel, hokQ_of, h_4]
        obtain ⟨q, h_5, H⟩ := HS.bnd H
        refine Hid.mk (Tr.weak (s' := (spec_MaskOf_l0_S a0 a1 a2 x8) (a2.x0, x9)) (Wk.ofk [0, 1, 2, 3] hk (by rfl) (by simp -implicitDefEqProofs [spec_MaskOf_l0_S, h_4]) (by simp -implicitDefEqProofs [spec_MaskOf_l0_S, h_4])) ?_)
        refine wp_loop_of (S := (spec_MaskOf_l0_S a0 a1 a2 x8)) (f := (spec_MaskOf_l0 a0 a1 a2 x8)) (xt := (spec_MaskOf_l0_X a0 a1 a2 x8)) ?_ ?_ h_5 ?_
        · intro q; simp [spec_MaskOf_l0_X]
        · clear H h_5 q
          rintro ⟨x12, x13⟩ o R hf hR
          have H : HS (spec_MaskOf_l0 a0 a1 a2 x8 (x12, x13)) o := hf
          clear hf; unfold spec_MaskOf_l0 at H
          try simp -implicitDefEqProofs at H
          refine Tr.of_vc (cl := tabC [(148, spec_l11Box_x), (221, spec_MaskAt_x)]) (E := E0) [] (tab_cons k_spec_l11Box (tab_cons k_spec_MaskAt tab_nil)) hm (by rw [hn]; decide +kernel) ?_
          try simp -implicitDefEqProofs +decide (maxSteps := 2000000) [-selQ_sel, hokQ_of, spec_MaskOf_l0_S]
          refine Hid.brV (fun h_6 => ?_) (fun h_6 => ?_)
          · replace H := HS.cnd_t h_6 H
            try simp -implicitDefEqProofs +decide (maxSteps := 2000000) [-selQ_sel, hokQ_of, h_6]
            have hr := (HS.some H).symm; subst hr
            exact Hid.mk ⟨(spec_MaskOf_l0_X a0 a1 a2 x8 x13).2, Wk.ofk [0, 1, 2, 3] hk (by rfl) (by simp -implicitDefEqProofs [spec_MaskOf_l0_X, h_6]) (by simp -implicitDefEqProofs [spec_MaskOf_l0_X, h_6]), hR⟩
          · replace H := HS.cnd_f h_6 H
            try simp -implicitDefEqProofs +decide (maxSteps := 2000000) [-selQ_sel, hokQ_of, h_6]
            obtain ⟨v14, h_7, H⟩ := HS.bnd H
            try simp -implicitDefEqProofs +decide (maxSteps := 2000000) [-selQ_sel, hokQ_of, h_6, h_7]
            obtain ⟨h_8, H⟩ := HS.chkP H
            try simp -implicitDefEqProofs +decide (maxSteps := 2000000) [-selQ_sel, hokQ_of, h_6, h_7, h_8]
            obtain ⟨l15, h_9, H⟩ := HS.nam H
            have m_10 := congrArg (List.map (AV.int .i64)) h_9
            have q_11 := congrArg List.length h_9
            simp -implicitDefEqProofs at m_10 q_11
            try simp only [q_11] at m_10
            try simp only [q_11] at h_8
            try simp -implicitDefEqProofs +decide (maxSteps := 2000000) [-selQ_sel, hokQ_of, h_6, h_7, h_8, m_10, q_11]
            have hr := (HS.some H).symm; subst hr
            exact Hid.mk ⟨spec_MaskOf_l0_S a0 a1 a2 x8 ((IntKind.i64.wrap (x12 + 1)), l15), Wk.ofk [0, 1, 2, 3] hk (by rfl) (by simp -implicitDefEqProofs [spec_MaskOf_l0_S, h_6, h_7, h_8, m_10, q_11]) (by simp -implicitDefEqProofs [spec_MaskOf_l0_S, h_6, h_7, h_8, m_10, q_11]), hR⟩
        · revert H h_5; revert q; intro y16 h_5 H
          try dsimp only at H
          try simp -implicitDefEqProofs +decide (maxSteps := 2000000) [-selQ_sel, hokQ_of, h_4, spec_MaskOf_l0_X]
          have hr := (HS.some H).symm; subst hr
          exact Hid.mk ⟨spec_MaskOf_l1_S a0 a1 a2 ((IntKind.i64.wrap (x8 + 1)), y16), Wk.ofk [0, 1, 2, 3] hk (by rfl) (by simp -implicitDefEqProofs [spec_MaskOf_l1_S, h_4]) (by simp -implicitDefEqProofs [spec_MaskOf_l1_S, h_4]), hR⟩
    · revert H h_3; revert q; intro y17 h_3 H
      try dsimp only at H
      try simp -implicitDefEqProofs +decide (maxSteps := 2000000) [-selQ_sel, hokQ_of, h_1, h_2, spec_MaskOf_l1_X]
      have hr := (HS.some H).symm; subst hr
      refine Hid.mk ⟨⟨[(6, AV.optr 0 0 5)], [(0, Ob.box [AV.int .i64 a2.x0, AV.int .i64 a2.y0, AV.int .i64 a2.x1, AV.int .i64 a2.y1, AV.osl 1 0 (List.length y17) (List.length y17)]), (1, Ob.arr 1 (List.map (AV.int .i64) y17) false)], 2⟩, Wk.ofk [0, 2] hk (by rfl) (by simp -implicitDefEqProofs [h_1, h_2]) (by simp -implicitDefEqProofs [h_1, h_2]), ?_⟩
      try simp -implicitDefEqProofs +decide (maxSteps := 2000000) [-selQ_sel, hokQ_of, h_1, h_2]
  · replace H := HS.cnd_f h_2 H
    try simp -implicitDefEqProofs +decide (maxSteps := 2000000) [-selQ_sel, hokQ_of, h_1, h_2]
    have hr := (HS.some H).symm; subst hr
    refine Hid.mk ⟨⟨[(6, AV.optr 0 0 5)], [(0, Ob.box [AV.int .i64 0, AV.int .i64 0, AV.int .i64 0, AV.int .i64 0, AV.osl 1 0 0 0]), (1, Ob.arr 1 (List.map (AV.int .i64) []) false)], 2⟩, Wk.ofk [1, 2] hk (by rfl) (by simp -implicitDefEqProofs [h_1, h_2]) (by simp -implicitDefEqProofs [h_1, h_2]), ?_⟩
    try simp -implicitDefEqProofs +decide (maxSteps := 2000000) [-selQ_sel, hokQ_of, h_1, h_2]
theorem impl_SurfaceOk_ok0 (hm : Try.prog.follows .mixedOrders = true) (k_impl_isSide : Sound Try.prog 102 impl_isSide_x) (k_impl_LaidOk : Sound Try.prog 112 impl_LaidOk_x) : Sound Try.prog 34 impl_SurfaceOk_x := by
  refine xOf_sound fun q r h => ?_
  revert h; revert r; revert q; intro a0 r h
  refine fn_ok E0 hm Try.func34 rfl (by decide +kernel) (by rfl) fun Γ hn hk => ?_
  dsimp only [impl_SurfaceOk_e, impl_SurfaceOk_v]
  replace hn : Γ.n = 37 := hn
  replace hk : Γ.k = 0 := hk
  have H : HS (impl_SurfaceOk a0) r := h
  clear h; unfold impl_SurfaceOk at H
  try simp -implicitDefEqProofs at H
  refine Tr.of_vc (cl := tabC [(102, impl_isSide_x), (112, impl_LaidOk_x)]) (E := E0) [] (tab_cons k_impl_isSide (tab_cons k_impl_LaidOk tab_nil)) hm (by rw [hn]; decide +kernel) ?_
  try simp -implicitDefEqProofs (maxSteps := 2000000) [-selQ_sel]
  obtain ⟨v1, h_1, H⟩ := HS.bnd H
  try simp -implicitDefEqProofs (maxSteps := 2000000) [-selQ_sel, h_1]
  refine Hid.selQ (fun h_2 => ?_) (fun h_2 => ?_)
  · replace H := HS.cnd_t h_2 H
    try simp -implicitDefEqProofs (maxSteps := 2000000) [-selQ_sel, h_1, h_2]
    obtain ⟨v2, h_3, H⟩ := HS.bnd H
    try simp -implicitDefEqProofs (maxSteps := 2000000) [-selQ_sel, h_1, h_2, h_3]
    refine Hid.selQ (fun h_4 => ?_) (fun h_4 => ?_)
    · replace H := HS.cnd_t h_4 H
      try simp -implicitDefEqProofs (maxSteps := 2000000) [-selQ_sel, h_1, h_2, h_3, h_4]
      refine Hid.brV (fun h_5 => ?_) (fun h_5 => ?_)
      · replace H := HS.cnd_t h_5 H
        try simp -implicitDefEqProofs (maxSteps := 2000000) [-selQ_sel, h_1, h_2, h_3, h_4, h_5]
        obtain ⟨q, h_6, H⟩ := HS.bnd H
        refine Hid.mk (Tr.weak (s' := (impl_SurfaceOk_l0_S a0) 0) (Wk.ofk [] hk (by rfl) (by simp -implicitDefEqProofs [impl_SurfaceOk_l0_S, h_1, h_2, h_3, h_4, h_5]) (by simp -implicitDefEqProofs [impl_SurfaceOk_l0_S, h_1, h_2, h_3, h_4, h_5])) ?_)
        refine wp_loop_of (S := (impl_SurfaceOk_l0_S a0)) (f := (impl_SurfaceOk_l0 a0)) (xt := (impl_SurfaceOk_l0_X a0)) ?_ ?_ h_6 ?_
        · intro q; rcases q with ⟨⟩ | ⟨⟩ <;> simp [impl_SurfaceOk_l0_X]
        · clear H h_6 q
          rintro x5 o R hf hR
          have H : HS (impl_SurfaceOk_l0 a0 x5) o := hf
          clear hf; unfold impl_SurfaceOk_l0 at H
          try simp -implicitDefEqProofs at H
          refine Tr.of_vc (cl := tabC [(102, impl_isSide_x), (112, impl_LaidOk_x)]) (E := E0) [] (tab_cons k_impl_isSide (tab_cons k_impl_LaidOk tab_nil)) hm (by rw [hn]; decide +kernel) ?_
          try simp -implicitDefEqProofs (maxSteps := 2000000) [-selQ_sel, impl_SurfaceOk_l0_S]
          refine Hid.brV (fun h_7 => ?_) (fun h_7 => ?_)
          · replace H := HS.cnd_t h_7 H
            try simp -implicitDefEqProofs (maxSteps := 2000000) [-selQ_sel, h_7]
            have hr := (HS.some H).symm; subst hr
            exact Hid.mk ⟨(impl_SurfaceOk_l0_X a0 (.inl ())).2, Wk.ofk [] hk (by rfl) (by simp -implicitDefEqProofs [impl_SurfaceOk_l0_X, h_7]) (by simp -implicitDefEqProofs [impl_SurfaceOk_l0_X, h_7]), hR⟩
          · replace H := HS.cnd_f h_7 H
            try simp -implicitDefEqProofs (maxSteps := 2000000) [-selQ_sel, h_7]
            obtain ⟨v6, h_8, H⟩ := HS.bnd H
            try simp -implicitDefEqProofs (maxSteps := 2000000) [-selQ_sel, h_7, h_8]
            obtain ⟨v7, h_9, H⟩ := HS.bnd H
            try simp -implicitDefEqProofs (maxSteps := 2000000) [-selQ_sel, h_7, h_8, h_9]
            refine Hid.brV (fun h_10 => ?_) (fun h_10 => ?_)
            · replace H := HS.cnd_t h_10 H
              try simp -implicitDefEqProofs (maxSteps := 2000000) [-selQ_sel, h_7, h_8, h_9, h_10]
              have hr := (HS.some H).symm; subst hr
              exact Hid.mk ⟨impl_SurfaceOk_l0_S a0 (IntKind.i64.wrap (x5 + 1)), Wk.ofk [] hk (by rfl) (by simp -implicitDefEqProofs [impl_SurfaceOk_l0_S, h_7, h_8, h_9, h_10]) (by simp -implicitDefEqProofs [impl_SurfaceOk_l0_S, h_7, h_8, h_9, h_10]), hR⟩
            · replace H := HS.cnd_f h_10 H
              try simp -implicitDefEqProofs (maxSteps := 2000000) [-selQ_sel, h_7, h_8, h_9, h_10]
              have hr := (HS.some H).symm; subst hr
              exact Hid.mk ⟨(impl_SurfaceOk_l0_X a0 (.inr ())).2, Wk.ofk [] hk (by rfl) (by simp -implicitDefEqProofs [impl_SurfaceOk_l0_X, h_7, h_8, h_9, h_10]) (by simp -implicitDefEqProofs [impl_SurfaceOk_l0_X, h_7, h_8, h_9, h_10]), hR⟩
        · rcases q with ⟨⟩ | ⟨⟩
          · dsimp only at H
            try simp -implicitDefEqProofs (maxSteps := 2000000) [-selQ_sel, h_1, h_2, h_3, h_4, h_5, impl_SurfaceOk_l0_X]
            have hr := (HS.some H).symm; subst hr
            refine Hid.mk ⟨_, Wk.refl _, ?_⟩
            try simp -implicitDefEqProofs (maxSteps := 2000000) [-selQ_sel, h_1, h_2, h_3, h_4, h_5]
          · dsimp only at H
            try simp -implicitDefEqProofs (maxSteps := 2000000) [-selQ_sel, h_1, h_2, h_3, h_4, h_5, impl_SurfaceOk_l0_X]
            have hr := (HS.some H).symm; subst hr
            refine Hid.mk ⟨_, Wk.refl _, ?_⟩
            try simp -implicitDefEqProofs (maxSteps := 2000000) [-selQ_sel, h_1, h_2, h_3, h_4, h_5]
      · replace H := HS.cnd_f h_5 H
        try simp -implicitDefEqProofs (maxSteps := 2000000) [-selQ_sel, h_1, h_2, h_3, h_4, h_5]
        have hr := (HS.some H).symm; subst hr
        refine Hid.mk ⟨_, Wk.refl _, ?_⟩
        try simp -implicitDefEqProofs (maxSteps := 2000000) [-selQ_sel, h_1, h_2, h_3, h_4, h_5]
    · replace H := HS.cnd_f h_4 H
      try simp -implicitDefEqProofs (maxSteps := 2000000) [-selQ_sel, h_1, h_2, h_3, h_4]
      have hr := (HS.some H).symm; subst hr
      refine Hid.mk ⟨_, Wk.refl _, ?_⟩
      try simp -implicitDefEqProofs (maxSteps := 2000000) [-selQ_sel, h_1, h_2, h_3, h_4]
  · replace H := HS.cnd_f h_2 H
    try simp -implicitDefEqProofs (maxSteps := 2000000) [-selQ_sel, h_1, h_2]
    have hr := (HS.some H).symm; subst hr
    refine Hid.mk ⟨_, Wk.refl _, ?_⟩
    try simp -implicitDefEqProofs (maxSteps := 2000000) [-selQ_sel, h_1, h_2]
theorem spec_PaintOk_ok0 (hm : Try.prog.follows .mixedOrders = true) (k_spec_ColorOk : Sound Try.prog 193 spec_ColorOk_x) (k_spec_PointOk : Sound Try.prog 196 spec_PointOk_x) : Sound Try.prog 125 spec_PaintOk_x := by
  refine xOf_sound fun q r h => ?_
  revert h; revert r; revert q; intro a0 r h
  refine fn_ok E0 hm Try.func125 rfl (by decide +kernel) (by rfl) fun Γ hn hk => ?_
  dsimp only [spec_PaintOk_e, spec_PaintOk_v]
  replace hn : Γ.n = 55 := hn
  replace hk : Γ.k = 0 := hk
  have H : HS (spec_PaintOk a0) r := h
  clear h; unfold spec_PaintOk at H
  try simp -implicitDefEqProofs at H
  refine Tr.of_vc (cl := tabC [(193, spec_ColorOk_x), (196, spec_PointOk_x)]) (E := E0) [] (tab_cons k_spec_ColorOk (tab_cons k_spec_PointOk tab_nil)) hm (by rw [hn]; decide +kernel) ?_
  try simp -implicitDefEqProofs (maxSteps := 2000000) [-selQ_sel]
  obtain ⟨v1, h_1, H⟩ := HS.bnd H
  try simp -implicitDefEqProofs (maxSteps := 2000000) [-selQ_sel, h_1]
  refine Hid.brV (fun h_2 => ?_) (fun h_2 => ?_)
  · replace H := HS.cnd_t h_2 H
    try simp -implicitDefEqProofs (maxSteps := 2000000) [-selQ_sel, h_1, h_2]
    refine Hid.brV (fun h_3 => ?_) (fun h_3 => ?_)
    · replace H := HS.cnd_t h_3 H
      try simp -implicitDefEqProofs (maxSteps := 2000000) [-selQ_sel, h_1, h_2, h_3]
      refine Hid.selQ (fun h_4 => ?_) (fun h_4 => ?_)
      · replace H := HS.cnd_t h_4 H
        try simp -implicitDefEqProofs (maxSteps := 2000000) [-selQ_sel, h_1, h_2, h_3, h_4]
        refine Hid.selQ (fun h_5 => ?_) (fun h_5 => ?_)
        · replace H := HS.cnd_t h_5 H
          try simp -implicitDefEqProofs (maxSteps := 2000000) [-selQ_sel, h_1, h_2, h_3, h_4, h_5]
          have hr := (HS.some H).symm; subst hr
          refine Hid.mk ⟨_, Wk.refl _, ?_⟩
          try simp -implicitDefEqProofs (maxSteps := 2000000) [-selQ_sel, h_1, h_2, h_3, h_4, h_5]
        · replace H := HS.cnd_f h_5 H
          try simp -implicitDefEqProofs (maxSteps := 2000000) [-selQ_sel, h_1, h_2, h_3, h_4, h_5]
          have hr := (HS.some H).symm; subst hr
          refine Hid.mk ⟨_, Wk.refl _, ?_⟩
          try simp -implicitDefEqProofs (maxSteps := 2000000) [-selQ_sel, h_1, h_2, h_3, h_4, h_5]
      · replace H := HS.cnd_f h_4 H
        try simp -implicitDefEqProofs (maxSteps := 2000000) [-selQ_sel, h_1, h_2, h_3, h_4]
        have hr := (HS.some H).symm; subst hr
        refine Hid.mk ⟨_, Wk.refl _, ?_⟩
        try simp -implicitDefEqProofs (maxSteps := 2000000) [-selQ_sel, h_1, h_2, h_3, h_4]
    · replace H := HS.cnd_f h_3 H
      try simp -implicitDefEqProofs (maxSteps := 2000000) [-selQ_sel, h_1, h_2, h_3]
      refine Hid.selQ (fun h_6 => ?_) (fun h_6 => ?_)
      · replace H := HS.cnd_t h_6 H
        try simp -implicitDefEqProofs (maxSteps := 2000000) [-selQ_sel, h_1, h_2, h_3, h_6]
        obtain ⟨v2, h_7, H⟩ := HS.bnd H
        try simp -implicitDefEqProofs (maxSteps := 2000000) [-selQ_sel, h_1, h_2, h_3, h_6, h_7]
        refine Hid.selQ (fun h_8 => ?_) (fun h_8 => ?_)
        · replace H := HS.cnd_t h_8 H
          try simp -implicitDefEqProofs (maxSteps := 2000000) [-selQ_sel, h_1, h_2, h_3, h_6, h_7, h_8]
          obtain ⟨v3, h_9, H⟩ := HS.bnd H
          try simp -implicitDefEqProofs (maxSteps := 2000000) [-selQ_sel, h_1, h_2, h_3, h_6, h_7, h_8, h_9]
          refine Hid.selQ (fun h_10 => ?_) (fun h_10 => ?_)
          · replace H := HS.cnd_t h_10 H
            try simp -implicitDefEqProofs (maxSteps := 2000000) [-selQ_sel, h_1, h_2, h_3, h_6, h_7, h_8, h_9, h_10]
            obtain ⟨v4, h_11, H⟩ := HS.bnd H
            try simp -implicitDefEqProofs (maxSteps := 2000000) [-selQ_sel, h_1, h_2, h_3, h_6, h_7, h_8, h_9, h_10, h_11]
            refine Hid.selQ (fun h_12 => ?_) (fun h_12 => ?_)
            · replace H := HS.cnd_t h_12 H
              try simp -implicitDefEqProofs (maxSteps := 2000000) [-selQ_sel, h_1, h_2, h_3, h_6, h_7, h_8, h_9, h_10, h_11, h_12]
              have hr := (HS.some H).symm; subst hr
              refine Hid.mk ⟨_, Wk.refl _, ?_⟩
              try simp -implicitDefEqProofs (maxSteps := 2000000) [-selQ_sel, h_1, h_2, h_3, h_6, h_7, h_8, h_9, h_10, h_11, h_12]
            · replace H := HS.cnd_f h_12 H
              try simp -implicitDefEqProofs (maxSteps := 2000000) [-selQ_sel, h_1, h_2, h_3, h_6, h_7, h_8, h_9, h_10, h_11, h_12]
              have hr := (HS.some H).symm; subst hr
              refine Hid.mk ⟨_, Wk.refl _, ?_⟩
              try simp -implicitDefEqProofs (maxSteps := 2000000) [-selQ_sel, h_1, h_2, h_3, h_6, h_7, h_8, h_9, h_10, h_11, h_12]
          · replace H := HS.cnd_f h_10 H
            try simp -implicitDefEqProofs (maxSteps := 2000000) [-selQ_sel, h_1, h_2, h_3, h_6, h_7, h_8, h_9, h_10]
            have hr := (HS.some H).symm; subst hr
            refine Hid.mk ⟨_, Wk.refl _, ?_⟩
            try simp -implicitDefEqProofs (maxSteps := 2000000) [-selQ_sel, h_1, h_2, h_3, h_6, h_7, h_8, h_9, h_10]
        · replace H := HS.cnd_f h_8 H
          try simp -implicitDefEqProofs (maxSteps := 2000000) [-selQ_sel, h_1, h_2, h_3, h_6, h_7, h_8]
          have hr := (HS.some H).symm; subst hr
          refine Hid.mk ⟨_, Wk.refl _, ?_⟩
          try simp -implicitDefEqProofs (maxSteps := 2000000) [-selQ_sel, h_1, h_2, h_3, h_6, h_7, h_8]
      · replace H := HS.cnd_f h_6 H
        try simp -implicitDefEqProofs (maxSteps := 2000000) [-selQ_sel, h_1, h_2, h_3, h_6]
        have hr := (HS.some H).symm; subst hr
        refine Hid.mk ⟨_, Wk.refl _, ?_⟩
        try simp -implicitDefEqProofs (maxSteps := 2000000) [-selQ_sel, h_1, h_2, h_3, h_6]
  · replace H := HS.cnd_f h_2 H
    try simp -implicitDefEqProofs (maxSteps := 2000000) [-selQ_sel, h_1, h_2]
    have hr := (HS.some H).symm; subst hr
    refine Hid.mk ⟨_, Wk.refl _, ?_⟩
    try simp -implicitDefEqProofs (maxSteps := 2000000) [-selQ_sel, h_1, h_2]
theorem spec_MaskOk_ok0 (hm : Try.prog.follows .mixedOrders = true) (k_spec_l11Box : Sound Try.prog 148 spec_l11Box_x) (k_spec_l01In : Sound Try.prog 73 spec_l01In_x) : Sound Try.prog 74 spec_MaskOk_x := by
  refine xOf_sound fun q r h => ?_
  revert h; revert r; revert q; intro a0 r h
  refine fn_ok E0 hm Try.func74 rfl (by decide +kernel) (by rfl) fun Γ hn hk => ?_
  dsimp only [spec_MaskOk_e, spec_MaskOk_v]
  replace hn : Γ.n = 51 := hn
  replace hk : Γ.k = 0 := hk
  have H : HS (spec_MaskOk a0) r := h
  clear h; unfold spec_MaskOk at H
  try simp -implicitDefEqProofs at H
  refine Tr.of_vc (cl := tabC [(148, spec_l11Box_x), (73, spec_l01In_x)]) (E := E0) [] (tab_cons k_spec_l11Box (tab_cons k_spec_l01In tab_nil)) hm (by rw [hn]; decide +kernel) ?_
  try simp -implicitDefEqProofs (maxSteps := 2000000) [-selQ_sel]
  refine Hid.brV (fun h_1 => ?_) (fun h_1 => ?_)
  · replace H := HS.cnd_t h_1 H
    try simp -implicitDefEqProofs (maxSteps := 2000000) [-selQ_sel, h_1]
    have hr := (HS.some H).symm; subst hr
    refine Hid.mk ⟨_, Wk.refl _, ?_⟩
    try simp -implicitDefEqProofs (maxSteps := 2000000) [-selQ_sel, h_1]
  · replace H := HS.cnd_f h_1 H
    try simp -implicitDefEqProofs (maxSteps := 2000000) [-selQ_sel, h_1]
    obtain ⟨v1, h_2, H⟩ := HS.bnd H
    try simp -implicitDefEqProofs (maxSteps := 2000000) [-selQ_sel, h_1, h_2]
    refine Hid.selQ (fun h_3 => ?_) (fun h_3 => ?_)
    · replace H := HS.cnd_t h_3 H
      try simp -implicitDefEqProofs (maxSteps := 2000000) [-selQ_sel, h_1, h_2, h_3]
      refine Hid.brV (fun h_4 => ?_) (fun h_4 => ?_)
      · replace H := HS.cnd_t h_4 H
        try simp -implicitDefEqProofs (maxSteps := 2000000) [-selQ_sel, h_1, h_2, h_3, h_4]
        obtain ⟨q, h_5, H⟩ := HS.bnd H
        refine Hid.mk (Tr.weak (s' := (spec_MaskOk_l0_S a0) 0) (Wk.ofk [0] hk (by rfl) (by simp -implicitDefEqProofs [spec_MaskOk_l0_S, h_1, h_2, h_3, h_4]) (by simp -implicitDefEqProofs [spec_MaskOk_l0_S, h_1, h_2, h_3, h_4])) ?_)
        refine wp_loop_of (S := (spec_MaskOk_l0_S a0)) (f := (spec_MaskOk_l0 a0)) (xt := (spec_MaskOk_l0_X a0)) ?_ ?_ h_5 ?_
        · intro q; rcases q with ⟨⟩ | ⟨⟩ <;> simp [spec_MaskOk_l0_X]
        · clear H h_5 q
          rintro x4 o R hf hR
          have H : HS (spec_MaskOk_l0 a0 x4) o := hf
          clear hf; unfold spec_MaskOk_l0 at H
          try simp -implicitDefEqProofs at H
          refine Tr.of_vc (cl := tabC [(148, spec_l11Box_x), (73, spec_l01In_x)]) (E := E0) [] (tab_cons k_spec_l11Box (tab_cons k_spec_l01In tab_nil)) hm (by rw [hn]; decide +kernel) ?_
          try simp -implicitDefEqProofs (maxSteps := 2000000) [-selQ_sel, spec_MaskOk_l0_S]
          refine Hid.brV (fun h_6 => ?_) (fun h_6 => ?_)
          · replace H := HS.cnd_t h_6 H
            try simp -implicitDefEqProofs (maxSteps := 2000000) [-selQ_sel, h_6]
            have hr := (HS.some H).symm; subst hr
            exact Hid.mk ⟨(spec_MaskOk_l0_X a0 (.inl ())).2, Wk.ofk [] hk (by rfl) (by simp -implicitDefEqProofs [spec_MaskOk_l0_X, h_6]) (by simp -implicitDefEqProofs [spec_MaskOk_l0_X, h_6]), hR⟩
          · replace H := HS.cnd_f h_6 H
            try simp -implicitDefEqProofs (maxSteps := 2000000) [-selQ_sel, h_6]
            obtain ⟨v5, h_7, H⟩ := HS.bnd H
            try simp -implicitDefEqProofs (maxSteps := 2000000) [-selQ_sel, h_6, h_7]
            obtain ⟨v6, h_8, H⟩ := HS.bnd H
            try simp -implicitDefEqProofs (maxSteps := 2000000) [-selQ_sel, h_6, h_7, h_8]
            refine Hid.brV (fun h_9 => ?_) (fun h_9 => ?_)
            · replace H := HS.cnd_t h_9 H
              try simp -implicitDefEqProofs (maxSteps := 2000000) [-selQ_sel, h_6, h_7, h_8, h_9]
              have hr := (HS.some H).symm; subst hr
              exact Hid.mk ⟨spec_MaskOk_l0_S a0 (IntKind.i64.wrap (x4 + 1)), Wk.ofk [0] hk (by rfl) (by simp -implicitDefEqProofs [spec_MaskOk_l0_S, h_6, h_7, h_8, h_9]) (by simp -implicitDefEqProofs [spec_MaskOk_l0_S, h_6, h_7, h_8, h_9]), hR⟩
            · replace H := HS.cnd_f h_9 H
              try simp -implicitDefEqProofs (maxSteps := 2000000) [-selQ_sel, h_6, h_7, h_8, h_9]
              have hr := (HS.some H).symm; subst hr
              exact Hid.mk ⟨(spec_MaskOk_l0_X a0 (.inr ())).2, Wk.ofk [] hk (by rfl) (by simp -implicitDefEqProofs [spec_MaskOk_l0_X, h_6, h_7, h_8, h_9]) (by simp -implicitDefEqProofs [spec_MaskOk_l0_X, h_6, h_7, h_8, h_9]), hR⟩
        · rcases q with ⟨⟩ | ⟨⟩
          · dsimp only at H
            try simp -implicitDefEqProofs (maxSteps := 2000000) [-selQ_sel, h_1, h_2, h_3, h_4, spec_MaskOk_l0_X]
            have hr := (HS.some H).symm; subst hr
            refine Hid.mk ⟨_, Wk.refl _, ?_⟩
            try simp -implicitDefEqProofs (maxSteps := 2000000) [-selQ_sel, h_1, h_2, h_3, h_4]
          · dsimp only at H
            try simp -implicitDefEqProofs (maxSteps := 2000000) [-selQ_sel, h_1, h_2, h_3, h_4, spec_MaskOk_l0_X]
            have hr := (HS.some H).symm; subst hr
            refine Hid.mk ⟨_, Wk.refl _, ?_⟩
            try simp -implicitDefEqProofs (maxSteps := 2000000) [-selQ_sel, h_1, h_2, h_3, h_4]
      · replace H := HS.cnd_f h_4 H
        try simp -implicitDefEqProofs (maxSteps := 2000000) [-selQ_sel, h_1, h_2, h_3, h_4]
        have hr := (HS.some H).symm; subst hr
        refine Hid.mk ⟨_, Wk.refl _, ?_⟩
        try simp -implicitDefEqProofs (maxSteps := 2000000) [-selQ_sel, h_1, h_2, h_3, h_4]
    · replace H := HS.cnd_f h_3 H
      try simp -implicitDefEqProofs (maxSteps := 2000000) [-selQ_sel, h_1, h_2, h_3]
      have hr := (HS.some H).symm; subst hr
      refine Hid.mk ⟨_, Wk.refl _, ?_⟩
      try simp -implicitDefEqProofs (maxSteps := 2000000) [-selQ_sel, h_1, h_2, h_3]
theorem slices_Equal_Color_ok0 (hm : Try.prog.follows .mixedOrders = true) : Sound Try.prog 111 slices_Equal_Color_x := by
  refine xOf_sound fun q r h => ?_
  obtain ⟨a0, a1⟩ := q
  refine fn_ok E0 hm Try.func111 rfl (by decide +kernel) (by rfl) fun Γ hn hk => ?_
  dsimp only [slices_Equal_Color_e, slices_Equal_Color_v]
  replace hn : Γ.n = 26 := hn
  replace hk : Γ.k = 0 := hk
  have H : HS (slices_Equal_Color a0 a1) r := h
  clear h; unfold slices_Equal_Color at H
  try simp -implicitDefEqProofs at H
  refine Tr.of_vc (cl := tabC []) (E := E0) [] tab_nil hm (by rw [hn]; decide +kernel) ?_
  try simp -implicitDefEqProofs +decide (maxSteps := 2000000) [-selQ_sel, hokQ_of]
  refine Hid.brV (fun h_1 => ?_) (fun h_1 => ?_)
  · replace H := HS.cnd_t h_1 H
    try simp -implicitDefEqProofs +decide (maxSteps := 2000000) [-selQ_sel, hokQ_of, h_1]
    obtain ⟨q, h_2, H⟩ := HS.bnd H
    refine Hid.mk (Tr.weak (s' := (slices_Equal_Color_l0_S a0 a1) 0) (Wk.ofk [] hk (by rfl) (by simp -implicitDefEqProofs [slices_Equal_Color_l0_S, h_1]) (by simp -implicitDefEqProofs [slices_Equal_Color_l0_S, h_1])) ?_)
    refine wp_loop_of (S := (slices_Equal_Color_l0_S a0 a1)) (f := (slices_Equal_Color_l0 a0 a1)) (xt := (slices_Equal_Color_l0_X a0 a1)) ?_ ?_ h_2 ?_
    · intro q; rcases q with ⟨⟩ | ⟨⟩ <;> simp [slices_Equal_Color_l0_X]
    · clear H h_2 q
      rintro x3 o R hf hR
      have H : HS (slices_Equal_Color_l0 a0 a1 x3) o := hf
      clear hf; unfold slices_Equal_Color_l0 at H
      try simp -implicitDefEqProofs at H
      refine Tr.of_vc (cl := tabC []) (E := E0) [] tab_nil hm (by rw [hn]; decide +kernel) ?_
      try simp -implicitDefEqProofs +decide (maxSteps := 2000000) [-selQ_sel, hokQ_of, slices_Equal_Color_l0_S]
      refine Hid.brV (fun h_3 => ?_) (fun h_3 => ?_)
      · replace H := HS.cnd_t h_3 H
        try simp -implicitDefEqProofs +decide (maxSteps := 2000000) [-selQ_sel, hokQ_of, h_3]
        have hr := (HS.some H).symm; subst hr
        exact Hid.mk ⟨(slices_Equal_Color_l0_X a0 a1 (.inl ())).2, Wk.ofk [] hk (by rfl) (by simp -implicitDefEqProofs [slices_Equal_Color_l0_X, h_3]) (by simp -implicitDefEqProofs [slices_Equal_Color_l0_X, h_3]), hR⟩
      · replace H := HS.cnd_f h_3 H
        try simp -implicitDefEqProofs +decide (maxSteps := 2000000) [-selQ_sel, hokQ_of, h_3]
        obtain ⟨v4, h_4, H⟩ := HS.bnd H
        try simp -implicitDefEqProofs +decide (maxSteps := 2000000) [-selQ_sel, hokQ_of, h_3, h_4]
        obtain ⟨v5, h_5, H⟩ := HS.bnd H
        try simp -implicitDefEqProofs +decide (maxSteps := 2000000) [-selQ_sel, hokQ_of, h_3, h_4, h_5]
        refine Hid.brV (fun h_6 => ?_) (fun h_6 => ?_)
        · replace H := HS.cnd_t h_6 H
          try simp -implicitDefEqProofs +decide (maxSteps := 2000000) [-selQ_sel, hokQ_of, h_3, h_4, h_5, h_6]
          have hr := (HS.some H).symm; subst hr
          exact Hid.mk ⟨slices_Equal_Color_l0_S a0 a1 (IntKind.i64.wrap (x3 + 1)), Wk.ofk [] hk (by rfl) (by simp -implicitDefEqProofs [slices_Equal_Color_l0_S, h_3, h_4, h_5, h_6]) (by simp -implicitDefEqProofs [slices_Equal_Color_l0_S, h_3, h_4, h_5, h_6]), hR⟩
        · replace H := HS.cnd_f h_6 H
          try simp -implicitDefEqProofs +decide (maxSteps := 2000000) [-selQ_sel, hokQ_of, h_3, h_4, h_5, h_6]
          have hr := (HS.some H).symm; subst hr
          exact Hid.mk ⟨(slices_Equal_Color_l0_X a0 a1 (.inr ())).2, Wk.ofk [] hk (by rfl) (by simp -implicitDefEqProofs [slices_Equal_Color_l0_X, h_3, h_4, h_5, h_6]) (by simp -implicitDefEqProofs [slices_Equal_Color_l0_X, h_3, h_4, h_5, h_6]), hR⟩
    · rcases q with ⟨⟩ | ⟨⟩
      · dsimp only at H
        try simp -implicitDefEqProofs +decide (maxSteps := 2000000) [-selQ_sel, hokQ_of, h_1, slices_Equal_Color_l0_X]
        have hr := (HS.some H).symm; subst hr
        refine Hid.mk ⟨_, Wk.refl _, ?_⟩
        try simp -implicitDefEqProofs +decide (maxSteps := 2000000) [-selQ_sel, hokQ_of, h_1]
      · dsimp only at H
        try simp -implicitDefEqProofs +decide (maxSteps := 2000000) [-selQ_sel, hokQ_of, h_1, slices_Equal_Color_l0_X]
        have hr := (HS.some H).symm; subst hr
        refine Hid.mk ⟨_, Wk.refl _, ?_⟩
        try simp -implicitDefEqProofs +decide (maxSteps := 2000000) [-selQ_sel, hokQ_of, h_1]
  · replace H := HS.cnd_f h_1 H
    try simp -implicitDefEqProofs +decide (maxSteps := 2000000) [-selQ_sel, hokQ_of, h_1]
    have hr := (HS.some H).symm; subst hr
    refine Hid.mk ⟨_, Wk.refl _, ?_⟩
    try simp -implicitDefEqProofs +decide (maxSteps := 2000000) [-selQ_sel, hokQ_of, h_1]
theorem spec_CubicAt_ok0 (hm : Try.prog.follows .mixedOrders = true) (k_spec_PointOk : Sound Try.prog 196 spec_PointOk_x) (k_spec_Clamp : Sound Try.prog 194 spec_Clamp_x) (k_spec_RoundDiv : Sound Try.prog 124 spec_RoundDiv_x) : Sound Try.prog 223 spec_CubicAt_x := by
  refine xOf_sound fun q r h => ?_
  obtain ⟨a0, a1, a2, a3, a4⟩ := q
  refine fn_ok E0 hm Try.func223 rfl (by decide +kernel) (by rfl) fun Γ hn hk => ?_
  dsimp only [spec_CubicAt_e, spec_CubicAt_v]
  replace hn : Γ.n = 116 := hn
  replace hk : Γ.k = 0 := hk
  have H : HS (spec_CubicAt a0 a1 a2 a3 a4) r := h
  clear h; unfold spec_CubicAt at H
  try simp -implicitDefEqProofs at H
  refine Tr.of_vc (cl := tabC [(196, spec_PointOk_x), (194, spec_Clamp_x), (124, spec_RoundDiv_x)]) (E := E0) [] (tab_cons k_spec_PointOk (tab_cons k_spec_Clamp (tab_cons k_spec_RoundDiv tab_nil))) hm (by rw [hn]; decide +kernel) ?_
  try simp -implicitDefEqProofs (maxSteps := 2000000) [-selQ_sel]
  obtain ⟨v1, h_1, H⟩ := HS.bnd H
  try simp -implicitDefEqProofs (maxSteps := 2000000) [-selQ_sel, h_1]
  refine Hid.selQ (fun h_2 => ?_) (fun h_2 => ?_)
  · replace H := HS.cnd_t h_2 H
    try simp -implicitDefEqProofs (maxSteps := 2000000) [-selQ_sel, h_1, h_2]
    obtain ⟨v2, h_3, H⟩ := HS.bnd H
    try simp -implicitDefEqProofs (maxSteps := 2000000) [-selQ_sel, h_1, h_2, h_3]
    refine Hid.selQ (fun h_4 => ?_) (fun h_4 => ?_)
    · replace H := HS.cnd_t h_4 H
      try simp -implicitDefEqProofs (maxSteps := 2000000) [-selQ_sel, h_1, h_2, h_3, h_4]
      obtain ⟨v3, h_5, H⟩ := HS.bnd H
      try simp -implicitDefEqProofs (maxSteps := 2000000) [-selQ_sel, h_1, h_2, h_3, h_4, h_5]
      refine Hid.selQ (fun h_6 => ?_) (fun h_6 => ?_)
      · replace H := HS.cnd_t h_6 H
        try simp -implicitDefEqProofs (maxSteps := 2000000) [-selQ_sel, h_1, h_2, h_3, h_4, h_5, h_6]
        obtain ⟨v4, h_7, H⟩ := HS.bnd H
        try simp -implicitDefEqProofs (maxSteps := 2000000) [-selQ_sel, h_1, h_2, h_3, h_4, h_5, h_6, h_7]
        refine Hid.brV (fun h_8 => ?_) (fun h_8 => ?_)
        · replace H := HS.cnd_t h_8 H
          try simp -implicitDefEqProofs (maxSteps := 2000000) [-selQ_sel, h_1, h_2, h_3, h_4, h_5, h_6, h_7, h_8]
          obtain ⟨v5, h_9, H⟩ := HS.bnd H
          try simp -implicitDefEqProofs (maxSteps := 2000000) [-selQ_sel, h_1, h_2, h_3, h_4, h_5, h_6, h_7, h_8, h_9]
          obtain ⟨v6, h_10, H⟩ := HS.bnd H
          try simp -implicitDefEqProofs (maxSteps := 2000000) [-selQ_sel, h_1, h_2, h_3, h_4, h_5, h_6, h_7, h_8, h_9, h_10]
          obtain ⟨v7, h_11, H⟩ := HS.bnd H
          try simp -implicitDefEqProofs (maxSteps := 2000000) [-selQ_sel, h_1, h_2, h_3, h_4, h_5, h_6, h_7, h_8, h_9, h_10, h_11]
          have hr := (HS.some H).symm; subst hr
          refine Hid.mk ⟨_, Wk.refl _, ?_⟩
          try simp -implicitDefEqProofs (maxSteps := 2000000) [-selQ_sel, h_1, h_2, h_3, h_4, h_5, h_6, h_7, h_8, h_9, h_10, h_11]
        · replace H := HS.cnd_f h_8 H
          try simp -implicitDefEqProofs (maxSteps := 2000000) [-selQ_sel, h_1, h_2, h_3, h_4, h_5, h_6, h_7, h_8]
          have hr := (HS.some H).symm; subst hr
          refine Hid.mk ⟨_, Wk.refl _, ?_⟩
          try simp -implicitDefEqProofs (maxSteps := 2000000) [-selQ_sel, h_1, h_2, h_3, h_4, h_5, h_6, h_7, h_8]
      · replace H := HS.cnd_f h_6 H
        try simp -implicitDefEqProofs (maxSteps := 2000000) [-selQ_sel, h_1, h_2, h_3, h_4, h_5, h_6]
        have hr := (HS.some H).symm; subst hr
        refine Hid.mk ⟨_, Wk.refl _, ?_⟩
        try simp -implicitDefEqProofs (maxSteps := 2000000) [-selQ_sel, h_1, h_2, h_3, h_4, h_5, h_6]
    · replace H := HS.cnd_f h_4 H
      try simp -implicitDefEqProofs (maxSteps := 2000000) [-selQ_sel, h_1, h_2, h_3, h_4]
      have hr := (HS.some H).symm; subst hr
      refine Hid.mk ⟨_, Wk.refl _, ?_⟩
      try simp -implicitDefEqProofs (maxSteps := 2000000) [-selQ_sel, h_1, h_2, h_3, h_4]
  · replace H := HS.cnd_f h_2 H
    try simp -implicitDefEqProofs (maxSteps := 2000000) [-selQ_sel, h_1, h_2]
    have hr := (HS.some H).symm; subst hr
    refine Hid.mk ⟨_, Wk.refl _, ?_⟩
    try simp -implicitDefEqProofs (maxSteps := 2000000) [-selQ_sel, h_1, h_2]
theorem spec_l01New_ok0 (hm : Try.prog.follows .mixedOrders = true) : Sound Try.prog 101 spec_l01New_x := by
  refine xOf_sound fun q r h => ?_
  revert h; revert r; revert q; intro a0 r h
  refine fn_ok E0 hm Try.func101 rfl (by decide +kernel) (by rfl) fun Γ hn hk => ?_
  dsimp only [spec_l01New_e, spec_l01New_v]
  replace hn : Γ.n = 32 := hn
  replace hk : Γ.k = 0 := hk
  have H : HS (spec_l01New a0) r := h
  clear h; unfold spec_l01New at H
  try simp -implicitDefEqProofs at H
  refine Tr.of_vc (cl := tabC []) (E := E0) [] tab_nil hm (by rw [hn]; decide +kernel) ?_
  try simp -implicitDefEqProofs (maxSteps := 2000000) [-selQ_sel]
  obtain ⟨q, h_1, H⟩ := HS.bnd H
  refine Hid.mk (Tr.weak (s' := (spec_l01New_l0_S a0) ((IntKind.i64.wrap (28001 + (List.length a0 : Int))), 0)) (Wk.ofk [] hk (by rfl) (by simp -implicitDefEqProofs [spec_l01New_l0_S]) (by simp -implicitDefEqProofs [spec_l01New_l0_S])) ?_)
  refine wp_loop_of (S := (spec_l01New_l0_S a0)) (f := (spec_l01New_l0 a0)) (xt := (spec_l01New_l0_X a0)) ?_ ?_ h_1 ?_
  · intro q; simp [spec_l01New_l0_X]
  · clear H h_1 q
    rintro ⟨x2, x3⟩ o R hf hR
    have H : HS (spec_l01New_l0 a0 (x2, x3)) o := hf
    clear hf; unfold spec_l01New_l0 at H
    try simp -implicitDefEqProofs at H
    refine Tr.of_vc (cl := tabC []) (E := E0) [] tab_nil hm (by rw [hn]; decide +kernel) ?_
    try simp -implicitDefEqProofs (maxSteps := 2000000) [-selQ_sel, spec_l01New_l0_S]
    refine Hid.selQ (fun h_2 => ?_) (fun h_2 => ?_)
    · replace H := HS.cnd_t h_2 H
      try simp -implicitDefEqProofs (maxSteps := 2000000) [-selQ_sel, h_2]
      have hr := (HS.some H).symm; subst hr
      exact Hid.mk ⟨(spec_l01New_l0_X a0 x2).2, Wk.ofk [] hk (by rfl) (by simp -implicitDefEqProofs [spec_l01New_l0_X, h_2]) (by simp -implicitDefEqProofs [spec_l01New_l0_X, h_2]), hR⟩
    · replace H := HS.cnd_f h_2 H
      try simp -implicitDefEqProofs (maxSteps := 2000000) [-selQ_sel, h_2]
      refine Hid.brV (fun h_3 => ?_) (fun h_3 => ?_)
      · replace H := HS.cnd_t h_3 H
        try simp -implicitDefEqProofs (maxSteps := 2000000) [-selQ_sel, h_2, h_3]
        have hr := (HS.some H).symm; subst hr
        exact Hid.mk ⟨(spec_l01New_l0_X a0 x2).2, Wk.ofk [] hk (by rfl) (by simp -implicitDefEqProofs [spec_l01New_l0_X, h_2, h_3]) (by simp -implicitDefEqProofs [spec_l01New_l0_X, h_2, h_3]), hR⟩
      · replace H := HS.cnd_f h_3 H
        try simp -implicitDefEqProofs (maxSteps := 2000000) [-selQ_sel, h_2, h_3]
        obtain ⟨v4, h_4, H⟩ := HS.bnd H
        try simp -implicitDefEqProofs (maxSteps := 2000000) [-selQ_sel, h_2, h_3, h_4]
        have hr := (HS.some H).symm; subst hr
        exact Hid.mk ⟨spec_l01New_l0_S a0 ((andI .i64 (IntKind.i64.wrap ((IntKind.i64.wrap ((IntKind.i64.wrap (x2 * 131)) + (IntKind.i64.wrap v4))) + 7)) 1073741823), (IntKind.i64.wrap (x3 + 1))), Wk.ofk [] hk (by rfl) (by simp -implicitDefEqProofs [spec_l01New_l0_S, h_2, h_3, h_4]) (by simp -implicitDefEqProofs [spec_l01New_l0_S, h_2, h_3, h_4]), hR⟩
  · revert H h_1; revert q; intro y5 h_1 H
    try dsimp only at H
    try simp -implicitDefEqProofs (maxSteps := 2000000) [-selQ_sel, spec_l01New_l0_X]
    have hr := (HS.some H).symm; subst hr
    refine Hid.mk ⟨⟨[(2, AV.optr 0 0 3)], [(0, Ob.box [AV.fsl (List.map (AV.int .u8) a0), AV.int .i64 0, AV.int .i64 y5])], 1⟩, Wk.ofk [0] hk (by rfl) (by simp -implicitDefEqProofs []) (by simp -implicitDefEqProofs []), ?_⟩
    try simp -implicitDefEqProofs (maxSteps := 2000000) [-selQ_sel]
theorem spec_ColorAt_ok0 (hm : Try.prog.follows .mixedOrders = true) (k_spec_PaintOk : Sound Try.prog 125 spec_PaintOk_x) (k_spec_Laid : Sound Try.prog 126 spec_Laid_x) (k_spec_PartOf : Sound Try.prog 127 spec_PartOf_x) (k_spec_l12Mix : Sound Try.prog 128 spec_l12Mix_x) : Sound Try.prog 45 spec_ColorAt_x := by
  refine xOf_sound fun q r h => ?_
  obtain ⟨a0, a1, a2⟩ := q
  refine fn_ok E0 hm Try.func45 rfl (by decide +kernel) (by rfl) fun Γ hn hk => ?_
  dsimp only [spec_ColorAt_e, spec_ColorAt_v]
  replace hn : Γ.n = 56 := hn
  replace hk : Γ.k = 0 := hk
  have H : HS (spec_ColorAt a0 a1 a2) r := h
  clear h; unfold spec_ColorAt at H
  try simp -implicitDefEqProofs at H
  refine Tr.of_vc (cl := tabC [(125, spec_PaintOk_x), (126, spec_Laid_x), (127, spec_PartOf_x), (128, spec_l12Mix_x)]) (E := E0) [] (tab_cons k_spec_PaintOk (tab_cons k_spec_Laid (tab_cons k_spec_PartOf (tab_cons k_spec_l12Mix tab_nil)))) hm (by rw [hn]; decide +kernel) ?_
  try simp -implicitDefEqProofs +decide (maxSteps := 2000000) [-selQ_sel, hokQ_of]
  obtain ⟨v1, h_1, H⟩ := HS.bnd H
  try simp -implicitDefEqProofs +decide (maxSteps := 2000000) [-selQ_sel, hokQ_of, h_1]
  refine Hid.brV (fun h_2 => ?_) (fun h_2 => ?_)
  · replace H := HS.cnd_t h_2 H
    try simp -implicitDefEqProofs +decide (maxSteps := 2000000) [-selQ_sel, hokQ_of, h_1, h_2]
    refine Hid.brV (fun h_3 => ?_) (fun h_3 => ?_)
    · replace H := HS.cnd_t h_3 H
      try simp -implicitDefEqProofs +decide (maxSteps := 2000000) [-selQ_sel, hokQ_of, h_1, h_2, h_3]
      obtain ⟨v2, h_4, H⟩ := HS.bnd H
      try simp -implicitDefEqProofs +decide (maxSteps := 2000000) [-selQ_sel, hokQ_of, h_1, h_2, h_3, h_4]
      have hr := (HS.some H).symm; subst hr
      refine Hid.mk ⟨_, Wk.refl _, ?_⟩
      try simp -implicitDefEqProofs +decide (maxSteps := 2000000) [-selQ_sel, hokQ_of, h_1, h_2, h_3, h_4]
    · replace H := HS.cnd_f h_3 H
      try simp -implicitDefEqProofs +decide (maxSteps := 2000000) [-selQ_sel, hokQ_of, h_1, h_2, h_3]
      obtain ⟨v3, h_5, H⟩ := HS.bnd H
      try simp -implicitDefEqProofs +decide (maxSteps := 2000000) [-selQ_sel, hokQ_of, h_1, h_2, h_3, h_5]
      obtain ⟨v4, h_6, H⟩ := HS.bnd H
      try simp -implicitDefEqProofs +decide (maxSteps := 2000000) [-selQ_sel, hokQ_of, h_1, h_2, h_3, h_5, h_6]
      obtain ⟨v5, h_7, H⟩ := HS.bnd H
      try simp -implicitDefEqProofs +decide (maxSteps := 2000000) [-selQ_sel, hokQ_of, h_1, h_2, h_3, h_5, h_6, h_7]
      obtain ⟨v6, h_8, H⟩ := HS.bnd H
      try simp -implicitDefEqProofs +decide (maxSteps := 2000000) [-selQ_sel, hokQ_of, h_1, h_2, h_3, h_5, h_6, h_7, h_8]
      obtain ⟨v7, h_9, H⟩ := HS.bnd H
      try simp -implicitDefEqProofs +decide (maxSteps := 2000000) [-selQ_sel, hokQ_of, h_1, h_2, h_3, h_5, h_6, h_7, h_8, h_9]
      obtain ⟨v8, h_10, H⟩ := HS.bnd H
      try simp -implicitDefEqProofs +decide (maxSteps := 2000000) [-selQ_sel, hokQ_of, h_1, h_2, h_3, h_5, h_6, h_7, h_8, h_9, h_10]
      have hr := (HS.some H).symm; subst hr
      refine Hid.mk ⟨_, Wk.refl _, ?_⟩
      try simp -implicitDefEqProofs +decide (maxSteps := 2000000) [-selQ_sel, hokQ_of, h_1, h_2, h_3, h_5, h_6, h_7, h_8, h_9, h_10]
  · replace H := HS.cnd_f h_2 H
    try simp -implicitDefEqProofs +decide (maxSteps := 2000000) [-selQ_sel, hokQ_of, h_1, h_2]
    have hr := (HS.some H).symm; subst hr
    refine Hid.mk ⟨_, Wk.refl _, ?_⟩
    try simp -implicitDefEqProofs +decide (maxSteps := 2000000) [-selQ_sel, hokQ_of, h_1, h_2]
theorem impl_PixelAt_ok0 (hm : Try.prog.follows .mixedOrders = true) (k_impl_inRange : Sound Try.prog 76 impl_inRange_x) (k_impl_SurfaceOk : Sound Try.prog 34 impl_SurfaceOk_x) : Sound Try.prog 41 impl_PixelAt_x := by
  refine xOf_sound fun q r h => ?_
  obtain ⟨a0, a1, a2⟩ := q
  refine fn_ok E0 hm Try.func41 rfl (by decide +kernel) (by rfl) fun Γ hn hk => ?_
  dsimp only [impl_PixelAt_e, impl_PixelAt_v]
  replace hn : Γ.n = 37 := hn
  replace hk : Γ.k = 0 := hk
  have H : HS (impl_PixelAt a0 a1 a2) r := h
  clear h; unfold impl_PixelAt at H
  try simp -implicitDefEqProofs at H
  refine Tr.of_vc (cl := tabC [(76, impl_inRange_x), (34, impl_SurfaceOk_x)]) (E := E0) [] (tab_cons k_impl_inRange (tab_cons k_impl_SurfaceOk tab_nil)) hm (by rw [hn]; decide +kernel) ?_
  try simp -implicitDefEqProofs (maxSteps := 2000000) [-selQ_sel]
  obtain ⟨v1, h_1, H⟩ := HS.bnd H
  try simp -implicitDefEqProofs (maxSteps := 2000000) [-selQ_sel, h_1]
  refine Hid.selQ (fun h_2 => ?_) (fun h_2 => ?_)
  · replace H := HS.cnd_t h_2 H
    try simp -implicitDefEqProofs (maxSteps := 2000000) [-selQ_sel, h_1, h_2]
    obtain ⟨v2, h_3, H⟩ := HS.bnd H
    try simp -implicitDefEqProofs (maxSteps := 2000000) [-selQ_sel, h_1, h_2, h_3]
    refine Hid.selQ (fun h_4 => ?_) (fun h_4 => ?_)
    · replace H := HS.cnd_t h_4 H
      try simp -implicitDefEqProofs (maxSteps := 2000000) [-selQ_sel, h_1, h_2, h_3, h_4]
      obtain ⟨v3, h_5, H⟩ := HS.bnd H
      try simp -implicitDefEqProofs (maxSteps := 2000000) [-selQ_sel, h_1, h_2, h_3, h_4, h_5]
      refine Hid.brV (fun h_6 => ?_) (fun h_6 => ?_)
      · replace H := HS.cnd_t h_6 H
        try simp -implicitDefEqProofs (maxSteps := 2000000) [-selQ_sel, h_1, h_2, h_3, h_4, h_5, h_6]
        obtain ⟨v4, h_7, H⟩ := HS.bnd H
        try simp -implicitDefEqProofs (maxSteps := 2000000) [-selQ_sel, h_1, h_2, h_3, h_4, h_5, h_6, h_7]
        have hr := (HS.some H).symm; subst hr
        refine Hid.mk ⟨_, Wk.refl _, ?_⟩
        try simp -implicitDefEqProofs (maxSteps := 2000000) [-selQ_sel, h_1, h_2, h_3, h_4, h_5, h_6, h_7]
      · replace H := HS.cnd_f h_6 H
        try simp -implicitDefEqProofs (maxSteps := 2000000) [-selQ_sel, h_1, h_2, h_3, h_4, h_5, h_6]
        have hr := (HS.some H).symm; subst hr
        refine Hid.mk ⟨_, Wk.refl _, ?_⟩
        try simp -implicitDefEqProofs (maxSteps := 2000000) [-selQ_sel, h_1, h_2, h_3, h_4, h_5, h_6]
    · replace H := HS.cnd_f h_4 H
      try simp -implicitDefEqProofs (maxSteps := 2000000) [-selQ_sel, h_1, h_2, h_3, h_4]
      have hr := (HS.some H).symm; subst hr
      refine Hid.mk ⟨_, Wk.refl _, ?_⟩
      try simp -implicitDefEqProofs (maxSteps := 2000000) [-selQ_sel, h_1, h_2, h_3, h_4]
  · replace H := HS.cnd_f h_2 H
    try simp -implicitDefEqProofs (maxSteps := 2000000) [-selQ_sel, h_1, h_2]
    have hr := (HS.some H).symm; subst hr
    refine Hid.mk ⟨_, Wk.refl _, ?_⟩
    try simp -implicitDefEqProofs (maxSteps := 2000000) [-selQ_sel, h_1, h_2]
theorem impl_ColorOk_ok0 (hm : Try.prog.follows .mixedOrders = true) (k_impl_isByte : Sound Try.prog 178 impl_isByte_x) : Sound Try.prog 180 impl_ColorOk_x := by
  refine xOf_sound fun q r h => ?_
  revert h; revert r; revert q; intro a0 r h
  refine fn_ok E0 hm Try.func180 rfl (by decide +kernel) (by rfl) fun Γ hn hk => ?_
  dsimp only [impl_ColorOk_e, impl_ColorOk_v]
  replace hn : Γ.n = 21 := hn
  replace hk : Γ.k = 0 := hk
  have H : HS (impl_ColorOk a0) r := h
  clear h; unfold impl_ColorOk at H
  try simp -implicitDefEqProofs at H
  refine Tr.of_vc (cl := tabC [(178, impl_isByte_x)]) (E := E0) [] (tab_cons k_impl_isByte tab_nil) hm (by rw [hn]; decide +kernel) ?_
  try simp -implicitDefEqProofs (maxSteps := 2000000) [-selQ_sel]
  obtain ⟨v1, h_1, H⟩ := HS.bnd H
  try simp -implicitDefEqProofs (maxSteps := 2000000) [-selQ_sel, h_1]
  refine Hid.selQ (fun h_2 => ?_) (fun h_2 => ?_)
  · replace H := HS.cnd_t h_2 H
    try simp -implicitDefEqProofs (maxSteps := 2000000) [-selQ_sel, h_1, h_2]
    obtain ⟨v2, h_3, H⟩ := HS.bnd H
    try simp -implicitDefEqProofs (maxSteps := 2000000) [-selQ_sel, h_1, h_2, h_3]
    refine Hid.selQ (fun h_4 => ?_) (fun h_4 => ?_)
    · replace H := HS.cnd_t h_4 H
      try simp -implicitDefEqProofs (maxSteps := 2000000) [-selQ_sel, h_1, h_2, h_3, h_4]
      obtain ⟨v3, h_5, H⟩ := HS.bnd H
      try simp -implicitDefEqProofs (maxSteps := 2000000) [-selQ_sel, h_1, h_2, h_3, h_4, h_5]
      refine Hid.selQ (fun h_6 => ?_) (fun h_6 => ?_)
      · replace H := HS.cnd_t h_6 H
        try simp -implicitDefEqProofs (maxSteps := 2000000) [-selQ_sel, h_1, h_2, h_3, h_4, h_5, h_6]
        obtain ⟨v4, h_7, H⟩ := HS.bnd H
        try simp -implicitDefEqProofs (maxSteps := 2000000) [-selQ_sel, h_1, h_2, h_3, h_4, h_5, h_6, h_7]
        have hr := (HS.some H).symm; subst hr
        refine Hid.mk ⟨_, Wk.refl _, ?_⟩
        try simp -implicitDefEqProofs (maxSteps := 2000000) [-selQ_sel, h_1, h_2, h_3, h_4, h_5, h_6, h_7]
      · replace H := HS.cnd_f h_6 H
        try simp -implicitDefEqProofs (maxSteps := 2000000) [-selQ_sel, h_1, h_2, h_3, h_4, h_5, h_6]
        have hr := (HS.some H).symm; subst hr
        refine Hid.mk ⟨_, Wk.refl _, ?_⟩
        try simp -implicitDefEqProofs (maxSteps := 2000000) [-selQ_sel, h_1, h_2, h_3, h_4, h_5, h_6]
    · replace H := HS.cnd_f h_4 H
      try simp -implicitDefEqProofs (maxSteps := 2000000) [-selQ_sel, h_1, h_2, h_3, h_4]
      have hr := (HS.some H).symm; subst hr
      refine Hid.mk ⟨_, Wk.refl _, ?_⟩
      try simp -implicitDefEqProofs (maxSteps := 2000000) [-selQ_sel, h_1, h_2, h_3, h_4]
  · replace H := HS.cnd_f h_2 H
    try simp -implicitDefEqProofs (maxSteps := 2000000) [-selQ_sel, h_1, h_2]
    have hr := (HS.some H).symm; subst hr
    refine Hid.mk ⟨_, Wk.refl _, ?_⟩
    try simp -implicitDefEqProofs (maxSteps := 2000000) [-selQ_sel, h_1, h_2]
theorem spec_l12Paint_ok0 (hm : Try.prog.follows .mixedOrders = true) (k_spec_l12Color : Sound Try.prog 185 spec_l12Color_x) (k_spec_l01Once : Sound Try.prog 184 spec_l01Once_x) (k_spec_l04Point : Sound Try.prog 186 spec_l04Point_x) : Sound Try.prog 115 spec_l12Paint_x := by
  refine xOf_sound fun q r h => ?_
  revert h; revert r; revert q; intro a0 r h
  refine fn_ok E0 hm Try.func115 rfl (by decide +kernel) (by rfl) fun Γ hn hk => ?_
  dsimp only [spec_l12Paint_e, spec_l12Paint_v]
  replace hn : Γ.n = 31 := hn
  replace hk : Γ.k = 1 := hk
  have H : HS (spec_l12Paint a0) r := h
  clear h; unfold spec_l12Paint at H
  try simp -implicitDefEqProofs at H
  refine Tr.of_vc (cl := tabC [(185, spec_l12Color_x), (184, spec_l01Once_x), (186, spec_l04Point_x)]) (E := E0) [] (tab_cons k_spec_l12Color (tab_cons k_spec_l01Once (tab_cons k_spec_l04Point tab_nil))) hm (by rw [hn]; decide +kernel) ?_
  try simp -implicitDefEqProofs (maxSteps := 2000000) [-selQ_sel]
  obtain ⟨⟨w2, w3⟩, h_1, H⟩ := HS.bnd H
  dsimp only at H
  try simp -implicitDefEqProofs (maxSteps := 2000000) [-selQ_sel, h_1]
  obtain ⟨⟨w5, w6⟩, h_2, H⟩ := HS.bnd H
  dsimp only at H
  try simp -implicitDefEqProofs (maxSteps := 2000000) [-selQ_sel, h_1, h_2]
  refine Hid.brV (fun h_3 => ?_) (fun h_3 => ?_)
  · replace H := HS.cnd_t h_3 H
    try simp -implicitDefEqProofs (maxSteps := 2000000) [-selQ_sel, h_1, h_2, h_3]
    obtain ⟨⟨w8, w9⟩, h_4, H⟩ := HS.bnd H
    dsimp only at H
    try simp -implicitDefEqProofs (maxSteps := 2000000) [-selQ_sel, h_1, h_2, h_3, h_4]
    obtain ⟨⟨w11, w12⟩, h_5, H⟩ := HS.bnd H
    dsimp only at H
    try simp -implicitDefEqProofs (maxSteps := 2000000) [-selQ_sel, h_1, h_2, h_3, h_4, h_5]
    obtain ⟨⟨w14, w15⟩, h_6, H⟩ := HS.bnd H
    dsimp only at H
    try simp -implicitDefEqProofs (maxSteps := 2000000) [-selQ_sel, h_1, h_2, h_3, h_4, h_5, h_6]
    refine Hid.brV (fun h_7 => ?_) (fun h_7 => ?_)
    · replace H := HS.cnd_t h_7 H
      try simp -implicitDefEqProofs (maxSteps := 2000000) [-selQ_sel, h_1, h_2, h_3, h_4, h_5, h_6, h_7]
      have hr := (HS.some H).symm; subst hr
      refine Hid.mk ⟨_, Wk.refl _, ?_⟩
      try simp -implicitDefEqProofs (maxSteps := 2000000) [-selQ_sel, h_1, h_2, h_3, h_4, h_5, h_6, h_7]
    · replace H := HS.cnd_f h_7 H
      try simp -implicitDefEqProofs (maxSteps := 2000000) [-selQ_sel, h_1, h_2, h_3, h_4, h_5, h_6, h_7]
      have hr := (HS.some H).symm; subst hr
      refine Hid.mk ⟨_, Wk.refl _, ?_⟩
      try simp -implicitDefEqProofs (maxSteps := 2000000) [-selQ_sel, h_1, h_2, h_3, h_4, h_5, h_6, h_7]
  · replace H := HS.cnd_f h_3 H
    try simp -implicitDefEqProofs (maxSteps := 2000000) [-selQ_sel, h_1, h_2, h_3]
    have hr := (HS.some H).symm; subst hr
    refine Hid.mk ⟨_, Wk.refl _, ?_⟩
    try simp -implicitDefEqProofs (maxSteps := 2000000) [-selQ_sel, h_1, h_2, h_3]
theorem impl_ColorAt_ok0 (hm : Try.prog.follows .mixedOrders = true) (k_impl_PaintOk : Sound Try.prog 116 impl_PaintOk_x) (k_impl_Laid : Sound Try.prog 228 impl_Laid_x) (k_impl_partOf : Sound Try.prog 229 impl_partOf_x) (k_impl_each_ColorAt_1 : Sound Try.prog 174 impl_each_ColorAt_1_x) : Sound Try.prog 190 impl_ColorAt_x := by
  refine xOf_sound fun q r h => ?_
  obtain ⟨a0, a1, a2⟩ := q
  refine fn_ok E0 hm Try.func190 rfl (by decide +kernel) (by rfl) fun Γ hn hk => ?_
  dsimp only [impl_ColorAt_e, impl_ColorAt_v]
  replace hn : Γ.n = 29 := hn
  replace hk : Γ.k = 0 := hk
  have H : HS (impl_ColorAt a0 a1 a2) r := h
  clear h; unfold impl_ColorAt at H
  try simp -implicitDefEqProofs at H
  refine Tr.of_vc (cl := tabC [(116, impl_PaintOk_x), (228, impl_Laid_x), (229, impl_partOf_x), (174, impl_each_ColorAt_1_x)]) (E := E0) [] (tab_cons k_impl_PaintOk (tab_cons k_impl_Laid (tab_cons k_impl_partOf (tab_cons k_impl_each_ColorAt_1 tab_nil)))) hm (by rw [hn]; decide +kernel) ?_
  try simp -implicitDefEqProofs (maxSteps := 2000000) [-selQ_sel]
  obtain ⟨v1, h_1, H⟩ := HS.bnd H
  try simp -implicitDefEqProofs (maxSteps := 2000000) [-selQ_sel, h_1]
  refine Hid.brV (fun h_2 => ?_) (fun h_2 => ?_)
  · replace H := HS.cnd_t h_2 H
    try simp -implicitDefEqProofs (maxSteps := 2000000) [-selQ_sel, h_1, h_2]
    refine Hid.brV (fun h_3 => ?_) (fun h_3 => ?_)
    · replace H := HS.cnd_t h_3 H
      try simp -implicitDefEqProofs (maxSteps := 2000000) [-selQ_sel, h_1, h_2, h_3]
      obtain ⟨v2, h_4, H⟩ := HS.bnd H
      try simp -implicitDefEqProofs (maxSteps := 2000000) [-selQ_sel, h_1, h_2, h_3, h_4]
      have hr := (HS.some H).symm; subst hr
      refine Hid.mk ⟨_, Wk.refl _, ?_⟩
      try simp -implicitDefEqProofs (maxSteps := 2000000) [-selQ_sel, h_1, h_2, h_3, h_4]
    · replace H := HS.cnd_f h_3 H
      try simp -implicitDefEqProofs (maxSteps := 2000000) [-selQ_sel, h_1, h_2, h_3]
      obtain ⟨v3, h_5, H⟩ := HS.bnd H
      try simp -implicitDefEqProofs (maxSteps := 2000000) [-selQ_sel, h_1, h_2, h_3, h_5]
      obtain ⟨v4, h_6, H⟩ := HS.bnd H
      try simp -implicitDefEqProofs (maxSteps := 2000000) [-selQ_sel, h_1, h_2, h_3, h_5, h_6]
      obtain ⟨v5, h_7, H⟩ := HS.bnd H
      try simp -implicitDefEqProofs (maxSteps := 2000000) [-selQ_sel, h_1, h_2, h_3, h_5, h_6, h_7]
      have hr := (HS.some H).symm; subst hr
      refine Hid.mk ⟨_, Wk.refl _, ?_⟩
      try simp -implicitDefEqProofs (maxSteps := 2000000) [-selQ_sel, h_1, h_2, h_3, h_5, h_6, h_7]
  · replace H := HS.cnd_f h_2 H
    try simp -implicitDefEqProofs (maxSteps := 2000000) [-selQ_sel, h_1, h_2]
    have hr := (HS.some H).symm; subst hr
    refine Hid.mk ⟨_, Wk.refl _, ?_⟩
    try simp -implicitDefEqProofs (maxSteps := 2000000) [-selQ_sel, h_1, h_2]
theorem impl_Thin_ok0 (hm : Try.prog.follows .mixedOrders = true) (k_impl_inRange : Sound Try.prog 76 impl_inRange_x) (k_impl_LaidOk : Sound Try.prog 112 impl_LaidOk_x) (k_impl_each_Thin_1 : Sound Try.prog 174 impl_each_Thin_1_x) : Sound Try.prog 189 impl_Thin_x := by
  refine xOf_sound fun q r h => ?_
  obtain ⟨a0, a1⟩ := q
  refine fn_ok E0 hm Try.func189 rfl (by decide +kernel) (by rfl) fun Γ hn hk => ?_
  dsimp only [impl_Thin_e, impl_Thin_v]
  replace hn : Γ.n = 18 := hn
  replace hk : Γ.k = 0 := hk
  have H : HS (impl_Thin a0 a1) r := h
  clear h; unfold impl_Thin at H
  try simp -implicitDefEqProofs at H
  refine Tr.of_vc (cl := tabC [(76, impl_inRange_x), (112, impl_LaidOk_x), (174, impl_each_Thin_1_x)]) (E := E0) [] (tab_cons k_impl_inRange (tab_cons k_impl_LaidOk (tab_cons k_impl_each_Thin_1 tab_nil))) hm (by rw [hn]; decide +kernel) ?_
  try simp -implicitDefEqProofs (maxSteps := 2000000) [-selQ_sel]
  obtain ⟨v1, h_1, H⟩ := HS.bnd H
  try simp -implicitDefEqProofs (maxSteps := 2000000) [-selQ_sel, h_1]
  refine Hid.selQ (fun h_2 => ?_) (fun h_2 => ?_)
  · replace H := HS.cnd_t h_2 H
    try simp -implicitDefEqProofs (maxSteps := 2000000) [-selQ_sel, h_1, h_2]
    obtain ⟨v2, h_3, H⟩ := HS.bnd H
    try simp -implicitDefEqProofs (maxSteps := 2000000) [-selQ_sel, h_1, h_2, h_3]
    refine Hid.brV (fun h_4 => ?_) (fun h_4 => ?_)
    · replace H := HS.cnd_t h_4 H
      try simp -implicitDefEqProofs (maxSteps := 2000000) [-selQ_sel, h_1, h_2, h_3, h_4]
      obtain ⟨v3, h_5, H⟩ := HS.bnd H
      try simp -implicitDefEqProofs (maxSteps := 2000000) [-selQ_sel, h_1, h_2, h_3, h_4, h_5]
      have hr := (HS.some H).symm; subst hr
      refine Hid.mk ⟨_, Wk.refl _, ?_⟩
      try simp -implicitDefEqProofs (maxSteps := 2000000) [-selQ_sel, h_1, h_2, h_3, h_4, h_5]
    · replace H := HS.cnd_f h_4 H
      try simp -implicitDefEqProofs (maxSteps := 2000000) [-selQ_sel, h_1, h_2, h_3, h_4]
      have hr := (HS.some H).symm; subst hr
      refine Hid.mk ⟨_, Wk.refl _, ?_⟩
      try simp -implicitDefEqProofs (maxSteps := 2000000) [-selQ_sel, h_1, h_2, h_3, h_4]
  · replace H := HS.cnd_f h_2 H
    try simp -implicitDefEqProofs (maxSteps := 2000000) [-selQ_sel, h_1, h_2]
    have hr := (HS.some H).symm; subst hr
    refine Hid.mk ⟨_, Wk.refl _, ?_⟩
    try simp -implicitDefEqProofs (maxSteps := 2000000) [-selQ_sel, h_1, h_2]
theorem impl_InBox_ok0 (hm : Try.prog.follows .mixedOrders = true) : Sound Try.prog 188 impl_InBox_x := by
  refine xOf_sound fun q r h => ?_
  obtain ⟨a0, a1⟩ := q
  refine fn_ok E0 hm Try.func188 rfl (by decide +kernel) (by rfl) fun Γ hn hk => ?_
  dsimp only [impl_InBox_e, impl_InBox_v]
  replace hn : Γ.n = 31 := hn
  replace hk : Γ.k = 0 := hk
  have H : HS (impl_InBox a0 a1) r := h
  clear h; unfold impl_InBox at H
  try simp -implicitDefEqProofs at H
  refine Tr.of_vc (cl := tabC []) (E := E0) [] tab_nil hm (by rw [hn]; decide +kernel) ?_
  try simp -implicitDefEqProofs (maxSteps := 2000000) [-selQ_sel]
  refine Hid.selQ (fun h_1 => ?_) (fun h_1 => ?_)
  · replace H := HS.cnd_t h_1 H
    try simp -implicitDefEqProofs (maxSteps := 2000000) [-selQ_sel, h_1]
    refine Hid.selQ (fun h_2 => ?_) (fun h_2 => ?_)
    · replace H := HS.cnd_t h_2 H
      try simp -implicitDefEqProofs (maxSteps := 2000000) [-selQ_sel, h_1, h_2]
      have hr := (HS.some H).symm; subst hr
      refine Hid.mk ⟨_, Wk.refl _, ?_⟩
      try simp -implicitDefEqProofs (maxSteps := 2000000) [-selQ_sel, h_1, h_2]
    · replace H := HS.cnd_f h_2 H
      try simp -implicitDefEqProofs (maxSteps := 2000000) [-selQ_sel, h_1, h_2]
      refine Hid.selQ (fun h_3 => ?_) (fun h_3 => ?_)
      · replace H := HS.cnd_t h_3 H
        try simp -implicitDefEqProofs (maxSteps := 2000000) [-selQ_sel, h_1, h_2, h_3]
        have hr := (HS.some H).symm; subst hr
        refine Hid.mk ⟨_, Wk.refl _, ?_⟩
        try simp -implicitDefEqProofs (maxSteps := 2000000) [-selQ_sel, h_1, h_2, h_3]
      · replace H := HS.cnd_f h_3 H
        try simp -implicitDefEqProofs (maxSteps := 2000000) [-selQ_sel, h_1, h_2, h_3]
        have hr := (HS.some H).symm; subst hr
        refine Hid.mk ⟨_, Wk.refl _, ?_⟩
        try simp -implicitDefEqProofs (maxSteps := 2000000) [-selQ_sel, h_1, h_2, h_3]
  · replace H := HS.cnd_f h_1 H
    try simp -implicitDefEqProofs (maxSteps := 2000000) [-selQ_sel, h_1]
    have hr := (HS.some H).symm; subst hr
    refine Hid.mk ⟨_, Wk.refl _, ?_⟩
    try simp -implicitDefEqProofs (maxSteps := 2000000) [-selQ_sel, h_1]
theorem spec_Laid_ok0 (hm : Try.prog.follows .mixedOrders = true) (k_spec_ColorOk : Sound Try.prog 193 spec_ColorOk_x) (k_spec_Times255 : Sound Try.prog 123 spec_Times255_x) : Sound Try.prog 126 spec_Laid_x := by
  refine xOf_sound fun q r h => ?_
  revert h; revert r; revert q; intro a0 r h
  refine fn_ok E0 hm Try.func126 rfl (by decide +kernel) (by rfl) fun Γ hn hk => ?_
  dsimp only [spec_Laid_e, spec_Laid_v]
  replace hn : Γ.n = 25 := hn
  replace hk : Γ.k = 0 := hk
  have H : HS (spec_Laid a0) r := h
  clear h; unfold spec_Laid at H
  try simp -implicitDefEqProofs at H
  refine Tr.of_vc (cl := tabC [(193, spec_ColorOk_x), (123, spec_Times255_x)]) (E := E0) [] (tab_cons k_spec_ColorOk (tab_cons k_spec_Times255 tab_nil)) hm (by rw [hn]; decide +kernel) ?_
  try simp -implicitDefEqProofs +decide (maxSteps := 2000000) [-selQ_sel, hokQ_of]
  obtain ⟨v1, h_1, H⟩ := HS.bnd H
  try simp -implicitDefEqProofs +decide (maxSteps := 2000000) [-selQ_sel, hokQ_of, h_1]
  refine Hid.brV (fun h_2 => ?_) (fun h_2 => ?_)
  · replace H := HS.cnd_t h_2 H
    try simp -implicitDefEqProofs +decide (maxSteps := 2000000) [-selQ_sel, hokQ_of, h_1, h_2]
    obtain ⟨v2, h_3, H⟩ := HS.bnd H
    try simp -implicitDefEqProofs +decide (maxSteps := 2000000) [-selQ_sel, hokQ_of, h_1, h_2, h_3]
    obtain ⟨v3, h_4, H⟩ := HS.bnd H
    try simp -implicitDefEqProofs +decide (maxSteps := 2000000) [-selQ_sel, hokQ_of, h_1, h_2, h_3, h_4]
    obtain ⟨v4, h_5, H⟩ := HS.bnd H
    try simp -implicitDefEqProofs +decide (maxSteps := 2000000) [-selQ_sel, hokQ_of, h_1, h_2, h_3, h_4, h_5]
    have hr := (HS.some H).symm; subst hr
    refine Hid.mk ⟨_, Wk.refl _, ?_⟩
    try simp -implicitDefEqProofs +decide (maxSteps := 2000000) [-selQ_sel, hokQ_of, h_1, h_2, h_3, h_4, h_5]
  · replace H := HS.cnd_f h_2 H
    try simp -implicitDefEqProofs +decide (maxSteps := 2000000) [-selQ_sel, hokQ_of, h_1, h_2]
    have hr := (HS.some H).symm; subst hr
    refine Hid.mk ⟨_, Wk.refl _, ?_⟩
    try simp -implicitDefEqProofs +decide (maxSteps := 2000000) [-selQ_sel, hokQ_of, h_1, h_2]
theorem spec_RoundDiv_ok0 (hm : Try.prog.follows .mixedOrders = true) (k_spec_FloorDiv : Sound Try.prog 195 spec_FloorDiv_x) : Sound Try.prog 124 spec_RoundDiv_x := by
  refine xOf_sound fun q r h => ?_
  obtain ⟨a0, a1⟩ := q
  refine fn_ok E0 hm Try.func124 rfl (by decide +kernel) (by rfl) fun Γ hn hk => ?_
  dsimp only [spec_RoundDiv_e, spec_RoundDiv_v]
  replace hn : Γ.n = 25 := hn
  replace hk : Γ.k = 0 := hk
  have H : HS (spec_RoundDiv a0 a1) r := h
  clear h; unfold spec_RoundDiv at H
  try simp -implicitDefEqProofs at H
  refine Tr.of_vc (cl := tabC [(195, spec_FloorDiv_x)]) (E := E0) [] (tab_cons k_spec_FloorDiv tab_nil) hm (by rw [hn]; decide +kernel) ?_
  try simp -implicitDefEqProofs (maxSteps := 2000000) [-selQ_sel]
  refine Hid.brV (fun h_1 => ?_) (fun h_1 => ?_)
  · replace H := HS.cnd_t h_1 H
    try simp -implicitDefEqProofs (maxSteps := 2000000) [-selQ_sel, h_1]
    obtain ⟨v1, h_2, H⟩ := HS.bnd H
    try simp -implicitDefEqProofs (maxSteps := 2000000) [-selQ_sel, h_1, h_2]
    refine Hid.brV (fun h_3 => ?_) (fun h_3 => ?_)
    · replace H := HS.cnd_t h_3 H
      try simp -implicitDefEqProofs (maxSteps := 2000000) [-selQ_sel, h_1, h_2, h_3]
      have hr := (HS.some H).symm; subst hr
      refine Hid.mk ⟨_, Wk.refl _, ?_⟩
      try simp -implicitDefEqProofs (maxSteps := 2000000) [-selQ_sel, h_1, h_2, h_3]
    · replace H := HS.cnd_f h_3 H
      try simp -implicitDefEqProofs (maxSteps := 2000000) [-selQ_sel, h_1, h_2, h_3]
      have hr := (HS.some H).symm; subst hr
      refine Hid.mk ⟨_, Wk.refl _, ?_⟩
      try simp -implicitDefEqProofs (maxSteps := 2000000) [-selQ_sel, h_1, h_2, h_3]
  · replace H := HS.cnd_f h_1 H
    try simp -implicitDefEqProofs (maxSteps := 2000000) [-selQ_sel, h_1]
    have hr := (HS.some H).symm; subst hr
    refine Hid.mk ⟨_, Wk.refl _, ?_⟩
    try simp -implicitDefEqProofs (maxSteps := 2000000) [-selQ_sel, h_1]
theorem spec_FloorDiv_ok0 (hm : Try.prog.follows .mixedOrders = true) : Sound Try.prog 195 spec_FloorDiv_x := by
  refine xOf_sound fun q r h => ?_
  obtain ⟨a0, a1⟩ := q
  refine fn_ok E0 hm Try.func195 rfl (by decide +kernel) (by rfl) fun Γ hn hk => ?_
  dsimp only [spec_FloorDiv_e, spec_FloorDiv_v]
  replace hn : Γ.n = 18 := hn
  replace hk : Γ.k = 0 := hk
  have H : HS (spec_FloorDiv a0 a1) r := h
  clear h; unfold spec_FloorDiv at H
  try simp -implicitDefEqProofs at H
  refine Tr.of_vc (cl := tabC []) (E := E0) [] tab_nil hm (by rw [hn]; decide +kernel) ?_
  try simp -implicitDefEqProofs (maxSteps := 2000000) [-selQ_sel]
  refine Hid.brV (fun h_1 => ?_) (fun h_1 => ?_)
  · replace H := HS.cnd_t h_1 H
    try simp -implicitDefEqProofs (maxSteps := 2000000) [-selQ_sel, h_1]
    obtain ⟨h_2, H⟩ := HS.chkP H
    try simp -implicitDefEqProofs (maxSteps := 2000000) [-selQ_sel, h_1, h_2]
    refine Hid.brV (fun h_3 => ?_) (fun h_3 => ?_)
    · replace H := HS.cnd_t h_3 H
      try simp -implicitDefEqProofs (maxSteps := 2000000) [-selQ_sel, h_1, h_2, h_3]
      have hr := (HS.some H).symm; subst hr
      refine Hid.mk ⟨_, Wk.refl _, ?_⟩
      try simp -implicitDefEqProofs (maxSteps := 2000000) [-selQ_sel, h_1, h_2, h_3]
    · replace H := HS.cnd_f h_3 H
      try simp -implicitDefEqProofs (maxSteps := 2000000) [-selQ_sel, h_1, h_2, h_3]
      have hr := (HS.some H).symm; subst hr
      refine Hid.mk ⟨_, Wk.refl _, ?_⟩
      try simp -implicitDefEqProofs (maxSteps := 2000000) [-selQ_sel, h_1, h_2, h_3]
  · replace H := HS.cnd_f h_1 H
    try simp -implicitDefEqProofs (maxSteps := 2000000) [-selQ_sel, h_1]
    have hr := (HS.some H).symm; subst hr
    refine Hid.mk ⟨_, Wk.refl _, ?_⟩
    try simp -implicitDefEqProofs (maxSteps := 2000000) [-selQ_sel, h_1]
theorem spec_l12Color_ok0 (hm : Try.prog.follows .mixedOrders = true) (k_spec_l01Below : Sound Try.prog 110 spec_l01Below_x) (k_spec_l01PickInt : Sound Try.prog 171 spec_l01PickInt_x) : Sound Try.prog 185 spec_l12Color_x := by
  refine xOf_sound fun q r h => ?_
  revert h; revert r; revert q; intro a0 r h
  refine fn_ok E0 hm Try.func185 rfl (by decide +kernel) (by rfl) fun Γ hn hk => ?_
  dsimp only [spec_l12Color_e, spec_l12Color_v]
  replace hn : Γ.n = 15 := hn
  replace hk : Γ.k = 1 := hk
  have H : HS (spec_l12Color a0) r := h
  clear h; unfold spec_l12Color at H
  try simp -implicitDefEqProofs at H
  refine Tr.of_vc (cl := tabC [(110, spec_l01Below_x), (171, spec_l01PickInt_x)]) (E := E0) [] (tab_cons k_spec_l01Below (tab_cons k_spec_l01PickInt tab_nil)) hm (by rw [hn]; decide +kernel) ?_
  try simp -implicitDefEqProofs (maxSteps := 2000000) [-selQ_sel]
  obtain ⟨⟨w2, w3⟩, h_1, H⟩ := HS.bnd H
  dsimp only at H
  try simp -implicitDefEqProofs (maxSteps := 2000000) [-selQ_sel, h_1]
  obtain ⟨⟨w5, w6⟩, h_2, H⟩ := HS.bnd H
  dsimp only at H
  try simp -implicitDefEqProofs (maxSteps := 2000000) [-selQ_sel, h_1, h_2]
  obtain ⟨⟨w8, w9⟩, h_3, H⟩ := HS.bnd H
  dsimp only at H
  try simp -implicitDefEqProofs (maxSteps := 2000000) [-selQ_sel, h_1, h_2, h_3]
  obtain ⟨⟨w11, w12⟩, h_4, H⟩ := HS.bnd H
  dsimp only at H
  have k_5 := spec_l01PickInt_k w9.b w9.i w9.h [255, 255, 128, 0, 1, 200]
  simp -implicitDefEqProofs [-spec_l01PickInt_k] at k_5
  try simp -implicitDefEqProofs (maxSteps := 2000000) [-selQ_sel, h_1, h_2, h_3, h_4, k_5]
  have hr := (HS.some H).symm; subst hr
  refine Hid.mk ⟨_, Wk.refl _, ?_⟩
  try simp -implicitDefEqProofs (maxSteps := 2000000) [-selQ_sel, h_1, h_2, h_3, h_4, k_5]
theorem impl_partOf_ok0 (hm : Try.prog.follows .mixedOrders = true) (k_impl_taken : Sound Try.prog 242 impl_taken_x) (k_impl_FloorDiv : Sound Try.prog 220 impl_FloorDiv_x) (k_impl_Clamp : Sound Try.prog 219 impl_Clamp_x) : Sound Try.prog 229 impl_partOf_x := by
  refine xOf_sound fun q r h => ?_
  obtain ⟨a0, a1, a2⟩ := q
  refine fn_ok E0 hm Try.func229 rfl (by decide +kernel) (by rfl) fun Γ hn hk => ?_
  dsimp only [impl_partOf_e, impl_partOf_v]
  replace hn : Γ.n = 58 := hn
  replace hk : Γ.k = 0 := hk
  have H : HS (impl_partOf a0 a1 a2) r := h
  clear h; unfold impl_partOf at H
  try simp -implicitDefEqProofs at H
  refine Tr.of_vc (cl := tabC [(242, impl_taken_x), (220, impl_FloorDiv_x), (219, impl_Clamp_x)]) (E := E0) [] (tab_cons k_impl_taken (tab_cons k_impl_FloorDiv (tab_cons k_impl_Clamp tab_nil))) hm (by rw [hn]; decide +kernel) ?_
  try simp -implicitDefEqProofs +decide (maxSteps := 2000000) [-selQ_sel, hokQ_of]
  obtain ⟨v1, h_1, H⟩ := HS.bnd H
  try simp -implicitDefEqProofs +decide (maxSteps := 2000000) [-selQ_sel, hokQ_of, h_1]
  obtain ⟨v2, h_2, H⟩ := HS.bnd H
  try simp -implicitDefEqProofs +decide (maxSteps := 2000000) [-selQ_sel, hokQ_of, h_1, h_2]
  obtain ⟨v3, h_3, H⟩ := HS.bnd H
  try simp -implicitDefEqProofs +decide (maxSteps := 2000000) [-selQ_sel, hokQ_of, h_1, h_2, h_3]
  obtain ⟨v4, h_4, H⟩ := HS.bnd H
  try simp -implicitDefEqProofs +decide (maxSteps := 2000000) [-selQ_sel, hokQ_of, h_1, h_2, h_3, h_4]
  have hr := (HS.some H).symm; subst hr
  refine Hid.mk ⟨_, Wk.refl _, ?_⟩
  try simp -implicitDefEqProofs +decide (maxSteps := 2000000) [-selQ_sel, hokQ_of, h_1, h_2, h_3, h_4]
theorem spec_BitsAt_ok0 (hm : Try.prog.follows .mixedOrders = true) (k_spec_MaskOk : Sound Try.prog 74 spec_MaskOk_x) (k_spec_l11Bits : Sound Try.prog 120 spec_l11Bits_x) : Sound Try.prog 40 spec_BitsAt_x := by
  refine xOf_sound fun q r h => ?_
  obtain ⟨a0, a1, a2⟩ := q
  refine fn_ok E0 hm Try.func40 rfl (by decide +kernel) (by rfl) fun Γ hn hk => ?_
  dsimp only [spec_BitsAt_e, spec_BitsAt_v]
  replace hn : Γ.n = 14 := hn
  replace hk : Γ.k = 0 := hk
  have H : HS (spec_BitsAt a0 a1 a2) r := h
  clear h; unfold spec_BitsAt at H
  try simp -implicitDefEqProofs at H
  refine Tr.of_vc (cl := tabC [(74, spec_MaskOk_x), (120, spec_l11Bits_x)]) (E := E0) [] (tab_cons k_spec_MaskOk (tab_cons k_spec_l11Bits tab_nil)) hm (by rw [hn]; decide +kernel) ?_
  try simp -implicitDefEqProofs (maxSteps := 2000000) [-selQ_sel]
  obtain ⟨v1, h_1, H⟩ := HS.bnd H
  try simp -implicitDefEqProofs (maxSteps := 2000000) [-selQ_sel, h_1]
  refine Hid.brV (fun h_2 => ?_) (fun h_2 => ?_)
  · replace H := HS.cnd_t h_2 H
    try simp -implicitDefEqProofs (maxSteps := 2000000) [-selQ_sel, h_1, h_2]
    obtain ⟨v2, h_3, H⟩ := HS.bnd H
    try simp -implicitDefEqProofs (maxSteps := 2000000) [-selQ_sel, h_1, h_2, h_3]
    have hr := (HS.some H).symm; subst hr
    refine Hid.mk ⟨_, Wk.refl _, ?_⟩
    try simp -implicitDefEqProofs (maxSteps := 2000000) [-selQ_sel, h_1, h_2, h_3]
  · replace H := HS.cnd_f h_2 H
    try simp -implicitDefEqProofs (maxSteps := 2000000) [-selQ_sel, h_1, h_2]
    have hr := (HS.some H).symm; subst hr
    refine Hid.mk ⟨_, Wk.refl _, ?_⟩
    try simp -implicitDefEqProofs (maxSteps := 2000000) [-selQ_sel, h_1, h_2]
theorem spec_l10Near_ok0 (hm : Try.prog.follows .mixedOrders = true) (k_spec_l01In : Sound Try.prog 73 spec_l01In_x) : Sound Try.prog 247 spec_l10Near_x := by
  refine xOf_sound fun q r h => ?_
  revert h; revert r; revert q; intro a0 r h
  refine fn_ok E0 hm Try.func247 rfl (by decide +kernel) (by rfl) fun Γ hn hk => ?_
  dsimp only [spec_l10Near_e, spec_l10Near_v]
  replace hn : Γ.n = 11 := hn
  replace hk : Γ.k = 0 := hk
  have H : HS (spec_l10Near a0) r := h
  clear h; unfold spec_l10Near at H
  try simp -implicitDefEqProofs at H
  refine Tr.of_vc (cl := tabC [(73, spec_l01In_x)]) (E := E0) [] (tab_cons k_spec_l01In tab_nil) hm (by rw [hn]; decide +kernel) ?_
  try simp -implicitDefEqProofs (maxSteps := 2000000) [-selQ_sel]
  obtain ⟨v1, h_1, H⟩ := HS.bnd H
  try simp -implicitDefEqProofs (maxSteps := 2000000) [-selQ_sel, h_1]
  refine Hid.selQ (fun h_2 => ?_) (fun h_2 => ?_)
  · replace H := HS.cnd_t h_2 H
    try simp -implicitDefEqProofs (maxSteps := 2000000) [-selQ_sel, h_1, h_2]
    obtain ⟨v2, h_3, H⟩ := HS.bnd H
    try simp -implicitDefEqProofs (maxSteps := 2000000) [-selQ_sel, h_1, h_2, h_3]
    have hr := (HS.some H).symm; subst hr
    refine Hid.mk ⟨_, Wk.refl _, ?_⟩
    try simp -implicitDefEqProofs (maxSteps := 2000000) [-selQ_sel, h_1, h_2, h_3]
  · replace H := HS.cnd_f h_2 H
    try simp -implicitDefEqProofs (maxSteps := 2000000) [-selQ_sel, h_1, h_2]
    have hr := (HS.some H).symm; subst hr
    refine Hid.mk ⟨_, Wk.refl _, ?_⟩
    try simp -implicitDefEqProofs (maxSteps := 2000000) [-selQ_sel, h_1, h_2]
theorem impl_each_ColorAt_1_ok0 (hm : Try.prog.follows .mixedOrders = true) (k_impl_ColorAt_1 : Sound Try.prog 230 impl_ColorAt_1_x) : Sound Try.prog 174 impl_each_ColorAt_1_x := by
  refine xOf_sound fun q r h => ?_
  obtain ⟨a0, a1, a2⟩ := q
  refine fn_ok E0 hm Try.func174 rfl (by decide +kernel) (by rfl) fun Γ hn hk => ?_
  dsimp only [impl_each_ColorAt_1_e, impl_each_ColorAt_1_v]
  replace hn : Γ.n = 32 := hn
  replace hk : Γ.k = 0 := hk
  have H : HS (impl_each_ColorAt_1 a0 a1 a2) r := h
  clear h; unfold impl_each_ColorAt_1 at H
  try simp -implicitDefEqProofs at H
  refine Tr.of_vc (cl := tabC [(230, impl_ColorAt_1_x)]) (E := E0) [] (tab_cons k_impl_ColorAt_1 tab_nil) hm (by rw [hn]; decide +kernel) ?_
  try simp -implicitDefEqProofs +decide (maxSteps := 2000000) [-selQ_sel, hokQ_of]
  obtain ⟨v1, h_1, H⟩ := HS.bnd H
  try simp -implicitDefEqProofs +decide (maxSteps := 2000000) [-selQ_sel, hokQ_of, h_1]
  obtain ⟨v2, h_2, H⟩ := HS.bnd H
  try simp -implicitDefEqProofs +decide (maxSteps := 2000000) [-selQ_sel, hokQ_of, h_1, h_2]
  obtain ⟨v3, h_3, H⟩ := HS.bnd H
  try simp -implicitDefEqProofs +decide (maxSteps := 2000000) [-selQ_sel, hokQ_of, h_1, h_2, h_3]
  obtain ⟨v4, h_4, H⟩ := HS.bnd H
  try simp -implicitDefEqProofs +decide (maxSteps := 2000000) [-selQ_sel, hokQ_of, h_1, h_2, h_3, h_4]
  have hr := (HS.some H).symm; subst hr
  refine Hid.mk ⟨_, Wk.refl _, ?_⟩
  try simp -implicitDefEqProofs +decide (maxSteps := 2000000) [-selQ_sel, hokQ_of, h_1, h_2, h_3, h_4]
theorem impl_each_Fade_1_ok0 (hm : Try.prog.follows .mixedOrders = true) (k_impl_Fade_1 : Sound Try.prog 179 impl_Fade_1_x) : Sound Try.prog 174 impl_each_Fade_1_x := by
  refine xOf_sound fun q r h => ?_
  obtain ⟨a0, a1, a2⟩ := q
  refine fn_ok E0 hm Try.func174 rfl (by decide +kernel) (by rfl) fun Γ hn hk => ?_
  dsimp only [impl_each_Fade_1_e, impl_each_Fade_1_v]
  replace hn : Γ.n = 32 := hn
  replace hk : Γ.k = 0 := hk
  have H : HS (impl_each_Fade_1 a0 a1 a2) r := h
  clear h; unfold impl_each_Fade_1 at H
  try simp -implicitDefEqProofs at H
  refine Tr.of_vc (cl := tabC [(179, impl_Fade_1_x)]) (E := E0) [] (tab_cons k_impl_Fade_1 tab_nil) hm (by rw [hn]; decide +kernel) ?_
  try simp -implicitDefEqProofs +decide (maxSteps := 2000000) [-selQ_sel, hokQ_of]
  obtain ⟨v1, h_1, H⟩ := HS.bnd H
  try simp -implicitDefEqProofs +decide (maxSteps := 2000000) [-selQ_sel, hokQ_of, h_1]
  obtain ⟨v2, h_2, H⟩ := HS.bnd H
  try simp -implicitDefEqProofs +decide (maxSteps := 2000000) [-selQ_sel, hokQ_of, h_1, h_2]
  obtain ⟨v3, h_3, H⟩ := HS.bnd H
  try simp -implicitDefEqProofs +decide (maxSteps := 2000000) [-selQ_sel, hokQ_of, h_1, h_2, h_3]
  obtain ⟨v4, h_4, H⟩ := HS.bnd H
  try simp -implicitDefEqProofs +decide (maxSteps := 2000000) [-selQ_sel, hokQ_of, h_1, h_2, h_3, h_4]
  have hr := (HS.some H).symm; subst hr
  refine Hid.mk ⟨_, Wk.refl _, ?_⟩
  try simp -implicitDefEqProofs +decide (maxSteps := 2000000) [-selQ_sel, hokQ_of, h_1, h_2, h_3, h_4]
theorem impl_MeetBox_ok0 (hm : Try.prog.follows .mixedOrders = true) (k_impl_Empty : Sound Try.prog 158 impl_Empty_x) : Sound Try.prog 157 impl_MeetBox_x := by
  refine xOf_sound fun q r h => ?_
  obtain ⟨a0, a1⟩ := q
  refine fn_ok E0 hm Try.func157 rfl (by decide +kernel) (by rfl) fun Γ hn hk => ?_
  dsimp only [impl_MeetBox_e, impl_MeetBox_v]
  replace hn : Γ.n = 31 := hn
  replace hk : Γ.k = 0 := hk
  have H : HS (impl_MeetBox a0 a1) r := h
  clear h; unfold impl_MeetBox at H
  try simp -implicitDefEqProofs at H
  refine Tr.of_vc (cl := tabC [(158, impl_Empty_x)]) (E := E0) [] (tab_cons k_impl_Empty tab_nil) hm (by rw [hn]; decide +kernel) ?_
  try simp -implicitDefEqProofs (maxSteps := 2000000) [-selQ_sel]
  obtain ⟨v1, h_1, H⟩ := HS.bnd H
  try simp -implicitDefEqProofs (maxSteps := 2000000) [-selQ_sel, h_1]
  refine Hid.brV (fun h_2 => ?_) (fun h_2 => ?_)
  · replace H := HS.cnd_t h_2 H
    try simp -implicitDefEqProofs (maxSteps := 2000000) [-selQ_sel, h_1, h_2]
    have hr := (HS.some H).symm; subst hr
    refine Hid.mk ⟨_, Wk.refl _, ?_⟩
    try simp -implicitDefEqProofs (maxSteps := 2000000) [-selQ_sel, h_1, h_2]
  · replace H := HS.cnd_f h_2 H
    try simp -implicitDefEqProofs (maxSteps := 2000000) [-selQ_sel, h_1, h_2]
    have hr := (HS.some H).symm; subst hr
    refine Hid.mk ⟨_, Wk.refl _, ?_⟩
    try simp -implicitDefEqProofs (maxSteps := 2000000) [-selQ_sel, h_1, h_2]
theorem spec_Times255_ok0 (hm : Try.prog.follows .mixedOrders = true) (k_spec_Clamp : Sound Try.prog 194 spec_Clamp_x) (k_spec_RoundDiv : Sound Try.prog 124 spec_RoundDiv_x) : Sound Try.prog 123 spec_Times255_x := by
  refine xOf_sound fun q r h => ?_
  obtain ⟨a0, a1⟩ := q
  refine fn_ok E0 hm Try.func123 rfl (by decide +kernel) (by rfl) fun Γ hn hk => ?_
  dsimp only [spec_Times255_e, spec_Times255_v]
  replace hn : Γ.n = 11 := hn
  replace hk : Γ.k = 0 := hk
  have H : HS (spec_Times255 a0 a1) r := h
  clear h; unfold spec_Times255 at H
  try simp -implicitDefEqProofs at H
  refine Tr.of_vc (cl := tabC [(194, spec_Clamp_x), (124, spec_RoundDiv_x)]) (E := E0) [] (tab_cons k_spec_Clamp (tab_cons k_spec_RoundDiv tab_nil)) hm (by rw [hn]; decide +kernel) ?_
  try simp -implicitDefEqProofs (maxSteps := 2000000) [-selQ_sel]
  obtain ⟨v1, h_1, H⟩ := HS.bnd H
  try simp -implicitDefEqProofs (maxSteps := 2000000) [-selQ_sel, h_1]
  obtain ⟨v2, h_2, H⟩ := HS.bnd H
  try simp -implicitDefEqProofs (maxSteps := 2000000) [-selQ_sel, h_1, h_2]
  obtain ⟨v3, h_3, H⟩ := HS.bnd H
  try simp -implicitDefEqProofs (maxSteps := 2000000) [-selQ_sel, h_1, h_2, h_3]
  have hr := (HS.some H).symm; subst hr
  refine Hid.mk ⟨_, Wk.refl _, ?_⟩
  try simp -implicitDefEqProofs (maxSteps := 2000000) [-selQ_sel, h_1, h_2, h_3]
theorem impl_copySurface_ok0 (hm : Try.prog.follows .mixedOrders = true) (k_slices_Clone_Color : Sound Try.prog 172 slices_Clone_Color_x) : Sound Try.prog 103 impl_copySurface_x := by
  refine xOf_sound fun q r h => ?_
  revert h; revert r; revert q; intro a0 r h
  refine fn_ok E0 hm Try.func103 rfl (by decide +kernel) (by rfl) fun Γ hn hk => ?_
  dsimp only [impl_copySurface_e, impl_copySurface_v]
  replace hn : Γ.n = 8 := hn
  replace hk : Γ.k = 0 := hk
  have H : HS (impl_copySurface a0) r := h
  clear h; unfold impl_copySurface at H
  try simp -implicitDefEqProofs at H
  refine Tr.of_vc (cl := tabC [(172, slices_Clone_Color_x)]) (E := E0) [] (tab_cons k_slices_Clone_Color tab_nil) hm (by rw [hn]; decide +kernel) ?_
  try simp -implicitDefEqProofs (maxSteps := 2000000) [-selQ_sel]
  obtain ⟨v1, h_1, H⟩ := HS.bnd H
  try simp -implicitDefEqProofs (maxSteps := 2000000) [-selQ_sel, h_1]
  have hr := (HS.some H).symm; subst hr
  refine Hid.mk ⟨⟨[(2, AV.optr 0 0 3)], [(0, Ob.box [AV.int .i64 a0.w, AV.int .i64 a0.h, AV.osl 1 0 (List.length v1) (List.length v1)]), (1, Ob.arr 4 (List.map eColor v1) false)], 2⟩, Wk.ofk [1, 2] hk (by rfl) (by simp -implicitDefEqProofs [h_1]) (by simp -implicitDefEqProofs [h_1]), ?_⟩
  try simp -implicitDefEqProofs (maxSteps := 2000000) [-selQ_sel, h_1]
theorem impl_Empty_ok0 (hm : Try.prog.follows .mixedOrders = true) : Sound Try.prog 158 impl_Empty_x := by
  refine xOf_sound fun q r h => ?_
  revert h; revert r; revert q; intro a0 r h
  refine fn_ok E0 hm Try.func158 rfl (by decide +kernel) (by rfl) fun Γ hn hk => ?_
  dsimp only [impl_Empty_e, impl_Empty_v]
  replace hn : Γ.n = 15 := hn
  replace hk : Γ.k = 0 := hk
  have H : HS (impl_Empty a0) r := h
  clear h; unfold impl_Empty at H
  try simp -implicitDefEqProofs at H
  refine Tr.of_vc (cl := tabC []) (E := E0) [] tab_nil hm (by rw [hn]; decide +kernel) ?_
  try simp -implicitDefEqProofs (maxSteps := 2000000) [-selQ_sel]
  refine Hid.selQ (fun h_1 => ?_) (fun h_1 => ?_)
  · replace H := HS.cnd_t h_1 H
    try simp -implicitDefEqProofs (maxSteps := 2000000) [-selQ_sel, h_1]
    have hr := (HS.some H).symm; subst hr
    refine Hid.mk ⟨_, Wk.refl _, ?_⟩
    try simp -implicitDefEqProofs (maxSteps := 2000000) [-selQ_sel, h_1]
  · replace H := HS.cnd_f h_1 H
    try simp -implicitDefEqProofs (maxSteps := 2000000) [-selQ_sel, h_1]
    have hr := (HS.some H).symm; subst hr
    refine Hid.mk ⟨_, Wk.refl _, ?_⟩
    try simp -implicitDefEqProofs (maxSteps := 2000000) [-selQ_sel, h_1]
theorem spec_l01In_ok0 (hm : Try.prog.follows .mixedOrders = true) : Sound Try.prog 73 spec_l01In_x := by
  refine xOf_sound fun q r h => ?_
  obtain ⟨a0, a1, a2⟩ := q
  refine fn_ok E0 hm Try.func73 rfl (by decide +kernel) (by rfl) fun Γ hn hk => ?_
  dsimp only [spec_l01In_e, spec_l01In_v]
  replace hn : Γ.n = 15 := hn
  replace hk : Γ.k = 0 := hk
  have H : HS (spec_l01In a0 a1 a2) r := h
  clear h; unfold spec_l01In at H
  try simp -implicitDefEqProofs at H
  refine Tr.of_vc (cl := tabC []) (E := E0) [] tab_nil hm (by rw [hn]; decide +kernel) ?_
  try simp -implicitDefEqProofs (maxSteps := 2000000) [-selQ_sel]
  refine Hid.selQ (fun h_1 => ?_) (fun h_1 => ?_)
  · replace H := HS.cnd_t h_1 H
    try simp -implicitDefEqProofs (maxSteps := 2000000) [-selQ_sel, h_1]
    have hr := (HS.some H).symm; subst hr
    refine Hid.mk ⟨_, Wk.refl _, ?_⟩
    try simp -implicitDefEqProofs (maxSteps := 2000000) [-selQ_sel, h_1]
  · replace H := HS.cnd_f h_1 H
    try simp -implicitDefEqProofs (maxSteps := 2000000) [-selQ_sel, h_1]
    have hr := (HS.some H).symm; subst hr
    refine Hid.mk ⟨_, Wk.refl _, ?_⟩
    try simp -implicitDefEqProofs (maxSteps := 2000000) [-selQ_sel, h_1]
theorem impl_isSide_ok0 (hm : Try.prog.follows .mixedOrders = true) (k_impl_inRange : Sound Try.prog 76 impl_inRange_x) : Sound Try.prog 102 impl_isSide_x := by
  refine xOf_sound fun q r h => ?_
  revert h; revert r; revert q; intro a0 r h
  refine fn_ok E0 hm Try.func102 rfl (by decide +kernel) (by rfl) fun Γ hn hk => ?_
  dsimp only [impl_isSide_e, impl_isSide_v]
  replace hn : Γ.n = 5 := hn
  replace hk : Γ.k = 0 := hk
  have H : HS (impl_isSide a0) r := h
  clear h; unfold impl_isSide at H
  try simp -implicitDefEqProofs at H
  refine Tr.of_vc (cl := tabC [(76, impl_inRange_x)]) (E := E0) [] (tab_cons k_impl_inRange tab_nil) hm (by rw [hn]; decide +kernel) ?_
  try simp -implicitDefEqProofs (maxSteps := 2000000) [-selQ_sel]
  obtain ⟨v1, h_1, H⟩ := HS.bnd H
  try simp -implicitDefEqProofs (maxSteps := 2000000) [-selQ_sel, h_1]
  have hr := (HS.some H).symm; subst hr
  refine Hid.mk ⟨_, Wk.refl _, ?_⟩
  try simp -implicitDefEqProofs (maxSteps := 2000000) [-selQ_sel, h_1]
theorem impl_isByte_ok0 (hm : Try.prog.follows .mixedOrders = true) (k_impl_inRange : Sound Try.prog 76 impl_inRange_x) : Sound Try.prog 178 impl_isByte_x := by
  refine xOf_sound fun q r h => ?_
  revert h; revert r; revert q; intro a0 r h
  refine fn_ok E0 hm Try.func178 rfl (by decide +kernel) (by rfl) fun Γ hn hk => ?_
  dsimp only [impl_isByte_e, impl_isByte_v]
  replace hn : Γ.n = 5 := hn
  replace hk : Γ.k = 0 := hk
  have H : HS (impl_isByte a0) r := h
  clear h; unfold impl_isByte at H
  try simp -implicitDefEqProofs at H
  refine Tr.of_vc (cl := tabC [(76, impl_inRange_x)]) (E := E0) [] (tab_cons k_impl_inRange tab_nil) hm (by rw [hn]; decide +kernel) ?_
  try simp -implicitDefEqProofs (maxSteps := 2000000) [-selQ_sel]
  obtain ⟨v1, h_1, H⟩ := HS.bnd H
  try simp -implicitDefEqProofs (maxSteps := 2000000) [-selQ_sel, h_1]
  have hr := (HS.some H).symm; subst hr
  refine Hid.mk ⟨_, Wk.refl _, ?_⟩
  try simp -implicitDefEqProofs (maxSteps := 2000000) [-selQ_sel, h_1]
theorem impl_Thin_1_ok0 (hm : Try.prog.follows .mixedOrders = true) (k_impl_RoundDiv : Sound Try.prog 177 impl_RoundDiv_x) : Sound Try.prog 227 impl_Thin_1_x := by
  refine xOf_sound fun q r h => ?_
  obtain ⟨a0, a1, a2⟩ := q
  refine fn_ok E0 hm Try.func227 rfl (by decide +kernel) (by rfl) fun Γ hn hk => ?_
  dsimp only [impl_Thin_1_e, impl_Thin_1_v]
  replace hn : Γ.n = 10 := hn
  replace hk : Γ.k = 0 := hk
  have H : HS (impl_Thin_1 a0 a1 a2) r := h
  clear h; unfold impl_Thin_1 at H
  try simp -implicitDefEqProofs at H
  refine Tr.of_vc (cl := tabC [(177, impl_RoundDiv_x)]) (E := E0) [] (tab_cons k_impl_RoundDiv tab_nil) hm (by rw [hn]; decide +kernel) ?_
  try simp -implicitDefEqProofs (maxSteps := 2000000) [-selQ_sel]
  obtain ⟨v1, h_1, H⟩ := HS.bnd H
  try simp -implicitDefEqProofs (maxSteps := 2000000) [-selQ_sel, h_1]
  have hr := (HS.some H).symm; subst hr
  refine Hid.mk ⟨_, Wk.refl _, ?_⟩
  try simp -implicitDefEqProofs (maxSteps := 2000000) [-selQ_sel, h_1]
theorem impl_taken_ok0 (hm : Try.prog.follows .mixedOrders = true) (k_impl_Clamp : Sound Try.prog 219 impl_Clamp_x) : Sound Try.prog 242 impl_taken_x := by
  refine xOf_sound fun q r h => ?_
  obtain ⟨a0, a1⟩ := q
  refine fn_ok E0 hm Try.func242 rfl (by decide +kernel) (by rfl) fun Γ hn hk => ?_
  dsimp only [impl_taken_e, impl_taken_v]
  replace hn : Γ.n = 10 := hn
  replace hk : Γ.k = 0 := hk
  have H : HS (impl_taken a0 a1) r := h
  clear h; unfold impl_taken at H
  try simp -implicitDefEqProofs at H
  refine Tr.of_vc (cl := tabC [(219, impl_Clamp_x)]) (E := E0) [] (tab_cons k_impl_Clamp tab_nil) hm (by rw [hn]; decide +kernel) ?_
  try simp -implicitDefEqProofs (maxSteps := 2000000) [-selQ_sel]
  obtain ⟨v1, h_1, H⟩ := HS.bnd H
  try simp -implicitDefEqProofs (maxSteps := 2000000) [-selQ_sel, h_1]
  have hr := (HS.some H).symm; subst hr
  refine Hid.mk ⟨_, Wk.refl _, ?_⟩
  try simp -implicitDefEqProofs (maxSteps := 2000000) [-selQ_sel, h_1]
end Go.Proofs.Ytoafihhhdnmliaa.Am
