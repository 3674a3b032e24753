import Derived.Test.YtokobfpimdadmaaAmG1Mo
set_option linter.unusedVariables false
set_option linter.unusedSimpArgs false
set_option linter.unusedSectionVars false
namespace Go.Proofs.Ytokobfpimdadmaa.Am
open Go Go.Proofs
set_option maxRecDepth 100000
set_option linter.unusedSimpArgs false
set_option linter.unusedVariables false
set_option maxHeartbeats 4000000
theorem spec_l06Path_ok0 (hm : Try.prog.follows .mixedOrders = true) (k_spec_l01Once : Sound Try.prog 40 spec_l01Once_x) (k_spec_l01Below : Sound Try.prog 42 spec_l01Below_x) (k_spec_RectPath : Sound Try.prog 107 spec_RectPath_x) (k_spec_l01PickInt : Sound Try.prog 72 spec_l01PickInt_x) (k_spec_NeedOf : Sound Try.prog 108 spec_NeedOf_x) (k_spec_l04Point : Sound Try.prog 109 spec_l04Point_x) : Sound Try.prog 77 spec_l06Path_x := by
  refine xOf_sound fun q r h => ?_
  revert h; revert r; revert q; intro a0 r h
  refine fn_ok E0 hm Try.func77 rfl (by decide +kernel) (by rfl) fun Γ hn hk => ?_
  dsimp only [spec_l06Path_e, spec_l06Path_v]
  replace hn : Γ.n = 79 := hn
  replace hk : Γ.k = 1 := hk
  have H : HS (spec_l06Path a0) r := h
  clear h; unfold spec_l06Path at H
  try simp -implicitDefEqProofs at H
  refine Tr.of_vc (cl := tabC [(40, spec_l01Once_x), (42, spec_l01Below_x), (107, spec_RectPath_x), (72, spec_l01PickInt_x), (108, spec_NeedOf_x), (109, spec_l04Point_x)]) (E := E0) [] (tab_cons k_spec_l01Once (tab_cons k_spec_l01Below (tab_cons k_spec_RectPath (tab_cons k_spec_l01PickInt (tab_cons k_spec_NeedOf (tab_cons k_spec_l04Point tab_nil)))))) hm (by rw [hn]; decide +kernel) ?_
  try simp -implicitDefEqProofs +decide (maxSteps := 2000000) [-selQ_sel, hokQ_of]
  obtain ⟨⟨w2, w3⟩, h_1, H⟩ := HS.bnd H
  dsimp only at H
  try simp -implicitDefEqProofs +decide (maxSteps := 2000000) [-selQ_sel, hokQ_of, h_1]
  refine Hid.brV (fun h_2 => ?_) (fun h_2 => ?_)
  · replace H := HS.cnd_t h_2 H
    try simp -implicitDefEqProofs +decide (maxSteps := 2000000) [-selQ_sel, hokQ_of, h_1, h_2]
    obtain ⟨⟨w5, w6⟩, h_3, H⟩ := HS.bnd H
    dsimp only at H
    try simp -implicitDefEqProofs +decide (maxSteps := 2000000) [-selQ_sel, hokQ_of, h_1, h_2, h_3]
    obtain ⟨⟨w8, w9⟩, h_4, H⟩ := HS.bnd H
    dsimp only at H
    try simp -implicitDefEqProofs +decide (maxSteps := 2000000) [-selQ_sel, hokQ_of, h_1, h_2, h_3, h_4]
    obtain ⟨⟨w11, w12⟩, h_5, H⟩ := HS.bnd H
    dsimp only at H
    try simp -implicitDefEqProofs +decide (maxSteps := 2000000) [-selQ_sel, hokQ_of, h_1, h_2, h_3, h_4, h_5]
    obtain ⟨⟨w14, w15⟩, h_6, H⟩ := HS.bnd H
    dsimp only at H
    try simp -implicitDefEqProofs +decide (maxSteps := 2000000) [-selQ_sel, hokQ_of, h_1, h_2, h_3, h_4, h_5, h_6]
    obtain ⟨⟨w17, w18⟩, h_7, H⟩ := HS.bnd H
    dsimp only at H
    try simp -implicitDefEqProofs +decide (maxSteps := 2000000) [-selQ_sel, hokQ_of, h_1, h_2, h_3, h_4, h_5, h_6, h_7]
    have hr := (HS.some H).symm; subst hr
    refine Hid.mk ⟨⟨[(2, AV.optr 1 0 2)], [(0, Ob.box [AV.fsl (List.map (AV.int .u8) w15.b), AV.int .i64 w15.i, AV.int .i64 w15.h]), (1, Ob.box [AV.osl 2 0 (List.length w17) (List.length w17), AV.osl 3 0 (List.length w18) (List.length w18)]), (2, Ob.arr 1 (List.map (AV.int .i64) w17) false), (3, Ob.arr 2 (List.map ePoint w18) false)], 4⟩, Wk.ofk [0, 1, 2, 3] hk (by rfl) (by simp -implicitDefEqProofs [h_1, h_2, h_3, h_4, h_5, h_6, h_7]) (by simp -implicitDefEqProofs [h_1, h_2, h_3, h_4, h_5, h_6, h_7]), ?_⟩
    try simp -implicitDefEqProofs +decide (maxSteps := 2000000) [-selQ_sel, hokQ_of, h_1, h_2, h_3, h_4, h_5, h_6, h_7]
  · replace H := HS.cnd_f h_2 H
    try simp -implicitDefEqProofs +decide (maxSteps := 2000000) [-selQ_sel, hokQ_of, h_1, h_2]
    obtain ⟨q, h_8, H⟩ := HS.bnd H
    refine Hid.mk (Tr.weak (s' := spec_l06Path_l3_S (0, w3.b, w3.i, w3.h, [], [])) (Wk.ofk [0, 1, 2, 3, 4] hk (by rfl) (by simp -implicitDefEqProofs [spec_l06Path_l3_S, h_1, h_2]) (by simp -implicitDefEqProofs [spec_l06Path_l3_S, h_1, h_2])) ?_)
    refine wp_loop_of (S := spec_l06Path_l3_S) (f := spec_l06Path_l3) (xt := spec_l06Path_l3_X) ?_ ?_ h_8 ?_
    · intro q; rcases q with ⟨y120, y121, y122, y123, y124⟩ | ⟨y125, y126, y127, y128, y129⟩ <;> simp [spec_l06Path_l3_X]
    · clear H h_8 q
      rintro ⟨x44, x45, x46, x47, x48, x49⟩ o R hf hR
      have H : HS (spec_l06Path_l3 (x44, x45, x46, x47, x48, x49)) o := hf
      clear hf; unfold spec_l06Path_l3 at H
      try simp -implicitDefEqProofs at H
      refine Tr.of_vc (cl := tabC [(40, spec_l01Once_x), (42, spec_l01Below_x), (107, spec_RectPath_x), (72, spec_l01PickInt_x), (108, spec_NeedOf_x), (109, spec_l04Point_x)]) (E := E0) [] (tab_cons k_spec_l01Once (tab_cons k_spec_l01Below (tab_cons k_spec_RectPath (tab_cons k_spec_l01PickInt (tab_cons k_spec_NeedOf (tab_cons k_spec_l04Point tab_nil)))))) hm (by rw [hn]; decide +kernel) ?_
      try simp -implicitDefEqProofs +decide (maxSteps := 2000000) [-selQ_sel, hokQ_of, spec_l06Path_l3_S]
      obtain ⟨⟨w51, w52⟩, h_9, H⟩ := HS.bnd H
      dsimp only at H
      have k_10 := spec_l01Below_k 6 ((TL01Cur.mk x45 x46 x47).b) ((TL01Cur.mk x45 x46 x47).i) ((TL01Cur.mk x45 x46 x47).h)
      simp -implicitDefEqProofs [-spec_l01Below_k] at k_10
      try simp -implicitDefEqProofs +decide (maxSteps := 2000000) [-selQ_sel, hokQ_of, h_9, k_10]
      refine Hid.brV (fun h_11 => ?_) (fun h_11 => ?_)
      · replace H := HS.cnd_t h_11 H
        try simp -implicitDefEqProofs +decide (maxSteps := 2000000) [-selQ_sel, hokQ_of, h_9, k_10, h_11]
        have hr := (HS.some H).symm; subst hr
        exact Hid.mk ⟨(spec_l06Path_l3_X (.inl (w52.b, w52.i, w52.h, x48, x49))).2, Wk.ofk [0, 1, 2, 3, 4] hk (by rfl) (by simp -implicitDefEqProofs [spec_l06Path_l3_X, h_9, k_10, h_11]) (by simp -implicitDefEqProofs [spec_l06Path_l3_X, h_9, k_10, h_11]), hR⟩
      · replace H := HS.cnd_f h_11 H
        try simp -implicitDefEqProofs +decide (maxSteps := 2000000) [-selQ_sel, hokQ_of, h_9, k_10, h_11]
        obtain ⟨⟨w54, w55⟩, h_12, H⟩ := HS.bnd H
        dsimp only at H
        have k_13 := spec_l01PickInt_k w52.b w52.i w52.h [2, 2, 2, 3, 4, 5, 1]
        simp -implicitDefEqProofs [-spec_l01PickInt_k] at k_13
        try simp -implicitDefEqProofs +decide (maxSteps := 2000000) [-selQ_sel, hokQ_of, h_9, k_10, h_11, h_12, k_13]
        refine Hid.selQ (fun h_14 => ?_) (fun h_14 => ?_)
        · replace H := HS.cnd_t h_14 H
          try simp -implicitDefEqProofs +decide (maxSteps := 2000000) [-selQ_sel, hokQ_of, h_9, k_10, h_11, h_12, k_13, h_14]
          obtain ⟨v56, h_15, H⟩ := HS.bnd H
          try simp -implicitDefEqProofs +decide (maxSteps := 2000000) [-selQ_sel, hokQ_of, h_9, k_10, h_11, h_12, k_13, h_14, h_15]
          refine Hid.brV (fun h_16 => ?_) (fun h_16 => ?_)
          · replace H := HS.cnd_t h_16 H
            try simp -implicitDefEqProofs +decide (maxSteps := 2000000) [-selQ_sel, hokQ_of, h_9, k_10, h_11, h_12, k_13, h_14, h_15, h_16]
            obtain ⟨h_17, H⟩ := HS.chkP H
            try simp -implicitDefEqProofs +decide (maxSteps := 2000000) [-selQ_sel, hokQ_of, h_9, k_10, h_11, h_12, k_13, h_14, h_15, h_16, h_17]
            obtain ⟨l57, h_18, H⟩ := HS.nam H
            have m_19 := congrArg (List.map (AV.int .i64)) h_18
            have q_20 := congrArg List.length h_18
            simp -implicitDefEqProofs at m_19 q_20
            try simp only [q_20] at m_19
            try simp only [q_20] at h_17
            try simp -implicitDefEqProofs +decide (maxSteps := 2000000) [-selQ_sel, hokQ_of, h_9, k_10, h_11, h_12, k_13, h_14, h_15, h_16, h_17, m_19, q_20]
            obtain ⟨q, h_21, H⟩ := HS.bnd H
            refine Hid.mk (Tr.weak (s' := (spec_l06Path_l0_S l57 x44) (0, w55.b, w55.i, w55.h, x49)) (Wk.ofk [0, 1, 2, 3, 4] hk (by rfl) (by simp -implicitDefEqProofs [spec_l06Path_l0_S, h_9, k_10, h_11, h_12, k_13, h_14, h_15, h_16, h_17, m_19, q_20]) (by simp -implicitDefEqProofs [spec_l06Path_l0_S, h_9, k_10, h_11, h_12, k_13, h_14, h_15, h_16, h_17, m_19, q_20])) ?_)
            refine wp_loop_of (S := (spec_l06Path_l0_S l57 x44)) (f := (spec_l06Path_l0 l57 x44)) (xt := (spec_l06Path_l0_X l57 x44)) ?_ ?_ h_21 ?_
            · intro q; rcases q with ⟨y73, y74, y75, y76⟩ <;> simp [spec_l06Path_l0_X]
            · clear H h_21 q
              rintro ⟨x63, x64, x65, x66, x67⟩ o R hf hR
              have H : HS (spec_l06Path_l0 l57 x44 (x63, x64, x65, x66, x67)) o := hf
              clear hf; unfold spec_l06Path_l0 at H
              try simp -implicitDefEqProofs at H
              refine Tr.of_vc (cl := tabC [(40, spec_l01Once_x), (42, spec_l01Below_x), (107, spec_RectPath_x), (72, spec_l01PickInt_x), (108, spec_NeedOf_x), (109, spec_l04Point_x)]) (E := E0) [] (tab_cons k_spec_l01Once (tab_cons k_spec_l01Below (tab_cons k_spec_RectPath (tab_cons k_spec_l01PickInt (tab_cons k_spec_NeedOf (tab_cons k_spec_l04Point tab_nil)))))) hm (by rw [hn]; decide +kernel) ?_
              try simp -implicitDefEqProofs +decide (maxSteps := 2000000) [-selQ_sel, hokQ_of, spec_l06Path_l0_S]
              obtain ⟨v68, h_22, H⟩ := HS.bnd H
              try simp -implicitDefEqProofs +decide (maxSteps := 2000000) [-selQ_sel, hokQ_of, h_22]
              refine Hid.brV (fun h_23 => ?_) (fun h_23 => ?_)
              · replace H := HS.cnd_t h_23 H
                try simp -implicitDefEqProofs +decide (maxSteps := 2000000) [-selQ_sel, hokQ_of, h_22, h_23]
                have hr := (HS.some H).symm; subst hr
                exact Hid.mk ⟨(spec_l06Path_l0_X l57 x44 (x64, x65, x66, x67)).2, Wk.ofk [0, 1, 2, 3, 4] hk (by rfl) (by simp -implicitDefEqProofs [spec_l06Path_l0_X, h_22, h_23]) (by simp -implicitDefEqProofs [spec_l06Path_l0_X, h_22, h_23]), hR⟩
              · replace H := HS.cnd_f h_23 H
                try simp -implicitDefEqProofs +decide (maxSteps := 2000000) [-selQ_sel, hokQ_of, h_22, h_23]
                obtain ⟨⟨w70, w71⟩, h_24, H⟩ := HS.bnd H
                dsimp only at H
                have k_25 := spec_l04Point_k ((TL01Cur.mk x64 x65 x66).b) ((TL01Cur.mk x64 x65 x66).i) ((TL01Cur.mk x64 x65 x66).h)
                simp -implicitDefEqProofs [-spec_l04Point_k] at k_25
                try simp -implicitDefEqProofs +decide (maxSteps := 2000000) [-selQ_sel, hokQ_of, h_22, h_23, h_24, k_25]
                obtain ⟨h_26, H⟩ := HS.chkP H
                try simp -implicitDefEqProofs +decide (maxSteps := 2000000) [-selQ_sel, hokQ_of, h_22, h_23, h_24, k_25, h_26]
                obtain ⟨l72, h_27, H⟩ := HS.nam H
                have m_28 := congrArg (List.map ePoint) h_27
                have q_29 := congrArg List.length h_27
                simp -implicitDefEqProofs at m_28 q_29
                try simp only [q_29] at m_28
                try simp only [q_29] at h_26
                try simp -implicitDefEqProofs +decide (maxSteps := 2000000) [-selQ_sel, hokQ_of, h_22, h_23, h_24, k_25, h_26, m_28, q_29]
                have hr := (HS.some H).symm; subst hr
                exact Hid.mk ⟨spec_l06Path_l0_S l57 x44 ((IntKind.i64.wrap (x63 + 1)), w71.b, w71.i, w71.h, l72), Wk.ofk [0, 1, 2, 3, 4] hk (by rfl) (by simp -implicitDefEqProofs [spec_l06Path_l0_S, h_22, h_23, h_24, k_25, h_26, m_28, q_29]) (by simp -implicitDefEqProofs [spec_l06Path_l0_S, h_22, h_23, h_24, k_25, h_26, m_28, q_29]), hR⟩
            · obtain ⟨y73, y74, y75, y76⟩ := q
              try dsimp only at H
              try simp -implicitDefEqProofs +decide (maxSteps := 2000000) [-selQ_sel, hokQ_of, h_9, k_10, h_11, h_12, k_13, h_14, h_15, h_16, h_17, m_19, q_20, spec_l06Path_l0_X]
              have hr := (HS.some H).symm; subst hr
              exact Hid.mk ⟨spec_l06Path_l3_S ((IntKind.i64.wrap (x44 + 1)), y73, y74, y75, l57, y76), Wk.ofk [0, 1, 2, 3, 4] hk (by rfl) (by simp -implicitDefEqProofs [spec_l06Path_l3_S, h_9, k_10, h_11, h_12, k_13, h_14, h_15, h_16, h_17, m_19, q_20]) (by simp -implicitDefEqProofs [spec_l06Path_l3_S, h_9, k_10, h_11, h_12, k_13, h_14, h_15, h_16, h_17, m_19, q_20]), hR⟩
          · replace H := HS.cnd_f h_16 H
            try simp -implicitDefEqProofs +decide (maxSteps := 2000000) [-selQ_sel, hokQ_of, h_9, k_10, h_11, h_12, k_13, h_14, h_15, h_16]
            have hr := (HS.some H).symm; subst hr
            exact Hid.mk ⟨(spec_l06Path_l3_X (.inr (w55.b, w55.i, w55.h, x48, x49))).2, Wk.ofk [0, 1, 3, 4] hk (by rfl) (by simp -implicitDefEqProofs [spec_l06Path_l3_X, h_9, k_10, h_11, h_12, k_13, h_14, h_15, h_16]) (by simp -implicitDefEqProofs [spec_l06Path_l3_X, h_9, k_10, h_11, h_12, k_13, h_14, h_15, h_16]), hR⟩
        · replace H := HS.cnd_f h_14 H
          try simp -implicitDefEqProofs +decide (maxSteps := 2000000) [-selQ_sel, hokQ_of, h_9, k_10, h_11, h_12, k_13, h_14]
          obtain ⟨v77, h_30, H⟩ := HS.bnd H
          have g_31 := idx_get h_30
          try simp -implicitDefEqProofs +decide (maxSteps := 2000000) [-selQ_sel, hokQ_of, h_9, k_10, h_11, h_12, k_13, h_14, h_30, g_31]
          refine Hid.brV (fun h_32 => ?_) (fun h_32 => ?_)
          · replace H := HS.cnd_t h_32 H
            try simp -implicitDefEqProofs +decide (maxSteps := 2000000) [-selQ_sel, hokQ_of, h_9, k_10, h_11, h_12, k_13, h_14, h_30, g_31, h_32]
            obtain ⟨v78, h_33, H⟩ := HS.bnd H
            try simp -implicitDefEqProofs +decide (maxSteps := 2000000) [-selQ_sel, hokQ_of, h_9, k_10, h_11, h_12, k_13, h_14, h_30, g_31, h_32, h_33]
            refine Hid.brV (fun h_34 => ?_) (fun h_34 => ?_)
            · replace H := HS.cnd_t h_34 H
              try simp -implicitDefEqProofs +decide (maxSteps := 2000000) [-selQ_sel, hokQ_of, h_9, k_10, h_11, h_12, k_13, h_14, h_30, g_31, h_32, h_33, h_34]
              obtain ⟨h_35, H⟩ := HS.chkP H
              try simp -implicitDefEqProofs +decide (maxSteps := 2000000) [-selQ_sel, hokQ_of, h_9, k_10, h_11, h_12, k_13, h_14, h_30, g_31, h_32, h_33, h_34, h_35]
              obtain ⟨l79, h_36, H⟩ := HS.nam H
              have m_37 := congrArg (List.map (AV.int .i64)) h_36
              have q_38 := congrArg List.length h_36
              simp -implicitDefEqProofs at m_37 q_38
              try simp only [q_38] at m_37
              try simp only [q_38] at h_35
              try simp -implicitDefEqProofs +decide (maxSteps := 2000000) [-selQ_sel, hokQ_of, h_9, k_10, h_11, h_12, k_13, h_14, h_30, g_31, h_32, h_33, h_34, h_35, m_37, q_38]
              obtain ⟨q, h_39, H⟩ := HS.bnd H
              refine Hid.mk (Tr.weak (s' := (spec_l06Path_l1_S l79 x44) (0, w55.b, w55.i, w55.h, x49)) (Wk.ofk [0, 1, 2, 3, 4] hk (by rfl) (by simp -implicitDefEqProofs [spec_l06Path_l1_S, h_9, k_10, h_11, h_12, k_13, h_14, h_30, g_31, h_32, h_33, h_34, h_35, m_37, q_38]) (by simp -implicitDefEqProofs [spec_l06Path_l1_S, h_9, k_10, h_11, h_12, k_13, h_14, h_30, g_31, h_32, h_33, h_34, h_35, m_37, q_38])) ?_)
              refine wp_loop_of (S := (spec_l06Path_l1_S l79 x44)) (f := (spec_l06Path_l1 l79 x44)) (xt := (spec_l06Path_l1_X l79 x44)) ?_ ?_ h_39 ?_
              · intro q; rcases q with ⟨y95, y96, y97, y98⟩ <;> simp [spec_l06Path_l1_X]
              · clear H h_39 q
                rintro ⟨x85, x86, x87, x88, x89⟩ o R hf hR
                have H : HS (spec_l06Path_l1 l79 x44 (x85, x86, x87, x88, x89)) o := hf
                clear hf; unfold spec_l06Path_l1 at H
                try simp -implicitDefEqProofs at H
                refine Tr.of_vc (cl := tabC [(40, spec_l01Once_x), (42, spec_l01Below_x), (107, spec_RectPath_x), (72, spec_l01PickInt_x), (108, spec_NeedOf_x), (109, spec_l04Point_x)]) (E := E0) [] (tab_cons k_spec_l01Once (tab_cons k_spec_l01Below (tab_cons k_spec_RectPath (tab_cons k_spec_l01PickInt (tab_cons k_spec_NeedOf (tab_cons k_spec_l04Point tab_nil)))))) hm (by rw [hn]; decide +kernel) ?_
                try simp -implicitDefEqProofs +decide (maxSteps := 2000000) [-selQ_sel, hokQ_of, spec_l06Path_l1_S]
                obtain ⟨v90, h_40, H⟩ := HS.bnd H
                try simp -implicitDefEqProofs +decide (maxSteps := 2000000) [-selQ_sel, hokQ_of, h_40]
                refine Hid.brV (fun h_41 => ?_) (fun h_41 => ?_)
                · replace H := HS.cnd_t h_41 H
                  try simp -implicitDefEqProofs +decide (maxSteps := 2000000) [-selQ_sel, hokQ_of, h_40, h_41]
                  have hr := (HS.some H).symm; subst hr
                  exact Hid.mk ⟨(spec_l06Path_l1_X l79 x44 (x86, x87, x88, x89)).2, Wk.ofk [0, 1, 2, 3, 4] hk (by rfl) (by simp -implicitDefEqProofs [spec_l06Path_l1_X, h_40, h_41]) (by simp -implicitDefEqProofs [spec_l06Path_l1_X, h_40, h_41]), hR⟩
                · replace H := HS.cnd_f h_41 H
                  try simp -implicitDefEqProofs +decide (maxSteps := 2000000) [-selQ_sel, hokQ_of, h_40, h_41]
                  obtain ⟨⟨w92, w93⟩, h_42, H⟩ := HS.bnd H
                  dsimp only at H
                  have k_43 := spec_l04Point_k ((TL01Cur.mk x86 x87 x88).b) ((TL01Cur.mk x86 x87 x88).i) ((TL01Cur.mk x86 x87 x88).h)
                  simp -implicitDefEqProofs [-spec_l04Point_k] at k_43
                  try simp -implicitDefEqProofs +decide (maxSteps := 2000000) [-selQ_sel, hokQ_of, h_40, h_41, h_42, k_43]
                  obtain ⟨h_44, H⟩ := HS.chkP H
                  try simp -implicitDefEqProofs +decide (maxSteps := 2000000) [-selQ_sel, hokQ_of, h_40, h_41, h_42, k_43, h_44]
                  obtain ⟨l94, h_45, H⟩ := HS.nam H
                  have m_46 := congrArg (List.map ePoint) h_45
                  have q_47 := congrArg List.length h_45
                  simp -implicitDefEqProofs at m_46 q_47
                  try simp only [q_47] at m_46
                  try simp only [q_47] at h_44
                  try simp -implicitDefEqProofs +decide (maxSteps := 2000000) [-selQ_sel, hokQ_of, h_40, h_41, h_42, k_43, h_44, m_46, q_47]
                  have hr := (HS.some H).symm; subst hr
                  exact Hid.mk ⟨spec_l06Path_l1_S l79 x44 ((IntKind.i64.wrap (x85 + 1)), w93.b, w93.i, w93.h, l94), Wk.ofk [0, 1, 2, 3, 4] hk (by rfl) (by simp -implicitDefEqProofs [spec_l06Path_l1_S, h_40, h_41, h_42, k_43, h_44, m_46, q_47]) (by simp -implicitDefEqProofs [spec_l06Path_l1_S, h_40, h_41, h_42, k_43, h_44, m_46, q_47]), hR⟩
              · obtain ⟨y95, y96, y97, y98⟩ := q
                try dsimp only at H
                try simp -implicitDefEqProofs +decide (maxSteps := 2000000) [-selQ_sel, hokQ_of, h_9, k_10, h_11, h_12, k_13, h_14, h_30, g_31, h_32, h_33, h_34, h_35, m_37, q_38, spec_l06Path_l1_X]
                have hr := (HS.some H).symm; subst hr
                exact Hid.mk ⟨spec_l06Path_l3_S ((IntKind.i64.wrap (x44 + 1)), y95, y96, y97, l79, y98), Wk.ofk [0, 1, 2, 3, 4] hk (by rfl) (by simp -implicitDefEqProofs [spec_l06Path_l3_S, h_9, k_10, h_11, h_12, k_13, h_14, h_30, g_31, h_32, h_33, h_34, h_35, m_37, q_38]) (by simp -implicitDefEqProofs [spec_l06Path_l3_S, h_9, k_10, h_11, h_12, k_13, h_14, h_30, g_31, h_32, h_33, h_34, h_35, m_37, q_38]), hR⟩
            · replace H := HS.cnd_f h_34 H
              try simp -implicitDefEqProofs +decide (maxSteps := 2000000) [-selQ_sel, hokQ_of, h_9, k_10, h_11, h_12, k_13, h_14, h_30, g_31, h_32, h_33, h_34]
              have hr := (HS.some H).symm; subst hr
              exact Hid.mk ⟨(spec_l06Path_l3_X (.inr (w55.b, w55.i, w55.h, x48, x49))).2, Wk.ofk [0, 1, 3, 4] hk (by rfl) (by simp -implicitDefEqProofs [spec_l06Path_l3_X, h_9, k_10, h_11, h_12, k_13, h_14, h_30, g_31, h_32, h_33, h_34]) (by simp -implicitDefEqProofs [spec_l06Path_l3_X, h_9, k_10, h_11, h_12, k_13, h_14, h_30, g_31, h_32, h_33, h_34]), hR⟩
          · replace H := HS.cnd_f h_32 H
            try simp -implicitDefEqProofs +decide (maxSteps := 2000000) [-selQ_sel, hokQ_of, h_9, k_10, h_11, h_12, k_13, h_14, h_30, g_31, h_32]
            obtain ⟨v99, h_48, H⟩ := HS.bnd H
            try simp -implicitDefEqProofs +decide (maxSteps := 2000000) [-selQ_sel, hokQ_of, h_9, k_10, h_11, h_12, k_13, h_14, h_30, g_31, h_32, h_48]
            refine Hid.brV (fun h_49 => ?_) (fun h_49 => ?_)
            · replace H := HS.cnd_t h_49 H
              try simp -implicitDefEqProofs +decide (maxSteps := 2000000) [-selQ_sel, hokQ_of, h_9, k_10, h_11, h_12, k_13, h_14, h_30, g_31, h_32, h_48, h_49]
              obtain ⟨h_50, H⟩ := HS.chkP H
              try simp -implicitDefEqProofs +decide (maxSteps := 2000000) [-selQ_sel, hokQ_of, h_9, k_10, h_11, h_12, k_13, h_14, h_30, g_31, h_32, h_48, h_49, h_50]
              obtain ⟨l100, h_51, H⟩ := HS.nam H
              have m_52 := congrArg (List.map (AV.int .i64)) h_51
              have q_53 := congrArg List.length h_51
              simp -implicitDefEqProofs at m_52 q_53
              try simp only [q_53] at m_52
              try simp only [q_53] at h_50
              try simp -implicitDefEqProofs +decide (maxSteps := 2000000) [-selQ_sel, hokQ_of, h_9, k_10, h_11, h_12, k_13, h_14, h_30, g_31, h_32, h_48, h_49, h_50, m_52, q_53]
              obtain ⟨q, h_54, H⟩ := HS.bnd H
              refine Hid.mk (Tr.weak (s' := (spec_l06Path_l2_S l100 w54 x44) (0, w55.b, w55.i, w55.h, x49)) (Wk.ofk [0, 1, 2, 3, 4] hk (by rfl) (by simp -implicitDefEqProofs [spec_l06Path_l2_S, h_9, k_10, h_11, h_12, k_13, h_14, h_30, g_31, h_32, h_48, h_49, h_50, m_52, q_53]) (by simp -implicitDefEqProofs [spec_l06Path_l2_S, h_9, k_10, h_11, h_12, k_13, h_14, h_30, g_31, h_32, h_48, h_49, h_50, m_52, q_53])) ?_)
              refine wp_loop_of (S := (spec_l06Path_l2_S l100 w54 x44)) (f := (spec_l06Path_l2 l100 w54 x44)) (xt := (spec_l06Path_l2_X l100 w54 x44)) ?_ ?_ h_54 ?_
              · intro q; rcases q with ⟨y116, y117, y118, y119⟩ <;> simp [spec_l06Path_l2_X]
              · clear H h_54 q
                rintro ⟨x106, x107, x108, x109, x110⟩ o R hf hR
                have H : HS (spec_l06Path_l2 l100 w54 x44 (x106, x107, x108, x109, x110)) o := hf
                clear hf; unfold spec_l06Path_l2 at H
                try simp -implicitDefEqProofs at H
                refine Tr.of_vc (cl := tabC [(40, spec_l01Once_x), (42, spec_l01Below_x), (107, spec_RectPath_x), (72, spec_l01PickInt_x), (108, spec_NeedOf_x), (109, spec_l04Point_x)]) (E := E0) [] (tab_cons k_spec_l01Once (tab_cons k_spec_l01Below (tab_cons k_spec_RectPath (tab_cons k_spec_l01PickInt (tab_cons k_spec_NeedOf (tab_cons k_spec_l04Point tab_nil)))))) hm (by rw [hn]; decide +kernel) ?_
                try simp -implicitDefEqProofs +decide (maxSteps := 2000000) [-selQ_sel, hokQ_of, spec_l06Path_l2_S]
                obtain ⟨v111, h_55, H⟩ := HS.bnd H
                try simp -implicitDefEqProofs +decide (maxSteps := 2000000) [-selQ_sel, hokQ_of, h_55]
                refine Hid.brV (fun h_56 => ?_) (fun h_56 => ?_)
                · replace H := HS.cnd_t h_56 H
                  try simp -implicitDefEqProofs +decide (maxSteps := 2000000) [-selQ_sel, hokQ_of, h_55, h_56]
                  have hr := (HS.some H).symm; subst hr
                  exact Hid.mk ⟨(spec_l06Path_l2_X l100 w54 x44 (x107, x108, x109, x110)).2, Wk.ofk [0, 1, 2, 3, 4] hk (by rfl) (by simp -implicitDefEqProofs [spec_l06Path_l2_X, h_55, h_56]) (by simp -implicitDefEqProofs [spec_l06Path_l2_X, h_55, h_56]), hR⟩
                · replace H := HS.cnd_f h_56 H
                  try simp -implicitDefEqProofs +decide (maxSteps := 2000000) [-selQ_sel, hokQ_of, h_55, h_56]
                  obtain ⟨⟨w113, w114⟩, h_57, H⟩ := HS.bnd H
                  dsimp only at H
                  have k_58 := spec_l04Point_k ((TL01Cur.mk x107 x108 x109).b) ((TL01Cur.mk x107 x108 x109).i) ((TL01Cur.mk x107 x108 x109).h)
                  simp -implicitDefEqProofs [-spec_l04Point_k] at k_58
                  try simp -implicitDefEqProofs +decide (maxSteps := 2000000) [-selQ_sel, hokQ_of, h_55, h_56, h_57, k_58]
                  obtain ⟨h_59, H⟩ := HS.chkP H
                  try simp -implicitDefEqProofs +decide (maxSteps := 2000000) [-selQ_sel, hokQ_of, h_55, h_56, h_57, k_58, h_59]
                  obtain ⟨l115, h_60, H⟩ := HS.nam H
                  have m_61 := congrArg (List.map ePoint) h_60
                  have q_62 := congrArg List.length h_60
                  simp -implicitDefEqProofs at m_61 q_62
                  try simp only [q_62] at m_61
                  try simp only [q_62] at h_59
                  try simp -implicitDefEqProofs +decide (maxSteps := 2000000) [-selQ_sel, hokQ_of, h_55, h_56, h_57, k_58, h_59, m_61, q_62]
                  have hr := (HS.some H).symm; subst hr
                  exact Hid.mk ⟨spec_l06Path_l2_S l100 w54 x44 ((IntKind.i64.wrap (x106 + 1)), w114.b, w114.i, w114.h, l115), Wk.ofk [0, 1, 2, 3, 4] hk (by rfl) (by simp -implicitDefEqProofs [spec_l06Path_l2_S, h_55, h_56, h_57, k_58, h_59, m_61, q_62]) (by simp -implicitDefEqProofs [spec_l06Path_l2_S, h_55, h_56, h_57, k_58, h_59, m_61, q_62]), hR⟩
              · obtain ⟨y116, y117, y118, y119⟩ := q
                try dsimp only at H
                try simp -implicitDefEqProofs +decide (maxSteps := 2000000) [-selQ_sel, hokQ_of, h_9, k_10, h_11, h_12, k_13, h_14, h_30, g_31, h_32, h_48, h_49, h_50, m_52, q_53, spec_l06Path_l2_X]
                have hr := (HS.some H).symm; subst hr
                exact Hid.mk ⟨spec_l06Path_l3_S ((IntKind.i64.wrap (x44 + 1)), y116, y117, y118, l100, y119), Wk.ofk [0, 1, 2, 3, 4] hk (by rfl) (by simp -implicitDefEqProofs [spec_l06Path_l3_S, h_9, k_10, h_11, h_12, k_13, h_14, h_30, g_31, h_32, h_48, h_49, h_50, m_52, q_53]) (by simp -implicitDefEqProofs [spec_l06Path_l3_S, h_9, k_10, h_11, h_12, k_13, h_14, h_30, g_31, h_32, h_48, h_49, h_50, m_52, q_53]), hR⟩
            · replace H := HS.cnd_f h_49 H
              try simp -implicitDefEqProofs +decide (maxSteps := 2000000) [-selQ_sel, hokQ_of, h_9, k_10, h_11, h_12, k_13, h_14, h_30, g_31, h_32, h_48, h_49]
              have hr := (HS.some H).symm; subst hr
              exact Hid.mk ⟨(spec_l06Path_l3_X (.inr (w55.b, w55.i, w55.h, x48, x49))).2, Wk.ofk [0, 1, 3, 4] hk (by rfl) (by simp -implicitDefEqProofs [spec_l06Path_l3_X, h_9, k_10, h_11, h_12, k_13, h_14, h_30, g_31, h_32, h_48, h_49]) (by simp -implicitDefEqProofs [spec_l06Path_l3_X, h_9, k_10, h_11, h_12, k_13, h_14, h_30, g_31, h_32, h_48, h_49]), hR⟩
    · rcases q with ⟨y120, y121, y122, y123, y124⟩ | ⟨y125, y126, y127, y128, y129⟩
      · dsimp only at H
        try simp -implicitDefEqProofs +decide (maxSteps := 2000000) [-selQ_sel, hokQ_of, h_1, h_2, spec_l06Path_l3_X]
        have hr := (HS.some H).symm; subst hr
        refine Hid.mk ⟨⟨[(2, AV.optr 1 0 2)], [(0, Ob.box [AV.fsl (List.map (AV.int .u8) y120), AV.int .i64 y121, AV.int .i64 y122]), (1, Ob.box [AV.osl 2 0 (List.length y123) (List.length y123), AV.osl 3 0 (List.length y124) (List.length y124)]), (2, Ob.arr 1 (List.map (AV.int .i64) y123) false), (3, Ob.arr 2 (List.map ePoint y124) false)], 4⟩, Wk.ofk [0, 1, 3, 4] hk (by rfl) (by simp -implicitDefEqProofs [h_1, h_2]) (by simp -implicitDefEqProofs [h_1, h_2]), ?_⟩
        try simp -implicitDefEqProofs +decide (maxSteps := 2000000) [-selQ_sel, hokQ_of, h_1, h_2]
      · dsimp only at H
        try simp -implicitDefEqProofs +decide (maxSteps := 2000000) [-selQ_sel, hokQ_of, h_1, h_2, spec_l06Path_l3_X]
        have hr := (HS.some H).symm; subst hr
        refine Hid.mk ⟨⟨[(2, AV.optr 1 0 2)], [(0, Ob.box [AV.fsl (List.map (AV.int .u8) y125), AV.int .i64 y126, AV.int .i64 y127]), (1, Ob.box [AV.osl 2 0 (List.length y128) (List.length y128), AV.osl 3 0 (List.length y129) (List.length y129)]), (2, Ob.arr 1 (List.map (AV.int .i64) y128) false), (3, Ob.arr 2 (List.map ePoint y129) false)], 4⟩, Wk.ofk [0, 1, 2, 3] hk (by rfl) (by simp -implicitDefEqProofs [h_1, h_2]) (by simp -implicitDefEqProofs [h_1, h_2]), ?_⟩
        try simp -implicitDefEqProofs +decide (maxSteps := 2000000) [-selQ_sel, hokQ_of, h_1, h_2]
theorem impl_NodeOk_ok0 (hm : Try.prog.follows .mixedOrders = true) (k_impl_inRange : Sound Try.prog 56 impl_inRange_x) (k_impl_MatOk : Sound Try.prog 82 impl_MatOk_x) (k_impl_PathOk : Sound Try.prog 83 impl_PathOk_x) (k_impl_DashOk : Sound Try.prog 84 impl_DashOk_x) (k_impl_isMode : Sound Try.prog 85 impl_isMode_x) (k_impl_isByte : Sound Try.prog 86 impl_isByte_x) (k_impl_Path_isNone : Sound Try.prog 87 impl_Path_isNone_x) (k_impl_PaintOk : Sound Try.prog 88 impl_PaintOk_x) : Sound Try.prog 45 impl_NodeOk_x := by
  refine xOf_sound fun q r h => ?_
  revert h; revert r; revert q; intro a0 r h
  refine fn_ok E0 hm Try.func45 rfl (by decide +kernel) (by rfl) fun Γ hn hk => ?_
  dsimp only [impl_NodeOk_e, impl_NodeOk_v]
  replace hn : Γ.n = 90 := hn
  replace hk : Γ.k = 0 := hk
  have H : HS (impl_NodeOk a0) r := h
  clear h; unfold impl_NodeOk at H
  try simp -implicitDefEqProofs at H
  refine Tr.of_vc (cl := tabC [(56, impl_inRange_x), (82, impl_MatOk_x), (83, impl_PathOk_x), (84, impl_DashOk_x), (85, impl_isMode_x), (86, impl_isByte_x), (87, impl_Path_isNone_x), (88, impl_PaintOk_x)]) (E := E0) [] (tab_cons k_impl_inRange (tab_cons k_impl_MatOk (tab_cons k_impl_PathOk (tab_cons k_impl_DashOk (tab_cons k_impl_isMode (tab_cons k_impl_isByte (tab_cons k_impl_Path_isNone (tab_cons k_impl_PaintOk tab_nil)))))))) hm (by rw [hn]; decide +kernel) ?_
  try simp -implicitDefEqProofs (maxSteps := 2000000) [-selQ_sel]
  obtain ⟨v1, h_1, H⟩ := HS.bnd H
  try simp -implicitDefEqProofs (maxSteps := 2000000) [-selQ_sel, h_1]
  refine Hid.selQ (fun h_2 => ?_) (fun h_2 => ?_)
  · replace H := HS.cnd_t h_2 H
    try simp -implicitDefEqProofs (maxSteps := 2000000) [-selQ_sel, h_1, h_2]
    obtain ⟨v2, h_3, H⟩ := HS.bnd H
    try simp -implicitDefEqProofs (maxSteps := 2000000) [-selQ_sel, h_1, h_2, h_3]
    refine Hid.selQ (fun h_4 => ?_) (fun h_4 => ?_)
    · replace H := HS.cnd_t h_4 H
      try simp -implicitDefEqProofs (maxSteps := 2000000) [-selQ_sel, h_1, h_2, h_3, h_4]
      refine Hid.selQ (fun h_5 => ?_) (fun h_5 => ?_)
      · replace H := HS.cnd_t h_5 H
        try simp -implicitDefEqProofs (maxSteps := 2000000) [-selQ_sel, h_1, h_2, h_3, h_4, h_5]
        have hr := (HS.some H).symm; subst hr
        refine Hid.mk ⟨_, Wk.refl _, ?_⟩
        try simp -implicitDefEqProofs (maxSteps := 2000000) [-selQ_sel, h_1, h_2, h_3, h_4, h_5]
      · replace H := HS.cnd_f h_5 H
        try simp -implicitDefEqProofs (maxSteps := 2000000) [-selQ_sel, h_1, h_2, h_3, h_4, h_5]
        obtain ⟨v3, h_6, H⟩ := HS.bnd H
        try simp -implicitDefEqProofs (maxSteps := 2000000) [-selQ_sel, h_1, h_2, h_3, h_4, h_5, h_6]
        refine Hid.selQ (fun h_7 => ?_) (fun h_7 => ?_)
        · replace H := HS.cnd_t h_7 H
          try simp -implicitDefEqProofs (maxSteps := 2000000) [-selQ_sel, h_1, h_2, h_3, h_4, h_5, h_6, h_7]
          obtain ⟨v4, h_8, H⟩ := HS.bnd H
          try simp -implicitDefEqProofs (maxSteps := 2000000) [-selQ_sel, h_1, h_2, h_3, h_4, h_5, h_6, h_7, h_8]
          refine Hid.selQ (fun h_9 => ?_) (fun h_9 => ?_)
          · replace H := HS.cnd_t h_9 H
            try simp -implicitDefEqProofs (maxSteps := 2000000) [-selQ_sel, h_1, h_2, h_3, h_4, h_5, h_6, h_7, h_8, h_9]
            obtain ⟨v5, h_10, H⟩ := HS.bnd H
            try simp -implicitDefEqProofs (maxSteps := 2000000) [-selQ_sel, h_1, h_2, h_3, h_4, h_5, h_6, h_7, h_8, h_9, h_10]
            refine Hid.brV (fun h_11 => ?_) (fun h_11 => ?_)
            · replace H := HS.cnd_t h_11 H
              try simp -implicitDefEqProofs (maxSteps := 2000000) [-selQ_sel, h_1, h_2, h_3, h_4, h_5, h_6, h_7, h_8, h_9, h_10, h_11]
              obtain ⟨v6, h_12, H⟩ := HS.bnd H
              try simp -implicitDefEqProofs (maxSteps := 2000000) [-selQ_sel, h_1, h_2, h_3, h_4, h_5, h_6, h_7, h_8, h_9, h_10, h_11, h_12]
              refine Hid.selQ (fun h_13 => ?_) (fun h_13 => ?_)
              · replace H := HS.cnd_t h_13 H
                try simp -implicitDefEqProofs (maxSteps := 2000000) [-selQ_sel, h_1, h_2, h_3, h_4, h_5, h_6, h_7, h_8, h_9, h_10, h_11, h_12, h_13]
                obtain ⟨v7, h_14, H⟩ := HS.bnd H
                try simp -implicitDefEqProofs (maxSteps := 2000000) [-selQ_sel, h_1, h_2, h_3, h_4, h_5, h_6, h_7, h_8, h_9, h_10, h_11, h_12, h_13, h_14]
                refine Hid.selQ (fun h_15 => ?_) (fun h_15 => ?_)
                · replace H := HS.cnd_t h_15 H
                  try simp -implicitDefEqProofs (maxSteps := 2000000) [-selQ_sel, h_1, h_2, h_3, h_4, h_5, h_6, h_7, h_8, h_9, h_10, h_11, h_12, h_13, h_14, h_15]
                  obtain ⟨v8, h_16, H⟩ := HS.bnd H
                  try simp -implicitDefEqProofs (maxSteps := 2000000) [-selQ_sel, h_1, h_2, h_3, h_4, h_5, h_6, h_7, h_8, h_9, h_10, h_11, h_12, h_13, h_14, h_15, h_16]
                  refine Hid.selQ (fun h_17 => ?_) (fun h_17 => ?_)
                  · replace H := HS.cnd_t h_17 H
                    try simp -implicitDefEqProofs (maxSteps := 2000000) [-selQ_sel, h_1, h_2, h_3, h_4, h_5, h_6, h_7, h_8, h_9, h_10, h_11, h_12, h_13, h_14, h_15, h_16, h_17]
                    obtain ⟨v9, h_18, H⟩ := HS.bnd H
                    try simp -implicitDefEqProofs (maxSteps := 2000000) [-selQ_sel, h_1, h_2, h_3, h_4, h_5, h_6, h_7, h_8, h_9, h_10, h_11, h_12, h_13, h_14, h_15, h_16, h_17, h_18]
                    refine Hid.brV (fun h_19 => ?_) (fun h_19 => ?_)
                    · replace H := HS.cnd_t h_19 H
                      try simp -implicitDefEqProofs (maxSteps := 2000000) [-selQ_sel, h_1, h_2, h_3, h_4, h_5, h_6, h_7, h_8, h_9, h_10, h_11, h_12, h_13, h_14, h_15, h_16, h_17, h_18, h_19]
                      refine Hid.brV (fun h_20 => ?_) (fun h_20 => ?_)
                      · replace H := HS.cnd_t h_20 H
                        try simp -implicitDefEqProofs (maxSteps := 2000000) [-selQ_sel, h_1, h_2, h_3, h_4, h_5, h_6, h_7, h_8, h_9, h_10, h_11, h_12, h_13, h_14, h_15, h_16, h_17, h_18, h_19, h_20]
                        refine Hid.selQ (fun h_21 => ?_) (fun h_21 => ?_)
                        · replace H := HS.cnd_t h_21 H
                          try simp -implicitDefEqProofs (maxSteps := 2000000) [-selQ_sel, h_1, h_2, h_3, h_4, h_5, h_6, h_7, h_8, h_9, h_10, h_11, h_12, h_13, h_14, h_15, h_16, h_17, h_18, h_19, h_20, h_21]
                          obtain ⟨v10, h_22, H⟩ := HS.bnd H
                          try simp -implicitDefEqProofs (maxSteps := 2000000) [-selQ_sel, h_1, h_2, h_3, h_4, h_5, h_6, h_7, h_8, h_9, h_10, h_11, h_12, h_13, h_14, h_15, h_16, h_17, h_18, h_19, h_20, h_21, h_22]
                          refine Hid.selQ (fun h_23 => ?_) (fun h_23 => ?_)
                          · replace H := HS.cnd_t h_23 H
                            try simp -implicitDefEqProofs (maxSteps := 2000000) [-selQ_sel, h_1, h_2, h_3, h_4, h_5, h_6, h_7, h_8, h_9, h_10, h_11, h_12, h_13, h_14, h_15, h_16, h_17, h_18, h_19, h_20, h_21, h_22, h_23]
                            refine Hid.selQ (fun h_24 => ?_) (fun h_24 => ?_)
                            · replace H := HS.cnd_t h_24 H
                              try simp -implicitDefEqProofs (maxSteps := 2000000) [-selQ_sel, h_1, h_2, h_3, h_4, h_5, h_6, h_7, h_8, h_9, h_10, h_11, h_12, h_13, h_14, h_15, h_16, h_17, h_18, h_19, h_20, h_21, h_22, h_23, h_24]
                              refine Hid.selQ (fun h_25 => ?_) (fun h_25 => ?_)
                              · replace H := HS.cnd_t h_25 H
                                try simp -implicitDefEqProofs (maxSteps := 2000000) [-selQ_sel, h_1, h_2, h_3, h_4, h_5, h_6, h_7, h_8, h_9, h_10, h_11, h_12, h_13, h_14, h_15, h_16, h_17, h_18, h_19, h_20, h_21, h_22, h_23, h_24, h_25]
                                have hr := (HS.some H).symm; subst hr
                                refine Hid.mk ⟨_, Wk.refl _, ?_⟩
                                try simp -implicitDefEqProofs (maxSteps := 2000000) [-selQ_sel, h_1, h_2, h_3, h_4, h_5, h_6, h_7, h_8, h_9, h_10, h_11, h_12, h_13, h_14, h_15, h_16, h_17, h_18, h_19, h_20, h_21, h_22, h_23, h_24, h_25]
                              · replace H := HS.cnd_f h_25 H
                                try simp -implicitDefEqProofs (maxSteps := 2000000) [-selQ_sel, h_1, h_2, h_3, h_4, h_5, h_6, h_7, h_8, h_9, h_10, h_11, h_12, h_13, h_14, h_15, h_16, h_17, h_18, h_19, h_20, h_21, h_22, h_23, h_24, h_25]
                                have hr := (HS.some H).symm; subst hr
                                refine Hid.mk ⟨_, Wk.refl _, ?_⟩
                                try simp -implicitDefEqProofs (maxSteps := 2000000) [-selQ_sel, h_1, h_2, h_3, h_4, h_5, h_6, h_7, h_8, h_9, h_10, h_11, h_12, h_13, h_14, h_15, h_16, h_17, h_18, h_19, h_20, h_21, h_22, h_23, h_24, h_25]
                            · replace H := HS.cnd_f h_24 H
                              try simp -implicitDefEqProofs (maxSteps := 2000000) [-selQ_sel, h_1, h_2, h_3, h_4, h_5, h_6, h_7, h_8, h_9, h_10, h_11, h_12, h_13, h_14, h_15, h_16, h_17, h_18, h_19, h_20, h_21, h_22, h_23, h_24]
                              have hr := (HS.some H).symm; subst hr
                              refine Hid.mk ⟨_, Wk.refl _, ?_⟩
                              try simp -implicitDefEqProofs (maxSteps := 2000000) [-selQ_sel, h_1, h_2, h_3, h_4, h_5, h_6, h_7, h_8, h_9, h_10, h_11, h_12, h_13, h_14, h_15, h_16, h_17, h_18, h_19, h_20, h_21, h_22, h_23, h_24]
                          · replace H := HS.cnd_f h_23 H
                            try simp -implicitDefEqProofs (maxSteps := 2000000) [-selQ_sel, h_1, h_2, h_3, h_4, h_5, h_6, h_7, h_8, h_9, h_10, h_11, h_12, h_13, h_14, h_15, h_16, h_17, h_18, h_19, h_20, h_21, h_22, h_23]
                            have hr := (HS.some H).symm; subst hr
                            refine Hid.mk ⟨_, Wk.refl _, ?_⟩
                            try simp -implicitDefEqProofs (maxSteps := 2000000) [-selQ_sel, h_1, h_2, h_3, h_4, h_5, h_6, h_7, h_8, h_9, h_10, h_11, h_12, h_13, h_14, h_15, h_16, h_17, h_18, h_19, h_20, h_21, h_22, h_23]
                        · replace H := HS.cnd_f h_21 H
                          try simp -implicitDefEqProofs (maxSteps := 2000000) [-selQ_sel, h_1, h_2, h_3, h_4, h_5, h_6, h_7, h_8, h_9, h_10, h_11, h_12, h_13, h_14, h_15, h_16, h_17, h_18, h_19, h_20, h_21]
                          have hr := (HS.some H).symm; subst hr
                          refine Hid.mk ⟨_, Wk.refl _, ?_⟩
                          try simp -implicitDefEqProofs (maxSteps := 2000000) [-selQ_sel, h_1, h_2, h_3, h_4, h_5, h_6, h_7, h_8, h_9, h_10, h_11, h_12, h_13, h_14, h_15, h_16, h_17, h_18, h_19, h_20, h_21]
                      · replace H := HS.cnd_f h_20 H
                        try simp -implicitDefEqProofs (maxSteps := 2000000) [-selQ_sel, h_1, h_2, h_3, h_4, h_5, h_6, h_7, h_8, h_9, h_10, h_11, h_12, h_13, h_14, h_15, h_16, h_17, h_18, h_19, h_20]
                        obtain ⟨v11, h_26, H⟩ := HS.bnd H
                        try simp -implicitDefEqProofs (maxSteps := 2000000) [-selQ_sel, h_1, h_2, h_3, h_4, h_5, h_6, h_7, h_8, h_9, h_10, h_11, h_12, h_13, h_14, h_15, h_16, h_17, h_18, h_19, h_20, h_26]
                        have hr := (HS.some H).symm; subst hr
                        refine Hid.mk ⟨_, Wk.refl _, ?_⟩
                        try simp -implicitDefEqProofs (maxSteps := 2000000) [-selQ_sel, h_1, h_2, h_3, h_4, h_5, h_6, h_7, h_8, h_9, h_10, h_11, h_12, h_13, h_14, h_15, h_16, h_17, h_18, h_19, h_20, h_26]
                    · replace H := HS.cnd_f h_19 H
                      try simp -implicitDefEqProofs (maxSteps := 2000000) [-selQ_sel, h_1, h_2, h_3, h_4, h_5, h_6, h_7, h_8, h_9, h_10, h_11, h_12, h_13, h_14, h_15, h_16, h_17, h_18, h_19]
                      have hr := (HS.some H).symm; subst hr
                      refine Hid.mk ⟨_, Wk.refl _, ?_⟩
                      try simp -implicitDefEqProofs (maxSteps := 2000000) [-selQ_sel, h_1, h_2, h_3, h_4, h_5, h_6, h_7, h_8, h_9, h_10, h_11, h_12, h_13, h_14, h_15, h_16, h_17, h_18, h_19]
                  · replace H := HS.cnd_f h_17 H
                    try simp -implicitDefEqProofs (maxSteps := 2000000) [-selQ_sel, h_1, h_2, h_3, h_4, h_5, h_6, h_7, h_8, h_9, h_10, h_11, h_12, h_13, h_14, h_15, h_16, h_17]
                    have hr := (HS.some H).symm; subst hr
                    refine Hid.mk ⟨_, Wk.refl _, ?_⟩
                    try simp -implicitDefEqProofs (maxSteps := 2000000) [-selQ_sel, h_1, h_2, h_3, h_4, h_5, h_6, h_7, h_8, h_9, h_10, h_11, h_12, h_13, h_14, h_15, h_16, h_17]
                · replace H := HS.cnd_f h_15 H
                  try simp -implicitDefEqProofs (maxSteps := 2000000) [-selQ_sel, h_1, h_2, h_3, h_4, h_5, h_6, h_7, h_8, h_9, h_10, h_11, h_12, h_13, h_14, h_15]
                  have hr := (HS.some H).symm; subst hr
                  refine Hid.mk ⟨_, Wk.refl _, ?_⟩
                  try simp -implicitDefEqProofs (maxSteps := 2000000) [-selQ_sel, h_1, h_2, h_3, h_4, h_5, h_6, h_7, h_8, h_9, h_10, h_11, h_12, h_13, h_14, h_15]
              · replace H := HS.cnd_f h_13 H
                try simp -implicitDefEqProofs (maxSteps := 2000000) [-selQ_sel, h_1, h_2, h_3, h_4, h_5, h_6, h_7, h_8, h_9, h_10, h_11, h_12, h_13]
                have hr := (HS.some H).symm; subst hr
                refine Hid.mk ⟨_, Wk.refl _, ?_⟩
                try simp -implicitDefEqProofs (maxSteps := 2000000) [-selQ_sel, h_1, h_2, h_3, h_4, h_5, h_6, h_7, h_8, h_9, h_10, h_11, h_12, h_13]
            · replace H := HS.cnd_f h_11 H
              try simp -implicitDefEqProofs (maxSteps := 2000000) [-selQ_sel, h_1, h_2, h_3, h_4, h_5, h_6, h_7, h_8, h_9, h_10, h_11]
              have hr := (HS.some H).symm; subst hr
              refine Hid.mk ⟨_, Wk.refl _, ?_⟩
              try simp -implicitDefEqProofs (maxSteps := 2000000) [-selQ_sel, h_1, h_2, h_3, h_4, h_5, h_6, h_7, h_8, h_9, h_10, h_11]
          · replace H := HS.cnd_f h_9 H
            try simp -implicitDefEqProofs (maxSteps := 2000000) [-selQ_sel, h_1, h_2, h_3, h_4, h_5, h_6, h_7, h_8, h_9]
            have hr := (HS.some H).symm; subst hr
            refine Hid.mk ⟨_, Wk.refl _, ?_⟩
            try simp -implicitDefEqProofs (maxSteps := 2000000) [-selQ_sel, h_1, h_2, h_3, h_4, h_5, h_6, h_7, h_8, h_9]
        · replace H := HS.cnd_f h_7 H
          try simp -implicitDefEqProofs (maxSteps := 2000000) [-selQ_sel, h_1, h_2, h_3, h_4, h_5, h_6, h_7]
          have hr := (HS.some H).symm; subst hr
          refine Hid.mk ⟨_, Wk.refl _, ?_⟩
          try simp -implicitDefEqProofs (maxSteps := 2000000) [-selQ_sel, h_1, h_2, h_3, h_4, h_5, h_6, h_7]
    · replace H := HS.cnd_f h_4 H
      try simp -implicitDefEqProofs (maxSteps := 2000000) [-selQ_sel, h_1, h_2, h_3, h_4]
      have hr := (HS.some H).symm; subst hr
      refine Hid.mk ⟨_, Wk.refl _, ?_⟩
      try simp -implicitDefEqProofs (maxSteps := 2000000) [-selQ_sel, h_1, h_2, h_3, h_4]
  · replace H := HS.cnd_f h_2 H
    try simp -implicitDefEqProofs (maxSteps := 2000000) [-selQ_sel, h_1, h_2]
    have hr := (HS.some H).symm; subst hr
    refine Hid.mk ⟨_, Wk.refl _, ?_⟩
    try simp -implicitDefEqProofs (maxSteps := 2000000) [-selQ_sel, h_1, h_2]
theorem spec_PathOk_ok0 (hm : Try.prog.follows .mixedOrders = true) (k_spec_NeedOf : Sound Try.prog 108 spec_NeedOf_x) (k_spec_PointOk : Sound Try.prog 117 spec_PointOk_x) : Sound Try.prog 93 spec_PathOk_x := by
  refine xOf_sound fun q r h => ?_
  revert h; revert r; revert q; intro a0 r h
  refine fn_ok E0 hm Try.func93 rfl (by decide +kernel) (by rfl) fun Γ hn hk => ?_
  dsimp only [spec_PathOk_e, spec_PathOk_v]
  replace hn : Γ.n = 75 := hn
  replace hk : Γ.k = 0 := hk
  have H : HS (spec_PathOk a0) r := h
  clear h; unfold spec_PathOk at H
  try simp -implicitDefEqProofs at H
  refine Tr.of_vc (cl := tabC [(108, spec_NeedOf_x), (117, spec_PointOk_x)]) (E := E0) [] (tab_cons k_spec_NeedOf (tab_cons k_spec_PointOk tab_nil)) hm (by rw [hn]; decide +kernel) ?_
  try simp -implicitDefEqProofs (maxSteps := 2000000) [-selQ_sel]
  refine Hid.selQ (fun h_1 => ?_) (fun h_1 => ?_)
  · replace H := HS.cnd_t h_1 H
    try simp -implicitDefEqProofs (maxSteps := 2000000) [-selQ_sel, h_1]
    refine Hid.brV (fun h_2 => ?_) (fun h_2 => ?_)
    · replace H := HS.cnd_t h_2 H
      try simp -implicitDefEqProofs (maxSteps := 2000000) [-selQ_sel, h_1, h_2]
      obtain ⟨q, h_3, H⟩ := HS.bnd H
      refine Hid.mk (Tr.weak (s' := (spec_PathOk_l0_S a0) (0, 0)) (Wk.ofk [0] hk (by rfl) (by simp -implicitDefEqProofs [spec_PathOk_l0_S, h_1, h_2]) (by simp -implicitDefEqProofs [spec_PathOk_l0_S, h_1, h_2])) ?_)
      refine wp_loop_of (S := (spec_PathOk_l0_S a0)) (f := (spec_PathOk_l0 a0)) (xt := (spec_PathOk_l0_X a0)) ?_ ?_ h_3 ?_
      · intro q; rcases q with y8 | ⟨⟩ <;> simp [spec_PathOk_l0_X]
      · clear H h_3 q
        rintro ⟨x3, x4⟩ o R hf hR
        have H : HS (spec_PathOk_l0 a0 (x3, x4)) o := hf
        clear hf; unfold spec_PathOk_l0 at H
        try simp -implicitDefEqProofs at H
        refine Tr.of_vc (cl := tabC [(108, spec_NeedOf_x), (117, spec_PointOk_x)]) (E := E0) [] (tab_cons k_spec_NeedOf (tab_cons k_spec_PointOk tab_nil)) hm (by rw [hn]; decide +kernel) ?_
        try simp -implicitDefEqProofs (maxSteps := 2000000) [-selQ_sel, spec_PathOk_l0_S]
        refine Hid.brV (fun h_4 => ?_) (fun h_4 => ?_)
        · replace H := HS.cnd_t h_4 H
          try simp -implicitDefEqProofs (maxSteps := 2000000) [-selQ_sel, h_4]
          have hr := (HS.some H).symm; subst hr
          exact Hid.mk ⟨(spec_PathOk_l0_X a0 (.inl x3)).2, Wk.ofk [0] hk (by rfl) (by simp -implicitDefEqProofs [spec_PathOk_l0_X, h_4]) (by simp -implicitDefEqProofs [spec_PathOk_l0_X, h_4]), hR⟩
        · replace H := HS.cnd_f h_4 H
          try simp -implicitDefEqProofs (maxSteps := 2000000) [-selQ_sel, h_4]
          obtain ⟨v5, h_5, H⟩ := HS.bnd H
          try simp -implicitDefEqProofs (maxSteps := 2000000) [-selQ_sel, h_4, h_5]
          obtain ⟨v6, h_6, H⟩ := HS.bnd H
          try simp -implicitDefEqProofs (maxSteps := 2000000) [-selQ_sel, h_4, h_5, h_6]
          refine Hid.selQ (fun h_7 => ?_) (fun h_7 => ?_)
          · replace H := HS.cnd_t h_7 H
            try simp -implicitDefEqProofs (maxSteps := 2000000) [-selQ_sel, h_4, h_5, h_6, h_7]
            refine Hid.selQ (fun h_8 => ?_) (fun h_8 => ?_)
            · replace H := HS.cnd_t h_8 H
              try simp -implicitDefEqProofs (maxSteps := 2000000) [-selQ_sel, h_4, h_5, h_6, h_7, h_8]
              refine Hid.brV (fun h_9 => ?_) (fun h_9 => ?_)
              · replace H := HS.cnd_t h_9 H
                try simp -implicitDefEqProofs (maxSteps := 2000000) [-selQ_sel, h_4, h_5, h_6, h_7, h_8, h_9]
                have hr := (HS.some H).symm; subst hr
                exact Hid.mk ⟨spec_PathOk_l0_S a0 ((IntKind.i64.wrap (x3 + v6)), (IntKind.i64.wrap (x4 + 1))), Wk.ofk [0] hk (by rfl) (by simp -implicitDefEqProofs [spec_PathOk_l0_S, h_4, h_5, h_6, h_7, h_8, h_9]) (by simp -implicitDefEqProofs [spec_PathOk_l0_S, h_4, h_5, h_6, h_7, h_8, h_9]), hR⟩
              · replace H := HS.cnd_f h_9 H
                try simp -implicitDefEqProofs (maxSteps := 2000000) [-selQ_sel, h_4, h_5, h_6, h_7, h_8, h_9]
                have hr := (HS.some H).symm; subst hr
                exact Hid.mk ⟨(spec_PathOk_l0_X a0 (.inr ())).2, Wk.ofk [] hk (by rfl) (by simp -implicitDefEqProofs [spec_PathOk_l0_X, h_4, h_5, h_6, h_7, h_8, h_9]) (by simp -implicitDefEqProofs [spec_PathOk_l0_X, h_4, h_5, h_6, h_7, h_8, h_9]), hR⟩
            · replace H := HS.cnd_f h_8 H
              try simp -implicitDefEqProofs (maxSteps := 2000000) [-selQ_sel, h_4, h_5, h_6, h_7, h_8]
              obtain ⟨v7, h_10, H⟩ := HS.bnd H
              try simp -implicitDefEqProofs (maxSteps := 2000000) [-selQ_sel, h_4, h_5, h_6, h_7, h_8, h_10]
              refine Hid.selQ (fun h_11 => ?_) (fun h_11 => ?_)
              · replace H := HS.cnd_t h_11 H
                try simp -implicitDefEqProofs (maxSteps := 2000000) [-selQ_sel, h_4, h_5, h_6, h_7, h_8, h_10, h_11]
                refine Hid.brV (fun h_12 => ?_) (fun h_12 => ?_)
                · replace H := HS.cnd_t h_12 H
                  try simp -implicitDefEqProofs (maxSteps := 2000000) [-selQ_sel, h_4, h_5, h_6, h_7, h_8, h_10, h_11, h_12]
                  have hr := (HS.some H).symm; subst hr
                  exact Hid.mk ⟨spec_PathOk_l0_S a0 ((IntKind.i64.wrap (x3 + v6)), (IntKind.i64.wrap (x4 + 1))), Wk.ofk [0] hk (by rfl) (by simp -implicitDefEqProofs [spec_PathOk_l0_S, h_4, h_5, h_6, h_7, h_8, h_10, h_11, h_12]) (by simp -implicitDefEqProofs [spec_PathOk_l0_S, h_4, h_5, h_6, h_7, h_8, h_10, h_11, h_12]), hR⟩
                · replace H := HS.cnd_f h_12 H
                  try simp -implicitDefEqProofs (maxSteps := 2000000) [-selQ_sel, h_4, h_5, h_6, h_7, h_8, h_10, h_11, h_12]
                  have hr := (HS.some H).symm; subst hr
                  exact Hid.mk ⟨(spec_PathOk_l0_X a0 (.inr ())).2, Wk.ofk [] hk (by rfl) (by simp -implicitDefEqProofs [spec_PathOk_l0_X, h_4, h_5, h_6, h_7, h_8, h_10, h_11, h_12]) (by simp -implicitDefEqProofs [spec_PathOk_l0_X, h_4, h_5, h_6, h_7, h_8, h_10, h_11, h_12]), hR⟩
              · replace H := HS.cnd_f h_11 H
                try simp -implicitDefEqProofs (maxSteps := 2000000) [-selQ_sel, h_4, h_5, h_6, h_7, h_8, h_10, h_11]
                have hr := (HS.some H).symm; subst hr
                exact Hid.mk ⟨spec_PathOk_l0_S a0 ((IntKind.i64.wrap (x3 + v6)), (IntKind.i64.wrap (x4 + 1))), Wk.ofk [0] hk (by rfl) (by simp -implicitDefEqProofs [spec_PathOk_l0_S, h_4, h_5, h_6, h_7, h_8, h_10, h_11]) (by simp -implicitDefEqProofs [spec_PathOk_l0_S, h_4, h_5, h_6, h_7, h_8, h_10, h_11]), hR⟩
          · replace H := HS.cnd_f h_7 H
            try simp -implicitDefEqProofs (maxSteps := 2000000) [-selQ_sel, h_4, h_5, h_6, h_7]
            have hr := (HS.some H).symm; subst hr
            exact Hid.mk ⟨(spec_PathOk_l0_X a0 (.inr ())).2, Wk.ofk [] hk (by rfl) (by simp -implicitDefEqProofs [spec_PathOk_l0_X, h_4, h_5, h_6, h_7]) (by simp -implicitDefEqProofs [spec_PathOk_l0_X, h_4, h_5, h_6, h_7]), hR⟩
      · rcases q with y8 | ⟨⟩
        · dsimp only at H
          try simp -implicitDefEqProofs (maxSteps := 2000000) [-selQ_sel, h_1, h_2, spec_PathOk_l0_X]
          obtain ⟨q, h_13, H⟩ := HS.bnd H
          refine Hid.mk (Tr.weak (s' := (spec_PathOk_l1_S a0 y8) 0) (Wk.ofk [0] hk (by rfl) (by simp -implicitDefEqProofs [spec_PathOk_l1_S, h_1, h_2]) (by simp -implicitDefEqProofs [spec_PathOk_l1_S, h_1, h_2])) ?_)
          refine wp_loop_of (S := (spec_PathOk_l1_S a0 y8)) (f := (spec_PathOk_l1 a0 y8)) (xt := (spec_PathOk_l1_X a0 y8)) ?_ ?_ h_13 ?_
          · intro q; rcases q with ⟨⟩ | ⟨⟩ <;> simp [spec_PathOk_l1_X]
          · clear H h_13 q
            rintro x11 o R hf hR
            have H : HS (spec_PathOk_l1 a0 y8 x11) o := hf
            clear hf; unfold spec_PathOk_l1 at H
            try simp -implicitDefEqProofs at H
            refine Tr.of_vc (cl := tabC [(108, spec_NeedOf_x), (117, spec_PointOk_x)]) (E := E0) [] (tab_cons k_spec_NeedOf (tab_cons k_spec_PointOk tab_nil)) hm (by rw [hn]; decide +kernel) ?_
            try simp -implicitDefEqProofs (maxSteps := 2000000) [-selQ_sel, spec_PathOk_l1_S]
            refine Hid.brV (fun h_14 => ?_) (fun h_14 => ?_)
            · replace H := HS.cnd_t h_14 H
              try simp -implicitDefEqProofs (maxSteps := 2000000) [-selQ_sel, h_14]
              have hr := (HS.some H).symm; subst hr
              exact Hid.mk ⟨(spec_PathOk_l1_X a0 y8 (.inl ())).2, Wk.ofk [0] hk (by rfl) (by simp -implicitDefEqProofs [spec_PathOk_l1_X, h_14]) (by simp -implicitDefEqProofs [spec_PathOk_l1_X, h_14]), hR⟩
            · replace H := HS.cnd_f h_14 H
              try simp -implicitDefEqProofs (maxSteps := 2000000) [-selQ_sel, h_14]
              obtain ⟨v12, h_15, H⟩ := HS.bnd H
              try simp -implicitDefEqProofs (maxSteps := 2000000) [-selQ_sel, h_14, h_15]
              obtain ⟨v13, h_16, H⟩ := HS.bnd H
              try simp -implicitDefEqProofs (maxSteps := 2000000) [-selQ_sel, h_14, h_15, h_16]
              refine Hid.brV (fun h_17 => ?_) (fun h_17 => ?_)
              · replace H := HS.cnd_t h_17 H
                try simp -implicitDefEqProofs (maxSteps := 2000000) [-selQ_sel, h_14, h_15, h_16, h_17]
                have hr := (HS.some H).symm; subst hr
                exact Hid.mk ⟨spec_PathOk_l1_S a0 y8 (IntKind.i64.wrap (x11 + 1)), Wk.ofk [0] hk (by rfl) (by simp -implicitDefEqProofs [spec_PathOk_l1_S, h_14, h_15, h_16, h_17]) (by simp -implicitDefEqProofs [spec_PathOk_l1_S, h_14, h_15, h_16, h_17]), hR⟩
              · replace H := HS.cnd_f h_17 H
                try simp -implicitDefEqProofs (maxSteps := 2000000) [-selQ_sel, h_14, h_15, h_16, h_17]
                have hr := (HS.some H).symm; subst hr
                exact Hid.mk ⟨(spec_PathOk_l1_X a0 y8 (.inr ())).2, Wk.ofk [] hk (by rfl) (by simp -implicitDefEqProofs [spec_PathOk_l1_X, h_14, h_15, h_16, h_17]) (by simp -implicitDefEqProofs [spec_PathOk_l1_X, h_14, h_15, h_16, h_17]), hR⟩
          · rcases q with ⟨⟩ | ⟨⟩
            · dsimp only at H
              try simp -implicitDefEqProofs (maxSteps := 2000000) [-selQ_sel, h_1, h_2, spec_PathOk_l1_X]
              have hr := (HS.some H).symm; subst hr
              refine Hid.mk ⟨_, Wk.refl _, ?_⟩
              try simp -implicitDefEqProofs (maxSteps := 2000000) [-selQ_sel, h_1, h_2]
            · dsimp only at H
              try simp -implicitDefEqProofs (maxSteps := 2000000) [-selQ_sel, h_1, h_2, spec_PathOk_l1_X]
              have hr := (HS.some H).symm; subst hr
              refine Hid.mk ⟨_, Wk.refl _, ?_⟩
              try simp -implicitDefEqProofs (maxSteps := 2000000) [-selQ_sel, h_1, h_2]
        · dsimp only at H
          try simp -implicitDefEqProofs (maxSteps := 2000000) [-selQ_sel, h_1, h_2, spec_PathOk_l0_X]
          have hr := (HS.some H).symm; subst hr
          refine Hid.mk ⟨_, Wk.refl _, ?_⟩
          try simp -implicitDefEqProofs (maxSteps := 2000000) [-selQ_sel, h_1, h_2]
    · replace H := HS.cnd_f h_2 H
      try simp -implicitDefEqProofs (maxSteps := 2000000) [-selQ_sel, h_1, h_2]
      have hr := (HS.some H).symm; subst hr
      refine Hid.mk ⟨_, Wk.refl _, ?_⟩
      try simp -implicitDefEqProofs (maxSteps := 2000000) [-selQ_sel, h_1, h_2]
  · replace H := HS.cnd_f h_1 H
    try simp -implicitDefEqProofs (maxSteps := 2000000) [-selQ_sel, h_1]
    have hr := (HS.some H).symm; subst hr
    refine Hid.mk ⟨_, Wk.refl _, ?_⟩
    try simp -implicitDefEqProofs (maxSteps := 2000000) [-selQ_sel, h_1]
theorem spec_SceneOk_ok0 (hm : Try.prog.follows .mixedOrders = true) (k_spec_NodeOk : Sound Try.prog 50 spec_NodeOk_x) (k_spec_NodeAt : Sound Try.prog 15 spec_NodeAt_x) (k_spec_DepthOf : Sound Try.prog 91 spec_DepthOf_x) (k_spec_l01In : Sound Try.prog 58 spec_l01In_x) : Sound Try.prog 49 spec_SceneOk_x := by
  refine xOf_sound fun q r h => ?_
  revert h; revert r; revert q; intro a0 r h
  refine fn_ok E0 hm Try.func49 rfl (by decide +kernel) (by rfl) fun Γ hn hk => ?_
  dsimp only [spec_SceneOk_e, spec_SceneOk_v]
  replace hn : Γ.n = 61 := hn
  replace hk : Γ.k = 0 := hk
  have H : HS (spec_SceneOk a0) r := h
  clear h; unfold spec_SceneOk at H
  try simp -implicitDefEqProofs at H
  refine Tr.of_vc (cl := tabC [(50, spec_NodeOk_x), (15, spec_NodeAt_x), (91, spec_DepthOf_x), (58, spec_l01In_x)]) (E := E0) [] (tab_cons k_spec_NodeOk (tab_cons k_spec_NodeAt (tab_cons k_spec_DepthOf (tab_cons k_spec_l01In tab_nil)))) hm (by rw [hn]; decide +kernel) ?_
  try simp -implicitDefEqProofs (maxSteps := 2000000) [-selQ_sel]
  refine Hid.brV (fun h_1 => ?_) (fun h_1 => ?_)
  · replace H := HS.cnd_t h_1 H
    try simp -implicitDefEqProofs (maxSteps := 2000000) [-selQ_sel, h_1]
    obtain ⟨q, h_2, H⟩ := HS.bnd H
    refine Hid.mk (Tr.weak (s' := (spec_SceneOk_l0_S a0) 0) (Wk.ofk [0] hk (by rfl) (by simp -implicitDefEqProofs [spec_SceneOk_l0_S, h_1]) (by simp -implicitDefEqProofs [spec_SceneOk_l0_S, h_1])) ?_)
    refine wp_loop_of (S := (spec_SceneOk_l0_S a0)) (f := (spec_SceneOk_l0 a0)) (xt := (spec_SceneOk_l0_X a0)) ?_ ?_ h_2 ?_
    · intro q; rcases q with ⟨⟩ | ⟨⟩ <;> simp [spec_SceneOk_l0_X]
    · clear H h_2 q
      rintro x8 o R hf hR
      have H : HS (spec_SceneOk_l0 a0 x8) o := hf
      clear hf; unfold spec_SceneOk_l0 at H
      try simp -implicitDefEqProofs at H
      refine Tr.of_vc (cl := tabC [(50, spec_NodeOk_x), (15, spec_NodeAt_x), (91, spec_DepthOf_x), (58, spec_l01In_x)]) (E := E0) [] (tab_cons k_spec_NodeOk (tab_cons k_spec_NodeAt (tab_cons k_spec_DepthOf (tab_cons k_spec_l01In tab_nil)))) hm (by rw [hn]; decide +kernel) ?_
      try simp -implicitDefEqProofs (maxSteps := 2000000) [-selQ_sel, spec_SceneOk_l0_S]
      refine Hid.brV (fun h_3 => ?_) (fun h_3 => ?_)
      · replace H := HS.cnd_t h_3 H
        try simp -implicitDefEqProofs (maxSteps := 2000000) [-selQ_sel, h_3]
        have hr := (HS.some H).symm; subst hr
        exact Hid.mk ⟨(spec_SceneOk_l0_X a0 (.inl ())).2, Wk.ofk [] hk (by rfl) (by simp -implicitDefEqProofs [spec_SceneOk_l0_X, h_3]) (by simp -implicitDefEqProofs [spec_SceneOk_l0_X, h_3]), hR⟩
      · replace H := HS.cnd_f h_3 H
        try simp -implicitDefEqProofs (maxSteps := 2000000) [-selQ_sel, h_3]
        obtain ⟨v9, h_4, H⟩ := HS.bnd H
        try simp -implicitDefEqProofs (maxSteps := 2000000) [-selQ_sel, h_3, h_4]
        obtain ⟨v10, h_5, H⟩ := HS.bnd H
        try simp -implicitDefEqProofs (maxSteps := 2000000) [-selQ_sel, h_3, h_4, h_5]
        refine Hid.selQ (fun h_6 => ?_) (fun h_6 => ?_)
        · replace H := HS.cnd_t h_6 H
          try simp -implicitDefEqProofs (maxSteps := 2000000) [-selQ_sel, h_3, h_4, h_5, h_6]
          obtain ⟨v11, h_7, H⟩ := HS.bnd H
          try simp -implicitDefEqProofs (maxSteps := 2000000) [-selQ_sel, h_3, h_4, h_5, h_6, h_7]
          refine Hid.selQ (fun h_8 => ?_) (fun h_8 => ?_)
          · replace H := HS.cnd_t h_8 H
            try simp -implicitDefEqProofs (maxSteps := 2000000) [-selQ_sel, h_3, h_4, h_5, h_6, h_7, h_8]
            obtain ⟨v12, h_9, H⟩ := HS.bnd H
            try simp -implicitDefEqProofs (maxSteps := 2000000) [-selQ_sel, h_3, h_4, h_5, h_6, h_7, h_8, h_9]
            obtain ⟨v13, h_10, H⟩ := HS.bnd H
            try simp -implicitDefEqProofs (maxSteps := 2000000) [-selQ_sel, h_3, h_4, h_5, h_6, h_7, h_8, h_9, h_10]
            refine Hid.brV (fun h_11 => ?_) (fun h_11 => ?_)
            · replace H := HS.cnd_t h_11 H
              try simp -implicitDefEqProofs (maxSteps := 2000000) [-selQ_sel, h_3, h_4, h_5, h_6, h_7, h_8, h_9, h_10, h_11]
              obtain ⟨v14, h_12, H⟩ := HS.bnd H
              try simp -implicitDefEqProofs (maxSteps := 2000000) [-selQ_sel, h_3, h_4, h_5, h_6, h_7, h_8, h_9, h_10, h_11, h_12]
              refine Hid.selQ (fun h_13 => ?_) (fun h_13 => ?_)
              · replace H := HS.cnd_t h_13 H
                try simp -implicitDefEqProofs (maxSteps := 2000000) [-selQ_sel, h_3, h_4, h_5, h_6, h_7, h_8, h_9, h_10, h_11, h_12, h_13]
                have hr := (HS.some H).symm; subst hr
                exact Hid.mk ⟨spec_SceneOk_l0_S a0 (IntKind.i64.wrap (x8 + 1)), Wk.ofk [0] hk (by rfl) (by simp -implicitDefEqProofs [spec_SceneOk_l0_S, h_3, h_4, h_5, h_6, h_7, h_8, h_9, h_10, h_11, h_12, h_13]) (by simp -implicitDefEqProofs [spec_SceneOk_l0_S, h_3, h_4, h_5, h_6, h_7, h_8, h_9, h_10, h_11, h_12, h_13]), hR⟩
              · replace H := HS.cnd_f h_13 H
                try simp -implicitDefEqProofs (maxSteps := 2000000) [-selQ_sel, h_3, h_4, h_5, h_6, h_7, h_8, h_9, h_10, h_11, h_12, h_13]
                refine Hid.selQ (fun h_14 => ?_) (fun h_14 => ?_)
                · replace H := HS.cnd_t h_14 H
                  try simp -implicitDefEqProofs (maxSteps := 2000000) [-selQ_sel, h_3, h_4, h_5, h_6, h_7, h_8, h_9, h_10, h_11, h_12, h_13, h_14]
                  obtain ⟨v15, h_15, H⟩ := HS.bnd H
                  try simp -implicitDefEqProofs (maxSteps := 2000000) [-selQ_sel, h_3, h_4, h_5, h_6, h_7, h_8, h_9, h_10, h_11, h_12, h_13, h_14, h_15]
                  refine Hid.brV (fun h_16 => ?_) (fun h_16 => ?_)
                  · replace H := HS.cnd_t h_16 H
                    try simp -implicitDefEqProofs (maxSteps := 2000000) [-selQ_sel, h_3, h_4, h_5, h_6, h_7, h_8, h_9, h_10, h_11, h_12, h_13, h_14, h_15, h_16]
                    have hr := (HS.some H).symm; subst hr
                    exact Hid.mk ⟨spec_SceneOk_l0_S a0 (IntKind.i64.wrap (x8 + 1)), Wk.ofk [0] hk (by rfl) (by simp -implicitDefEqProofs [spec_SceneOk_l0_S, h_3, h_4, h_5, h_6, h_7, h_8, h_9, h_10, h_11, h_12, h_13, h_14, h_15, h_16]) (by simp -implicitDefEqProofs [spec_SceneOk_l0_S, h_3, h_4, h_5, h_6, h_7, h_8, h_9, h_10, h_11, h_12, h_13, h_14, h_15, h_16]), hR⟩
                  · replace H := HS.cnd_f h_16 H
                    try simp -implicitDefEqProofs (maxSteps := 2000000) [-selQ_sel, h_3, h_4, h_5, h_6, h_7, h_8, h_9, h_10, h_11, h_12, h_13, h_14, h_15, h_16]
                    have hr := (HS.some H).symm; subst hr
                    exact Hid.mk ⟨(spec_SceneOk_l0_X a0 (.inr ())).2, Wk.ofk [] hk (by rfl) (by simp -implicitDefEqProofs [spec_SceneOk_l0_X, h_3, h_4, h_5, h_6, h_7, h_8, h_9, h_10, h_11, h_12, h_13, h_14, h_15, h_16]) (by simp -implicitDefEqProofs [spec_SceneOk_l0_X, h_3, h_4, h_5, h_6, h_7, h_8, h_9, h_10, h_11, h_12, h_13, h_14, h_15, h_16]), hR⟩
                · replace H := HS.cnd_f h_14 H
                  try simp -implicitDefEqProofs (maxSteps := 2000000) [-selQ_sel, h_3, h_4, h_5, h_6, h_7, h_8, h_9, h_10, h_11, h_12, h_13, h_14]
                  have hr := (HS.some H).symm; subst hr
                  exact Hid.mk ⟨(spec_SceneOk_l0_X a0 (.inr ())).2, Wk.ofk [] hk (by rfl) (by simp -implicitDefEqProofs [spec_SceneOk_l0_X, h_3, h_4, h_5, h_6, h_7, h_8, h_9, h_10, h_11, h_12, h_13, h_14]) (by simp -implicitDefEqProofs [spec_SceneOk_l0_X, h_3, h_4, h_5, h_6, h_7, h_8, h_9, h_10, h_11, h_12, h_13, h_14]), hR⟩
            · replace H := HS.cnd_f h_11 H
              try simp -implicitDefEqProofs (maxSteps := 2000000) [-selQ_sel, h_3, h_4, h_5, h_6, h_7, h_8, h_9, h_10, h_11]
              have hr := (HS.some H).symm; subst hr
              exact Hid.mk ⟨(spec_SceneOk_l0_X a0 (.inr ())).2, Wk.ofk [] hk (by rfl) (by simp -implicitDefEqProofs [spec_SceneOk_l0_X, h_3, h_4, h_5, h_6, h_7, h_8, h_9, h_10, h_11]) (by simp -implicitDefEqProofs [spec_SceneOk_l0_X, h_3, h_4, h_5, h_6, h_7, h_8, h_9, h_10, h_11]), hR⟩
          · replace H := HS.cnd_f h_8 H
            try simp -implicitDefEqProofs (maxSteps := 2000000) [-selQ_sel, h_3, h_4, h_5, h_6, h_7, h_8]
            have hr := (HS.some H).symm; subst hr
            exact Hid.mk ⟨(spec_SceneOk_l0_X a0 (.inr ())).2, Wk.ofk [] hk (by rfl) (by simp -implicitDefEqProofs [spec_SceneOk_l0_X, h_3, h_4, h_5, h_6, h_7, h_8]) (by simp -implicitDefEqProofs [spec_SceneOk_l0_X, h_3, h_4, h_5, h_6, h_7, h_8]), hR⟩
        · replace H := HS.cnd_f h_6 H
          try simp -implicitDefEqProofs (maxSteps := 2000000) [-selQ_sel, h_3, h_4, h_5, h_6]
          have hr := (HS.some H).symm; subst hr
          exact Hid.mk ⟨(spec_SceneOk_l0_X a0 (.inr ())).2, Wk.ofk [] hk (by rfl) (by simp -implicitDefEqProofs [spec_SceneOk_l0_X, h_3, h_4, h_5, h_6]) (by simp -implicitDefEqProofs [spec_SceneOk_l0_X, h_3, h_4, h_5, h_6]), hR⟩
    · rcases q with ⟨⟩ | ⟨⟩
      · dsimp only at H
        try simp -implicitDefEqProofs (maxSteps := 2000000) [-selQ_sel, h_1, spec_SceneOk_l0_X]
        have hr := (HS.some H).symm; subst hr
        refine Hid.mk ⟨_, Wk.refl _, ?_⟩
        try simp -implicitDefEqProofs (maxSteps := 2000000) [-selQ_sel, h_1]
      · dsimp only at H
        try simp -implicitDefEqProofs (maxSteps := 2000000) [-selQ_sel, h_1, spec_SceneOk_l0_X]
        have hr := (HS.some H).symm; subst hr
        refine Hid.mk ⟨_, Wk.refl _, ?_⟩
        try simp -implicitDefEqProofs (maxSteps := 2000000) [-selQ_sel, h_1]
  · replace H := HS.cnd_f h_1 H
    try simp -implicitDefEqProofs (maxSteps := 2000000) [-selQ_sel, h_1]
    have hr := (HS.some H).symm; subst hr
    refine Hid.mk ⟨_, Wk.refl _, ?_⟩
    try simp -implicitDefEqProofs (maxSteps := 2000000) [-selQ_sel, h_1]
theorem impl_SceneOk_ok0 (hm : Try.prog.follows .mixedOrders = true) (k_impl_NodeOk : Sound Try.prog 45 impl_NodeOk_x) (k_impl_NodeAt : Sound Try.prog 44 impl_NodeAt_x) (k_impl_Scene_isParent : Sound Try.prog 55 impl_Scene_isParent_x) (k_impl_DepthOf : Sound Try.prog 57 impl_DepthOf_x) (k_impl_inRange : Sound Try.prog 56 impl_inRange_x) : Sound Try.prog 17 impl_SceneOk_x := by
  refine xOf_sound fun q r h => ?_
  revert h; revert r; revert q; intro a0 r h
  refine fn_ok E0 hm Try.func17 rfl (by decide +kernel) (by rfl) fun Γ hn hk => ?_
  dsimp only [impl_SceneOk_e, impl_SceneOk_v]
  replace hn : Γ.n = 43 := hn
  replace hk : Γ.k = 0 := hk
  have H : HS (impl_SceneOk a0) r := h
  clear h; unfold impl_SceneOk at H
  try simp -implicitDefEqProofs at H
  refine Tr.of_vc (cl := tabC [(45, impl_NodeOk_x), (44, impl_NodeAt_x), (55, impl_Scene_isParent_x), (57, impl_DepthOf_x), (56, impl_inRange_x)]) (E := E0) [] (tab_cons k_impl_NodeOk (tab_cons k_impl_NodeAt (tab_cons k_impl_Scene_isParent (tab_cons k_impl_DepthOf (tab_cons k_impl_inRange tab_nil))))) hm (by rw [hn]; decide +kernel) ?_
  try simp -implicitDefEqProofs (maxSteps := 2000000) [-selQ_sel]
  refine Hid.brV (fun h_1 => ?_) (fun h_1 => ?_)
  · replace H := HS.cnd_t h_1 H
    try simp -implicitDefEqProofs (maxSteps := 2000000) [-selQ_sel, h_1]
    obtain ⟨q, h_2, H⟩ := HS.bnd H
    refine Hid.mk (Tr.weak (s' := (impl_SceneOk_l0_S a0) 0) (Wk.ofk [0] hk (by rfl) (by simp -implicitDefEqProofs [impl_SceneOk_l0_S, h_1]) (by simp -implicitDefEqProofs [impl_SceneOk_l0_S, h_1])) ?_)
    refine wp_loop_of (S := (impl_SceneOk_l0_S a0)) (f := (impl_SceneOk_l0 a0)) (xt := (impl_SceneOk_l0_X a0)) ?_ ?_ h_2 ?_
    · intro q; rcases q with ⟨⟩ | ⟨⟩ <;> simp [impl_SceneOk_l0_X]
    · clear H h_2 q
      rintro x7 o R hf hR
      have H : HS (impl_SceneOk_l0 a0 x7) o := hf
      clear hf; unfold impl_SceneOk_l0 at H
      try simp -implicitDefEqProofs at H
      refine Tr.of_vc (cl := tabC [(45, impl_NodeOk_x), (44, impl_NodeAt_x), (55, impl_Scene_isParent_x), (57, impl_DepthOf_x), (56, impl_inRange_x)]) (E := E0) [] (tab_cons k_impl_NodeOk (tab_cons k_impl_NodeAt (tab_cons k_impl_Scene_isParent (tab_cons k_impl_DepthOf (tab_cons k_impl_inRange tab_nil))))) hm (by rw [hn]; decide +kernel) ?_
      try simp -implicitDefEqProofs (maxSteps := 2000000) [-selQ_sel, impl_SceneOk_l0_S]
      refine Hid.brV (fun h_3 => ?_) (fun h_3 => ?_)
      · replace H := HS.cnd_t h_3 H
        try simp -implicitDefEqProofs (maxSteps := 2000000) [-selQ_sel, h_3]
        have hr := (HS.some H).symm; subst hr
        exact Hid.mk ⟨(impl_SceneOk_l0_X a0 (.inl ())).2, Wk.ofk [] hk (by rfl) (by simp -implicitDefEqProofs [impl_SceneOk_l0_X, h_3]) (by simp -implicitDefEqProofs [impl_SceneOk_l0_X, h_3]), hR⟩
      · replace H := HS.cnd_f h_3 H
        try simp -implicitDefEqProofs (maxSteps := 2000000) [-selQ_sel, h_3]
        obtain ⟨v8, h_4, H⟩ := HS.bnd H
        try simp -implicitDefEqProofs (maxSteps := 2000000) [-selQ_sel, h_3, h_4]
        obtain ⟨v9, h_5, H⟩ := HS.bnd H
        try simp -implicitDefEqProofs (maxSteps := 2000000) [-selQ_sel, h_3, h_4, h_5]
        refine Hid.selQ (fun h_6 => ?_) (fun h_6 => ?_)
        · replace H := HS.cnd_t h_6 H
          try simp -implicitDefEqProofs (maxSteps := 2000000) [-selQ_sel, h_3, h_4, h_5, h_6]
          obtain ⟨v10, h_7, H⟩ := HS.bnd H
          try simp -implicitDefEqProofs (maxSteps := 2000000) [-selQ_sel, h_3, h_4, h_5, h_6, h_7]
          refine Hid.selQ (fun h_8 => ?_) (fun h_8 => ?_)
          · replace H := HS.cnd_t h_8 H
            try simp -implicitDefEqProofs (maxSteps := 2000000) [-selQ_sel, h_3, h_4, h_5, h_6, h_7, h_8]
            obtain ⟨v11, h_9, H⟩ := HS.bnd H
            try simp -implicitDefEqProofs (maxSteps := 2000000) [-selQ_sel, h_3, h_4, h_5, h_6, h_7, h_8, h_9]
            refine Hid.selQ (fun h_10 => ?_) (fun h_10 => ?_)
            · replace H := HS.cnd_t h_10 H
              try simp -implicitDefEqProofs (maxSteps := 2000000) [-selQ_sel, h_3, h_4, h_5, h_6, h_7, h_8, h_9, h_10]
              obtain ⟨v12, h_11, H⟩ := HS.bnd H
              try simp -implicitDefEqProofs (maxSteps := 2000000) [-selQ_sel, h_3, h_4, h_5, h_6, h_7, h_8, h_9, h_10, h_11]
              obtain ⟨v13, h_12, H⟩ := HS.bnd H
              try simp -implicitDefEqProofs (maxSteps := 2000000) [-selQ_sel, h_3, h_4, h_5, h_6, h_7, h_8, h_9, h_10, h_11, h_12]
              refine Hid.brV (fun h_13 => ?_) (fun h_13 => ?_)
              · replace H := HS.cnd_t h_13 H
                try simp -implicitDefEqProofs (maxSteps := 2000000) [-selQ_sel, h_3, h_4, h_5, h_6, h_7, h_8, h_9, h_10, h_11, h_12, h_13]
                have hr := (HS.some H).symm; subst hr
                exact Hid.mk ⟨impl_SceneOk_l0_S a0 (IntKind.i64.wrap (x7 + 1)), Wk.ofk [0] hk (by rfl) (by simp -implicitDefEqProofs [impl_SceneOk_l0_S, h_3, h_4, h_5, h_6, h_7, h_8, h_9, h_10, h_11, h_12, h_13]) (by simp -implicitDefEqProofs [impl_SceneOk_l0_S, h_3, h_4, h_5, h_6, h_7, h_8, h_9, h_10, h_11, h_12, h_13]), hR⟩
              · replace H := HS.cnd_f h_13 H
                try simp -implicitDefEqProofs (maxSteps := 2000000) [-selQ_sel, h_3, h_4, h_5, h_6, h_7, h_8, h_9, h_10, h_11, h_12, h_13]
                have hr := (HS.some H).symm; subst hr
                exact Hid.mk ⟨(impl_SceneOk_l0_X a0 (.inr ())).2, Wk.ofk [] hk (by rfl) (by simp -implicitDefEqProofs [impl_SceneOk_l0_X, h_3, h_4, h_5, h_6, h_7, h_8, h_9, h_10, h_11, h_12, h_13]) (by simp -implicitDefEqProofs [impl_SceneOk_l0_X, h_3, h_4, h_5, h_6, h_7, h_8, h_9, h_10, h_11, h_12, h_13]), hR⟩
            · replace H := HS.cnd_f h_10 H
              try simp -implicitDefEqProofs (maxSteps := 2000000) [-selQ_sel, h_3, h_4, h_5, h_6, h_7, h_8, h_9, h_10]
              have hr := (HS.some H).symm; subst hr
              exact Hid.mk ⟨(impl_SceneOk_l0_X a0 (.inr ())).2, Wk.ofk [] hk (by rfl) (by simp -implicitDefEqProofs [impl_SceneOk_l0_X, h_3, h_4, h_5, h_6, h_7, h_8, h_9, h_10]) (by simp -implicitDefEqProofs [impl_SceneOk_l0_X, h_3, h_4, h_5, h_6, h_7, h_8, h_9, h_10]), hR⟩
          · replace H := HS.cnd_f h_8 H
            try simp -implicitDefEqProofs (maxSteps := 2000000) [-selQ_sel, h_3, h_4, h_5, h_6, h_7, h_8]
            have hr := (HS.some H).symm; subst hr
            exact Hid.mk ⟨(impl_SceneOk_l0_X a0 (.inr ())).2, Wk.ofk [] hk (by rfl) (by simp -implicitDefEqProofs [impl_SceneOk_l0_X, h_3, h_4, h_5, h_6, h_7, h_8]) (by simp -implicitDefEqProofs [impl_SceneOk_l0_X, h_3, h_4, h_5, h_6, h_7, h_8]), hR⟩
        · replace H := HS.cnd_f h_6 H
          try simp -implicitDefEqProofs (maxSteps := 2000000) [-selQ_sel, h_3, h_4, h_5, h_6]
          have hr := (HS.some H).symm; subst hr
          exact Hid.mk ⟨(impl_SceneOk_l0_X a0 (.inr ())).2, Wk.ofk [] hk (by rfl) (by simp -implicitDefEqProofs [impl_SceneOk_l0_X, h_3, h_4, h_5, h_6]) (by simp -implicitDefEqProofs [impl_SceneOk_l0_X, h_3, h_4, h_5, h_6]), hR⟩
    · rcases q with ⟨⟩ | ⟨⟩
      · dsimp only at H
        try simp -implicitDefEqProofs (maxSteps := 2000000) [-selQ_sel, h_1, impl_SceneOk_l0_X]
        have hr := (HS.some H).symm; subst hr
        refine Hid.mk ⟨_, Wk.refl _, ?_⟩
        try simp -implicitDefEqProofs (maxSteps := 2000000) [-selQ_sel, h_1]
      · dsimp only at H
        try simp -implicitDefEqProofs (maxSteps := 2000000) [-selQ_sel, h_1, impl_SceneOk_l0_X]
        have hr := (HS.some H).symm; subst hr
        refine Hid.mk ⟨_, Wk.refl _, ?_⟩
        try simp -implicitDefEqProofs (maxSteps := 2000000) [-selQ_sel, h_1]
  · replace H := HS.cnd_f h_1 H
    try simp -implicitDefEqProofs (maxSteps := 2000000) [-selQ_sel, h_1]
    have hr := (HS.some H).symm; subst hr
    refine Hid.mk ⟨_, Wk.refl _, ?_⟩
    try simp -implicitDefEqProofs (maxSteps := 2000000) [-selQ_sel, h_1]
theorem impl_PaintOk_ok0 (hm : Try.prog.follows .mixedOrders = true) (k_impl_ColorOk : Sound Try.prog 114 impl_ColorOk_x) (k_impl_PointOk : Sound Try.prog 115 impl_PointOk_x) : Sound Try.prog 88 impl_PaintOk_x := by
  refine xOf_sound fun q r h => ?_
  revert h; revert r; revert q; intro a0 r h
  refine fn_ok E0 hm Try.func88 rfl (by decide +kernel) (by rfl) fun Γ hn hk => ?_
  dsimp only [impl_PaintOk_e, impl_PaintOk_v]
  replace hn : Γ.n = 44 := hn
  replace hk : Γ.k = 0 := hk
  have H : HS (impl_PaintOk a0) r := h
  clear h; unfold impl_PaintOk at H
  try simp -implicitDefEqProofs at H
  refine Tr.of_vc (cl := tabC [(114, impl_ColorOk_x), (115, impl_PointOk_x)]) (E := E0) [] (tab_cons k_impl_ColorOk (tab_cons k_impl_PointOk tab_nil)) hm (by rw [hn]; decide +kernel) ?_
  try simp -implicitDefEqProofs (maxSteps := 2000000) [-selQ_sel]
  refine Hid.brV (fun h_1 => ?_) (fun h_1 => ?_)
  · replace H := HS.cnd_t h_1 H
    try simp -implicitDefEqProofs (maxSteps := 2000000) [-selQ_sel, h_1]
    obtain ⟨v1, h_2, H⟩ := HS.bnd H
    try simp -implicitDefEqProofs (maxSteps := 2000000) [-selQ_sel, h_1, h_2]
    refine Hid.selQ (fun h_3 => ?_) (fun h_3 => ?_)
    · replace H := HS.cnd_t h_3 H
      try simp -implicitDefEqProofs (maxSteps := 2000000) [-selQ_sel, h_1, h_2, h_3]
      have hr := (HS.some H).symm; subst hr
      refine Hid.mk ⟨_, Wk.refl _, ?_⟩
      try simp -implicitDefEqProofs (maxSteps := 2000000) [-selQ_sel, h_1, h_2, h_3]
    · replace H := HS.cnd_f h_3 H
      try simp -implicitDefEqProofs (maxSteps := 2000000) [-selQ_sel, h_1, h_2, h_3]
      have hr := (HS.some H).symm; subst hr
      refine Hid.mk ⟨_, Wk.refl _, ?_⟩
      try simp -implicitDefEqProofs (maxSteps := 2000000) [-selQ_sel, h_1, h_2, h_3]
  · replace H := HS.cnd_f h_1 H
    try simp -implicitDefEqProofs (maxSteps := 2000000) [-selQ_sel, h_1]
    refine Hid.brV (fun h_4 => ?_) (fun h_4 => ?_)
    · replace H := HS.cnd_t h_4 H
      try simp -implicitDefEqProofs (maxSteps := 2000000) [-selQ_sel, h_1, h_4]
      obtain ⟨v2, h_5, H⟩ := HS.bnd H
      try simp -implicitDefEqProofs (maxSteps := 2000000) [-selQ_sel, h_1, h_4, h_5]
      refine Hid.selQ (fun h_6 => ?_) (fun h_6 => ?_)
      · replace H := HS.cnd_t h_6 H
        try simp -implicitDefEqProofs (maxSteps := 2000000) [-selQ_sel, h_1, h_4, h_5, h_6]
        obtain ⟨v3, h_7, H⟩ := HS.bnd H
        try simp -implicitDefEqProofs (maxSteps := 2000000) [-selQ_sel, h_1, h_4, h_5, h_6, h_7]
        refine Hid.selQ (fun h_8 => ?_) (fun h_8 => ?_)
        · replace H := HS.cnd_t h_8 H
          try simp -implicitDefEqProofs (maxSteps := 2000000) [-selQ_sel, h_1, h_4, h_5, h_6, h_7, h_8]
          obtain ⟨v4, h_9, H⟩ := HS.bnd H
          try simp -implicitDefEqProofs (maxSteps := 2000000) [-selQ_sel, h_1, h_4, h_5, h_6, h_7, h_8, h_9]
          refine Hid.selQ (fun h_10 => ?_) (fun h_10 => ?_)
          · replace H := HS.cnd_t h_10 H
            try simp -implicitDefEqProofs (maxSteps := 2000000) [-selQ_sel, h_1, h_4, h_5, h_6, h_7, h_8, h_9, h_10]
            obtain ⟨v5, h_11, H⟩ := HS.bnd H
            try simp -implicitDefEqProofs (maxSteps := 2000000) [-selQ_sel, h_1, h_4, h_5, h_6, h_7, h_8, h_9, h_10, h_11]
            refine Hid.selQ (fun h_12 => ?_) (fun h_12 => ?_)
            · replace H := HS.cnd_t h_12 H
              try simp -implicitDefEqProofs (maxSteps := 2000000) [-selQ_sel, h_1, h_4, h_5, h_6, h_7, h_8, h_9, h_10, h_11, h_12]
              have hr := (HS.some H).symm; subst hr
              refine Hid.mk ⟨_, Wk.refl _, ?_⟩
              try simp -implicitDefEqProofs (maxSteps := 2000000) [-selQ_sel, h_1, h_4, h_5, h_6, h_7, h_8, h_9, h_10, h_11, h_12]
            · replace H := HS.cnd_f h_12 H
              try simp -implicitDefEqProofs (maxSteps := 2000000) [-selQ_sel, h_1, h_4, h_5, h_6, h_7, h_8, h_9, h_10, h_11, h_12]
              have hr := (HS.some H).symm; subst hr
              refine Hid.mk ⟨_, Wk.refl _, ?_⟩
              try simp -implicitDefEqProofs (maxSteps := 2000000) [-selQ_sel, h_1, h_4, h_5, h_6, h_7, h_8, h_9, h_10, h_11, h_12]
          · replace H := HS.cnd_f h_10 H
            try simp -implicitDefEqProofs (maxSteps := 2000000) [-selQ_sel, h_1, h_4, h_5, h_6, h_7, h_8, h_9, h_10]
            have hr := (HS.some H).symm; subst hr
            refine Hid.mk ⟨_, Wk.refl _, ?_⟩
            try simp -implicitDefEqProofs (maxSteps := 2000000) [-selQ_sel, h_1, h_4, h_5, h_6, h_7, h_8, h_9, h_10]
        · replace H := HS.cnd_f h_8 H
          try simp -implicitDefEqProofs (maxSteps := 2000000) [-selQ_sel, h_1, h_4, h_5, h_6, h_7, h_8]
          have hr := (HS.some H).symm; subst hr
          refine Hid.mk ⟨_, Wk.refl _, ?_⟩
          try simp -implicitDefEqProofs (maxSteps := 2000000) [-selQ_sel, h_1, h_4, h_5, h_6, h_7, h_8]
      · replace H := HS.cnd_f h_6 H
        try simp -implicitDefEqProofs (maxSteps := 2000000) [-selQ_sel, h_1, h_4, h_5, h_6]
        have hr := (HS.some H).symm; subst hr
        refine Hid.mk ⟨_, Wk.refl _, ?_⟩
        try simp -implicitDefEqProofs (maxSteps := 2000000) [-selQ_sel, h_1, h_4, h_5, h_6]
    · replace H := HS.cnd_f h_4 H
      try simp -implicitDefEqProofs (maxSteps := 2000000) [-selQ_sel, h_1, h_4]
      have hr := (HS.some H).symm; subst hr
      refine Hid.mk ⟨_, Wk.refl _, ?_⟩
      try simp -implicitDefEqProofs (maxSteps := 2000000) [-selQ_sel, h_1, h_4]
theorem impl_MatOk_ok0 (hm : Try.prog.follows .mixedOrders = true) (k_impl_inRange : Sound Try.prog 56 impl_inRange_x) (k_impl_isFar : Sound Try.prog 111 impl_isFar_x) : Sound Try.prog 82 impl_MatOk_x := by
  refine xOf_sound fun q r h => ?_
  revert h; revert r; revert q; intro a0 r h
  refine fn_ok E0 hm Try.func82 rfl (by decide +kernel) (by rfl) fun Γ hn hk => ?_
  dsimp only [impl_MatOk_e, impl_MatOk_v]
  replace hn : Γ.n = 29 := hn
  replace hk : Γ.k = 0 := hk
  have H : HS (impl_MatOk a0) r := h
  clear h; unfold impl_MatOk at H
  try simp -implicitDefEqProofs at H
  refine Tr.of_vc (cl := tabC [(56, impl_inRange_x), (111, impl_isFar_x)]) (E := E0) [] (tab_cons k_impl_inRange (tab_cons k_impl_isFar tab_nil)) hm (by rw [hn]; decide +kernel) ?_
  try simp -implicitDefEqProofs (maxSteps := 2000000) [-selQ_sel]
  obtain ⟨q, h_1, H⟩ := HS.bnd H
  refine Hid.mk (Tr.weak (s' := (impl_MatOk_l0_S a0) 0) (Wk.ofk [0] hk (by rfl) (by simp -implicitDefEqProofs [impl_MatOk_l0_S]) (by simp -implicitDefEqProofs [impl_MatOk_l0_S])) ?_)
  refine wp_loop_of (S := (impl_MatOk_l0_S a0)) (f := (impl_MatOk_l0 a0)) (xt := (impl_MatOk_l0_X a0)) ?_ ?_ h_1 ?_
  · intro q; rcases q with ⟨⟩ | ⟨⟩ <;> simp [impl_MatOk_l0_X]
  · clear H h_1 q
    rintro x2 o R hf hR
    have H : HS (impl_MatOk_l0 a0 x2) o := hf
    clear hf; unfold impl_MatOk_l0 at H
    try simp -implicitDefEqProofs at H
    refine Tr.of_vc (cl := tabC [(56, impl_inRange_x), (111, impl_isFar_x)]) (E := E0) [] (tab_cons k_impl_inRange (tab_cons k_impl_isFar tab_nil)) hm (by rw [hn]; decide +kernel) ?_
    try simp -implicitDefEqProofs (maxSteps := 2000000) [-selQ_sel, impl_MatOk_l0_S]
    refine Hid.brV (fun h_2 => ?_) (fun h_2 => ?_)
    · replace H := HS.cnd_t h_2 H
      try simp -implicitDefEqProofs (maxSteps := 2000000) [-selQ_sel, h_2]
      have hr := (HS.some H).symm; subst hr
      exact Hid.mk ⟨(impl_MatOk_l0_X a0 (.inl ())).2, Wk.ofk [0] hk (by rfl) (by simp -implicitDefEqProofs [impl_MatOk_l0_X, h_2]) (by simp -implicitDefEqProofs [impl_MatOk_l0_X, h_2]), hR⟩
    · replace H := HS.cnd_f h_2 H
      try simp -implicitDefEqProofs (maxSteps := 2000000) [-selQ_sel, h_2]
      obtain ⟨v3, h_3, H⟩ := HS.bnd H
      have g_4 := idx_map (e := (AV.int .i64)) h_3
      simp only [List.map_cons, List.map_nil] at g_4
      try simp -implicitDefEqProofs (maxSteps := 2000000) [-selQ_sel, h_2, h_3, g_4]
      obtain ⟨v4, h_5, H⟩ := HS.bnd H
      try simp -implicitDefEqProofs (maxSteps := 2000000) [-selQ_sel, h_2, h_3, g_4, h_5]
      refine Hid.brV (fun h_6 => ?_) (fun h_6 => ?_)
      · replace H := HS.cnd_t h_6 H
        try simp -implicitDefEqProofs (maxSteps := 2000000) [-selQ_sel, h_2, h_3, g_4, h_5, h_6]
        have hr := (HS.some H).symm; subst hr
        exact Hid.mk ⟨impl_MatOk_l0_S a0 (IntKind.i64.wrap (x2 + 1)), Wk.ofk [0] hk (by rfl) (by simp -implicitDefEqProofs [impl_MatOk_l0_S, h_2, h_3, g_4, h_5, h_6]) (by simp -implicitDefEqProofs [impl_MatOk_l0_S, h_2, h_3, g_4, h_5, h_6]), hR⟩
      · replace H := HS.cnd_f h_6 H
        try simp -implicitDefEqProofs (maxSteps := 2000000) [-selQ_sel, h_2, h_3, g_4, h_5, h_6]
        have hr := (HS.some H).symm; subst hr
        exact Hid.mk ⟨(impl_MatOk_l0_X a0 (.inr ())).2, Wk.ofk [] hk (by rfl) (by simp -implicitDefEqProofs [impl_MatOk_l0_X, h_2, h_3, g_4, h_5, h_6]) (by simp -implicitDefEqProofs [impl_MatOk_l0_X, h_2, h_3, g_4, h_5, h_6]), hR⟩
  · rcases q with ⟨⟩ | ⟨⟩
    · dsimp only at H
      try simp -implicitDefEqProofs (maxSteps := 2000000) [-selQ_sel, impl_MatOk_l0_X]
      obtain ⟨v5, h_7, H⟩ := HS.bnd H
      try simp -implicitDefEqProofs (maxSteps := 2000000) [-selQ_sel, h_7]
      refine Hid.selQ (fun h_8 => ?_) (fun h_8 => ?_)
      · replace H := HS.cnd_t h_8 H
        try simp -implicitDefEqProofs (maxSteps := 2000000) [-selQ_sel, h_7, h_8]
        obtain ⟨v6, h_9, H⟩ := HS.bnd H
        try simp -implicitDefEqProofs (maxSteps := 2000000) [-selQ_sel, h_7, h_8, h_9]
        have hr := (HS.some H).symm; subst hr
        refine Hid.mk ⟨_, Wk.refl _, ?_⟩
        try simp -implicitDefEqProofs (maxSteps := 2000000) [-selQ_sel, h_7, h_8, h_9]
      · replace H := HS.cnd_f h_8 H
        try simp -implicitDefEqProofs (maxSteps := 2000000) [-selQ_sel, h_7, h_8]
        have hr := (HS.some H).symm; subst hr
        refine Hid.mk ⟨_, Wk.refl _, ?_⟩
        try simp -implicitDefEqProofs (maxSteps := 2000000) [-selQ_sel, h_7, h_8]
    · dsimp only at H
      try simp -implicitDefEqProofs (maxSteps := 2000000) [-selQ_sel, impl_MatOk_l0_X]
      have hr := (HS.some H).symm; subst hr
      refine Hid.mk ⟨_, Wk.refl _, ?_⟩
      try simp -implicitDefEqProofs (maxSteps := 2000000) [-selQ_sel]
theorem laws_sameInts_ok0 (hm : Try.prog.follows .mixedOrders = true) : Sound Try.prog 54 laws_sameInts_x := by
  refine xOf_sound fun q r h => ?_
  obtain ⟨a0, a1⟩ := q
  refine fn_ok E0 hm Try.func54 rfl (by decide +kernel) (by rfl) fun Γ hn hk => ?_
  dsimp only [laws_sameInts_e, laws_sameInts_v]
  replace hn : Γ.n = 26 := hn
  replace hk : Γ.k = 0 := hk
  have H : HS (laws_sameInts a0 a1) r := h
  clear h; unfold laws_sameInts at H
  try simp -implicitDefEqProofs at H
  refine Tr.of_vc (cl := tabC []) (E := E0) [] tab_nil hm (by rw [hn]; decide +kernel) ?_
  try simp -implicitDefEqProofs +decide (maxSteps := 2000000) [-selQ_sel, hokQ_of]
  refine Hid.brV (fun h_1 => ?_) (fun h_1 => ?_)
  · replace H := HS.cnd_t h_1 H
    try simp -implicitDefEqProofs +decide (maxSteps := 2000000) [-selQ_sel, hokQ_of, h_1]
    obtain ⟨q, h_2, H⟩ := HS.bnd H
    refine Hid.mk (Tr.weak (s' := (laws_sameInts_l0_S a0 a1) 0) (Wk.ofk [] hk (by rfl) (by simp -implicitDefEqProofs [laws_sameInts_l0_S, h_1]) (by simp -implicitDefEqProofs [laws_sameInts_l0_S, h_1])) ?_)
    refine wp_loop_of (S := (laws_sameInts_l0_S a0 a1)) (f := (laws_sameInts_l0 a0 a1)) (xt := (laws_sameInts_l0_X a0 a1)) ?_ ?_ h_2 ?_
    · intro q; rcases q with ⟨⟩ | ⟨⟩ <;> simp [laws_sameInts_l0_X]
    · clear H h_2 q
      rintro x3 o R hf hR
      have H : HS (laws_sameInts_l0 a0 a1 x3) o := hf
      clear hf; unfold laws_sameInts_l0 at H
      try simp -implicitDefEqProofs at H
      refine Tr.of_vc (cl := tabC []) (E := E0) [] tab_nil hm (by rw [hn]; decide +kernel) ?_
      try simp -implicitDefEqProofs +decide (maxSteps := 2000000) [-selQ_sel, hokQ_of, laws_sameInts_l0_S]
      refine Hid.brV (fun h_3 => ?_) (fun h_3 => ?_)
      · replace H := HS.cnd_t h_3 H
        try simp -implicitDefEqProofs +decide (maxSteps := 2000000) [-selQ_sel, hokQ_of, h_3]
        have hr := (HS.some H).symm; subst hr
        exact Hid.mk ⟨(laws_sameInts_l0_X a0 a1 (.inl ())).2, Wk.ofk [] hk (by rfl) (by simp -implicitDefEqProofs [laws_sameInts_l0_X, h_3]) (by simp -implicitDefEqProofs [laws_sameInts_l0_X, h_3]), hR⟩
      · replace H := HS.cnd_f h_3 H
        try simp -implicitDefEqProofs +decide (maxSteps := 2000000) [-selQ_sel, hokQ_of, h_3]
        obtain ⟨v4, h_4, H⟩ := HS.bnd H
        try simp -implicitDefEqProofs +decide (maxSteps := 2000000) [-selQ_sel, hokQ_of, h_3, h_4]
        obtain ⟨v5, h_5, H⟩ := HS.bnd H
        try simp -implicitDefEqProofs +decide (maxSteps := 2000000) [-selQ_sel, hokQ_of, h_3, h_4, h_5]
        refine Hid.brV (fun h_6 => ?_) (fun h_6 => ?_)
        · replace H := HS.cnd_t h_6 H
          try simp -implicitDefEqProofs +decide (maxSteps := 2000000) [-selQ_sel, hokQ_of, h_3, h_4, h_5, h_6]
          have hr := (HS.some H).symm; subst hr
          exact Hid.mk ⟨laws_sameInts_l0_S a0 a1 (IntKind.i64.wrap (x3 + 1)), Wk.ofk [] hk (by rfl) (by simp -implicitDefEqProofs [laws_sameInts_l0_S, h_3, h_4, h_5, h_6]) (by simp -implicitDefEqProofs [laws_sameInts_l0_S, h_3, h_4, h_5, h_6]), hR⟩
        · replace H := HS.cnd_f h_6 H
          try simp -implicitDefEqProofs +decide (maxSteps := 2000000) [-selQ_sel, hokQ_of, h_3, h_4, h_5, h_6]
          have hr := (HS.some H).symm; subst hr
          exact Hid.mk ⟨(laws_sameInts_l0_X a0 a1 (.inr ())).2, Wk.ofk [] hk (by rfl) (by simp -implicitDefEqProofs [laws_sameInts_l0_X, h_3, h_4, h_5, h_6]) (by simp -implicitDefEqProofs [laws_sameInts_l0_X, h_3, h_4, h_5, h_6]), hR⟩
    · rcases q with ⟨⟩ | ⟨⟩
      · dsimp only at H
        try simp -implicitDefEqProofs +decide (maxSteps := 2000000) [-selQ_sel, hokQ_of, h_1, laws_sameInts_l0_X]
        have hr := (HS.some H).symm; subst hr
        refine Hid.mk ⟨_, Wk.refl _, ?_⟩
        try simp -implicitDefEqProofs +decide (maxSteps := 2000000) [-selQ_sel, hokQ_of, h_1]
      · dsimp only at H
        try simp -implicitDefEqProofs +decide (maxSteps := 2000000) [-selQ_sel, hokQ_of, h_1, laws_sameInts_l0_X]
        have hr := (HS.some H).symm; subst hr
        refine Hid.mk ⟨_, Wk.refl _, ?_⟩
        try simp -implicitDefEqProofs +decide (maxSteps := 2000000) [-selQ_sel, hokQ_of, h_1]
  · replace H := HS.cnd_f h_1 H
    try simp -implicitDefEqProofs +decide (maxSteps := 2000000) [-selQ_sel, hokQ_of, h_1]
    have hr := (HS.some H).symm; subst hr
    refine Hid.mk ⟨_, Wk.refl _, ?_⟩
    try simp -implicitDefEqProofs +decide (maxSteps := 2000000) [-selQ_sel, hokQ_of, h_1]
theorem spec_l04AnyPoint_ok0 (hm : Try.prog.follows .mixedOrders = true) (k_spec_l04Point : Sound Try.prog 109 spec_l04Point_x) (k_spec_l01Once : Sound Try.prog 40 spec_l01Once_x) (k_spec_l01PickInt : Sound Try.prog 72 spec_l01PickInt_x) : Sound Try.prog 105 spec_l04AnyPoint_x := by
  refine xOf_sound fun q r h => ?_
  revert h; revert r; revert q; intro a0 r h
  refine fn_ok E0 hm Try.func105 rfl (by decide +kernel) (by rfl) fun Γ hn hk => ?_
  dsimp only [spec_l04AnyPoint_e, spec_l04AnyPoint_v]
  replace hn : Γ.n = 19 := hn
  replace hk : Γ.k = 1 := hk
  have H : HS (spec_l04AnyPoint a0) r := h
  clear h; unfold spec_l04AnyPoint at H
  try simp -implicitDefEqProofs at H
  refine Tr.of_vc (cl := tabC [(109, spec_l04Point_x), (40, spec_l01Once_x), (72, spec_l01PickInt_x)]) (E := E0) [] (tab_cons k_spec_l04Point (tab_cons k_spec_l01Once (tab_cons k_spec_l01PickInt tab_nil))) hm (by rw [hn]; decide +kernel) ?_
  try simp -implicitDefEqProofs (maxSteps := 2000000) [-selQ_sel]
  obtain ⟨⟨w2, w3⟩, h_1, H⟩ := HS.bnd H
  dsimp only at H
  try simp -implicitDefEqProofs (maxSteps := 2000000) [-selQ_sel, h_1]
  obtain ⟨⟨w5, w6⟩, h_2, H⟩ := HS.bnd H
  dsimp only at H
  try simp -implicitDefEqProofs (maxSteps := 2000000) [-selQ_sel, h_1, h_2]
  refine Hid.brV (fun h_3 => ?_) (fun h_3 => ?_)
  · replace H := HS.cnd_t h_3 H
    try simp -implicitDefEqProofs (maxSteps := 2000000) [-selQ_sel, h_1, h_2, h_3]
    obtain ⟨⟨w8, w9⟩, h_4, H⟩ := HS.bnd H
    dsimp only at H
    have k_5 := spec_l01PickInt_k w6.b w6.i w6.h [(-8388608), 8388608, 8388609, (-8388609), 9223372036854775807, (-9223372036854775808)]
    simp -implicitDefEqProofs [-spec_l01PickInt_k] at k_5
    try simp -implicitDefEqProofs (maxSteps := 2000000) [-selQ_sel, h_1, h_2, h_3, h_4, k_5]
    obtain ⟨⟨w11, w12⟩, h_6, H⟩ := HS.bnd H
    dsimp only at H
    try simp -implicitDefEqProofs (maxSteps := 2000000) [-selQ_sel, h_1, h_2, h_3, h_4, k_5, h_6]
    refine Hid.brV (fun h_7 => ?_) (fun h_7 => ?_)
    · replace H := HS.cnd_t h_7 H
      try simp -implicitDefEqProofs (maxSteps := 2000000) [-selQ_sel, h_1, h_2, h_3, h_4, k_5, h_6, h_7]
      obtain ⟨⟨w14, w15⟩, h_8, H⟩ := HS.bnd H
      dsimp only at H
      have k_9 := spec_l01PickInt_k w12.b w12.i w12.h [(-8388608), 8388608, 8388609]
      simp -implicitDefEqProofs [-spec_l01PickInt_k] at k_9
      try simp -implicitDefEqProofs (maxSteps := 2000000) [-selQ_sel, h_1, h_2, h_3, h_4, k_5, h_6, h_7, h_8, k_9]
      have hr := (HS.some H).symm; subst hr
      refine Hid.mk ⟨_, Wk.refl _, ?_⟩
      try simp -implicitDefEqProofs (maxSteps := 2000000) [-selQ_sel, h_1, h_2, h_3, h_4, k_5, h_6, h_7, h_8, k_9]
    · replace H := HS.cnd_f h_7 H
      try simp -implicitDefEqProofs (maxSteps := 2000000) [-selQ_sel, h_1, h_2, h_3, h_4, k_5, h_6, h_7]
      have hr := (HS.some H).symm; subst hr
      refine Hid.mk ⟨_, Wk.refl _, ?_⟩
      try simp -implicitDefEqProofs (maxSteps := 2000000) [-selQ_sel, h_1, h_2, h_3, h_4, k_5, h_6, h_7]
  · replace H := HS.cnd_f h_3 H
    try simp -implicitDefEqProofs (maxSteps := 2000000) [-selQ_sel, h_1, h_2, h_3]
    obtain ⟨⟨w17, w18⟩, h_10, H⟩ := HS.bnd H
    dsimp only at H
    try simp -implicitDefEqProofs (maxSteps := 2000000) [-selQ_sel, h_1, h_2, h_3, h_10]
    refine Hid.brV (fun h_11 => ?_) (fun h_11 => ?_)
    · replace H := HS.cnd_t h_11 H
      try simp -implicitDefEqProofs (maxSteps := 2000000) [-selQ_sel, h_1, h_2, h_3, h_10, h_11]
      obtain ⟨⟨w20, w21⟩, h_12, H⟩ := HS.bnd H
      dsimp only at H
      have k_13 := spec_l01PickInt_k w18.b w18.i w18.h [(-8388608), 8388608, 8388609]
      simp -implicitDefEqProofs [-spec_l01PickInt_k] at k_13
      try simp -implicitDefEqProofs (maxSteps := 2000000) [-selQ_sel, h_1, h_2, h_3, h_10, h_11, h_12, k_13]
      have hr := (HS.some H).symm; subst hr
      refine Hid.mk ⟨_, Wk.refl _, ?_⟩
      try simp -implicitDefEqProofs (maxSteps := 2000000) [-selQ_sel, h_1, h_2, h_3, h_10, h_11, h_12, k_13]
    · replace H := HS.cnd_f h_11 H
      try simp -implicitDefEqProofs (maxSteps := 2000000) [-selQ_sel, h_1, h_2, h_3, h_10, h_11]
      have hr := (HS.some H).symm; subst hr
      refine Hid.mk ⟨_, Wk.refl _, ?_⟩
      try simp -implicitDefEqProofs (maxSteps := 2000000) [-selQ_sel, h_1, h_2, h_3, h_10, h_11]
theorem spec_DashOk_ok0 (hm : Try.prog.follows .mixedOrders = true) (k_spec_l01In : Sound Try.prog 58 spec_l01In_x) : Sound Try.prog 94 spec_DashOk_x := by
  refine xOf_sound fun q r h => ?_
  revert h; revert r; revert q; intro a0 r h
  refine fn_ok E0 hm Try.func94 rfl (by decide +kernel) (by rfl) fun Γ hn hk => ?_
  dsimp only [spec_DashOk_e, spec_DashOk_v]
  replace hn : Γ.n = 25 := hn
  replace hk : Γ.k = 0 := hk
  have H : HS (spec_DashOk a0) r := h
  clear h; unfold spec_DashOk at H
  try simp -implicitDefEqProofs at H
  refine Tr.of_vc (cl := tabC [(58, spec_l01In_x)]) (E := E0) [] (tab_cons k_spec_l01In tab_nil) hm (by rw [hn]; decide +kernel) ?_
  try simp -implicitDefEqProofs (maxSteps := 2000000) [-selQ_sel]
  obtain ⟨q, h_1, H⟩ := HS.bnd H
  refine Hid.mk (Tr.weak (s' := (spec_DashOk_l0_S a0) 0) (Wk.ofk [] hk (by rfl) (by simp -implicitDefEqProofs [spec_DashOk_l0_S]) (by simp -implicitDefEqProofs [spec_DashOk_l0_S])) ?_)
  refine wp_loop_of (S := (spec_DashOk_l0_S a0)) (f := (spec_DashOk_l0 a0)) (xt := (spec_DashOk_l0_X a0)) ?_ ?_ h_1 ?_
  · intro q; rcases q with ⟨⟩ | ⟨⟩ <;> simp [spec_DashOk_l0_X]
  · clear H h_1 q
    rintro x3 o R hf hR
    have H : HS (spec_DashOk_l0 a0 x3) o := hf
    clear hf; unfold spec_DashOk_l0 at H
    try simp -implicitDefEqProofs at H
    refine Tr.of_vc (cl := tabC [(58, spec_l01In_x)]) (E := E0) [] (tab_cons k_spec_l01In tab_nil) hm (by rw [hn]; decide +kernel) ?_
    try simp -implicitDefEqProofs (maxSteps := 2000000) [-selQ_sel, spec_DashOk_l0_S]
    refine Hid.brV (fun h_2 => ?_) (fun h_2 => ?_)
    · replace H := HS.cnd_t h_2 H
      try simp -implicitDefEqProofs (maxSteps := 2000000) [-selQ_sel, h_2]
      have hr := (HS.some H).symm; subst hr
      exact Hid.mk ⟨(spec_DashOk_l0_X a0 (.inl ())).2, Wk.ofk [] hk (by rfl) (by simp -implicitDefEqProofs [spec_DashOk_l0_X, h_2]) (by simp -implicitDefEqProofs [spec_DashOk_l0_X, h_2]), hR⟩
    · replace H := HS.cnd_f h_2 H
      try simp -implicitDefEqProofs (maxSteps := 2000000) [-selQ_sel, h_2]
      obtain ⟨v4, h_3, H⟩ := HS.bnd H
      try simp -implicitDefEqProofs (maxSteps := 2000000) [-selQ_sel, h_2, h_3]
      obtain ⟨v5, h_4, H⟩ := HS.bnd H
      try simp -implicitDefEqProofs (maxSteps := 2000000) [-selQ_sel, h_2, h_3, h_4]
      refine Hid.brV (fun h_5 => ?_) (fun h_5 => ?_)
      · replace H := HS.cnd_t h_5 H
        try simp -implicitDefEqProofs (maxSteps := 2000000) [-selQ_sel, h_2, h_3, h_4, h_5]
        have hr := (HS.some H).symm; subst hr
        exact Hid.mk ⟨spec_DashOk_l0_S a0 (IntKind.i64.wrap (x3 + 1)), Wk.ofk [] hk (by rfl) (by simp -implicitDefEqProofs [spec_DashOk_l0_S, h_2, h_3, h_4, h_5]) (by simp -implicitDefEqProofs [spec_DashOk_l0_S, h_2, h_3, h_4, h_5]), hR⟩
      · replace H := HS.cnd_f h_5 H
        try simp -implicitDefEqProofs (maxSteps := 2000000) [-selQ_sel, h_2, h_3, h_4, h_5]
        have hr := (HS.some H).symm; subst hr
        exact Hid.mk ⟨(spec_DashOk_l0_X a0 (.inr ())).2, Wk.ofk [] hk (by rfl) (by simp -implicitDefEqProofs [spec_DashOk_l0_X, h_2, h_3, h_4, h_5]) (by simp -implicitDefEqProofs [spec_DashOk_l0_X, h_2, h_3, h_4, h_5]), hR⟩
  · rcases q with ⟨⟩ | ⟨⟩
    · dsimp only at H
      try simp -implicitDefEqProofs (maxSteps := 2000000) [-selQ_sel, spec_DashOk_l0_X]
      refine Hid.selQ (fun h_6 => ?_) (fun h_6 => ?_)
      · replace H := HS.cnd_t h_6 H
        try simp -implicitDefEqProofs (maxSteps := 2000000) [-selQ_sel, h_6]
        have hr := (HS.some H).symm; subst hr
        refine Hid.mk ⟨_, Wk.refl _, ?_⟩
        try simp -implicitDefEqProofs (maxSteps := 2000000) [-selQ_sel, h_6]
      · replace H := HS.cnd_f h_6 H
        try simp -implicitDefEqProofs (maxSteps := 2000000) [-selQ_sel, h_6]
        have hr := (HS.some H).symm; subst hr
        refine Hid.mk ⟨_, Wk.refl _, ?_⟩
        try simp -implicitDefEqProofs (maxSteps := 2000000) [-selQ_sel, h_6]
    · dsimp only at H
      try simp -implicitDefEqProofs (maxSteps := 2000000) [-selQ_sel, spec_DashOk_l0_X]
      have hr := (HS.some H).symm; subst hr
      refine Hid.mk ⟨_, Wk.refl _, ?_⟩
      try simp -implicitDefEqProofs (maxSteps := 2000000) [-selQ_sel]
theorem impl_pointsOk_ok0 (hm : Try.prog.follows .mixedOrders = true) (k_impl_PointOk : Sound Try.prog 115 impl_PointOk_x) : Sound Try.prog 112 impl_pointsOk_x := by
  refine xOf_sound fun q r h => ?_
  revert h; revert r; revert q; intro a0 r h
  refine fn_ok E0 hm Try.func112 rfl (by decide +kernel) (by rfl) fun Γ hn hk => ?_
  dsimp only [impl_pointsOk_e, impl_pointsOk_v]
  replace hn : Γ.n = 15 := hn
  replace hk : Γ.k = 0 := hk
  have H : HS (impl_pointsOk a0) r := h
  clear h; unfold impl_pointsOk at H
  try simp -implicitDefEqProofs at H
  refine Tr.of_vc (cl := tabC [(115, impl_PointOk_x)]) (E := E0) [] (tab_cons k_impl_PointOk tab_nil) hm (by rw [hn]; decide +kernel) ?_
  try simp -implicitDefEqProofs (maxSteps := 2000000) [-selQ_sel]
  obtain ⟨q, h_1, H⟩ := HS.bnd H
  refine Hid.mk (Tr.weak (s' := (impl_pointsOk_l0_S a0) 0) (Wk.ofk [] hk (by rfl) (by simp -implicitDefEqProofs [impl_pointsOk_l0_S]) (by simp -implicitDefEqProofs [impl_pointsOk_l0_S])) ?_)
  refine wp_loop_of (S := (impl_pointsOk_l0_S a0)) (f := (impl_pointsOk_l0 a0)) (xt := (impl_pointsOk_l0_X a0)) ?_ ?_ h_1 ?_
  · intro q; rcases q with ⟨⟩ | ⟨⟩ <;> simp [impl_pointsOk_l0_X]
  · clear H h_1 q
    rintro x3 o R hf hR
    have H : HS (impl_pointsOk_l0 a0 x3) o := hf
    clear hf; unfold impl_pointsOk_l0 at H
    try simp -implicitDefEqProofs at H
    refine Tr.of_vc (cl := tabC [(115, impl_PointOk_x)]) (E := E0) [] (tab_cons k_impl_PointOk tab_nil) hm (by rw [hn]; decide +kernel) ?_
    try simp -implicitDefEqProofs (maxSteps := 2000000) [-selQ_sel, impl_pointsOk_l0_S]
    refine Hid.brV (fun h_2 => ?_) (fun h_2 => ?_)
    · replace H := HS.cnd_t h_2 H
      try simp -implicitDefEqProofs (maxSteps := 2000000) [-selQ_sel, h_2]
      have hr := (HS.some H).symm; subst hr
      exact Hid.mk ⟨(impl_pointsOk_l0_X a0 (.inl ())).2, Wk.ofk [] hk (by rfl) (by simp -implicitDefEqProofs [impl_pointsOk_l0_X, h_2]) (by simp -implicitDefEqProofs [impl_pointsOk_l0_X, h_2]), hR⟩
    · replace H := HS.cnd_f h_2 H
      try simp -implicitDefEqProofs (maxSteps := 2000000) [-selQ_sel, h_2]
      obtain ⟨v4, h_3, H⟩ := HS.bnd H
      try simp -implicitDefEqProofs (maxSteps := 2000000) [-selQ_sel, h_2, h_3]
      obtain ⟨v5, h_4, H⟩ := HS.bnd H
      try simp -implicitDefEqProofs (maxSteps := 2000000) [-selQ_sel, h_2, h_3, h_4]
      refine Hid.brV (fun h_5 => ?_) (fun h_5 => ?_)
      · replace H := HS.cnd_t h_5 H
        try simp -implicitDefEqProofs (maxSteps := 2000000) [-selQ_sel, h_2, h_3, h_4, h_5]
        have hr := (HS.some H).symm; subst hr
        exact Hid.mk ⟨impl_pointsOk_l0_S a0 (IntKind.i64.wrap (x3 + 1)), Wk.ofk [] hk (by rfl) (by simp -implicitDefEqProofs [impl_pointsOk_l0_S, h_2, h_3, h_4, h_5]) (by simp -implicitDefEqProofs [impl_pointsOk_l0_S, h_2, h_3, h_4, h_5]), hR⟩
      · replace H := HS.cnd_f h_5 H
        try simp -implicitDefEqProofs (maxSteps := 2000000) [-selQ_sel, h_2, h_3, h_4, h_5]
        have hr := (HS.some H).symm; subst hr
        exact Hid.mk ⟨(impl_pointsOk_l0_X a0 (.inr ())).2, Wk.ofk [] hk (by rfl) (by simp -implicitDefEqProofs [impl_pointsOk_l0_X, h_2, h_3, h_4, h_5]) (by simp -implicitDefEqProofs [impl_pointsOk_l0_X, h_2, h_3, h_4, h_5]), hR⟩
  · rcases q with ⟨⟩ | ⟨⟩
    · dsimp only at H
      try simp -implicitDefEqProofs (maxSteps := 2000000) [-selQ_sel, impl_pointsOk_l0_X]
      have hr := (HS.some H).symm; subst hr
      refine Hid.mk ⟨_, Wk.refl _, ?_⟩
      try simp -implicitDefEqProofs (maxSteps := 2000000) [-selQ_sel]
    · dsimp only at H
      try simp -implicitDefEqProofs (maxSteps := 2000000) [-selQ_sel, impl_pointsOk_l0_X]
      have hr := (HS.some H).symm; subst hr
      refine Hid.mk ⟨_, Wk.refl _, ?_⟩
      try simp -implicitDefEqProofs (maxSteps := 2000000) [-selQ_sel]
theorem spec_l04Mat_ok0 (hm : Try.prog.follows .mixedOrders = true) (k_spec_l01Below : Sound Try.prog 42 spec_l01Below_x) (k_spec_Shift : Sound Try.prog 106 spec_Shift_x) : Sound Try.prog 76 spec_l04Mat_x := by
  refine xOf_sound fun q r h => ?_
  revert h; revert r; revert q; intro a0 r h
  refine fn_ok E0 hm Try.func76 rfl (by decide +kernel) (by rfl) fun Γ hn hk => ?_
  dsimp only [spec_l04Mat_e, spec_l04Mat_v]
  replace hn : Γ.n = 36 := hn
  replace hk : Γ.k = 1 := hk
  have H : HS (spec_l04Mat a0) r := h
  clear h; unfold spec_l04Mat at H
  try simp -implicitDefEqProofs at H
  refine Tr.of_vc (cl := tabC [(42, spec_l01Below_x), (106, spec_Shift_x)]) (E := E0) [] (tab_cons k_spec_l01Below (tab_cons k_spec_Shift tab_nil)) hm (by rw [hn]; decide +kernel) ?_
  try simp -implicitDefEqProofs (maxSteps := 2000000) [-selQ_sel]
  obtain ⟨⟨w2, w3⟩, h_1, H⟩ := HS.bnd H
  dsimp only at H
  try simp -implicitDefEqProofs (maxSteps := 2000000) [-selQ_sel, h_1]
  obtain ⟨⟨w5, w6⟩, h_2, H⟩ := HS.bnd H
  dsimp only at H
  try simp -implicitDefEqProofs (maxSteps := 2000000) [-selQ_sel, h_1, h_2]
  obtain ⟨v7, h_3, H⟩ := HS.bnd H
  try simp -implicitDefEqProofs (maxSteps := 2000000) [-selQ_sel, h_1, h_2, h_3]
  obtain ⟨⟨w9, w10⟩, h_4, H⟩ := HS.bnd H
  dsimp only at H
  try simp -implicitDefEqProofs (maxSteps := 2000000) [-selQ_sel, h_1, h_2, h_3, h_4]
  refine Hid.brV (fun h_5 => ?_) (fun h_5 => ?_)
  · replace H := HS.cnd_t h_5 H
    try simp -implicitDefEqProofs (maxSteps := 2000000) [-selQ_sel, h_1, h_2, h_3, h_4, h_5]
    obtain ⟨⟨w12, w13⟩, h_6, H⟩ := HS.bnd H
    dsimp only at H
    try simp -implicitDefEqProofs (maxSteps := 2000000) [-selQ_sel, h_1, h_2, h_3, h_4, h_5, h_6]
    obtain ⟨⟨w15, w16⟩, h_7, H⟩ := HS.bnd H
    dsimp only at H
    try simp -implicitDefEqProofs (maxSteps := 2000000) [-selQ_sel, h_1, h_2, h_3, h_4, h_5, h_6, h_7]
    have hr := (HS.some H).symm; subst hr
    refine Hid.mk ⟨_, Wk.refl _, ?_⟩
    try simp -implicitDefEqProofs (maxSteps := 2000000) [-selQ_sel, h_1, h_2, h_3, h_4, h_5, h_6, h_7]
  · replace H := HS.cnd_f h_5 H
    try simp -implicitDefEqProofs (maxSteps := 2000000) [-selQ_sel, h_1, h_2, h_3, h_4, h_5]
    refine Hid.brV (fun h_8 => ?_) (fun h_8 => ?_)
    · replace H := HS.cnd_t h_8 H
      try simp -implicitDefEqProofs (maxSteps := 2000000) [-selQ_sel, h_1, h_2, h_3, h_4, h_5, h_8]
      have hr := (HS.some H).symm; subst hr
      refine Hid.mk ⟨_, Wk.refl _, ?_⟩
      try simp -implicitDefEqProofs (maxSteps := 2000000) [-selQ_sel, h_1, h_2, h_3, h_4, h_5, h_8]
    · replace H := HS.cnd_f h_8 H
      try simp -implicitDefEqProofs (maxSteps := 2000000) [-selQ_sel, h_1, h_2, h_3, h_4, h_5, h_8]
      refine Hid.brV (fun h_9 => ?_) (fun h_9 => ?_)
      · replace H := HS.cnd_t h_9 H
        try simp -implicitDefEqProofs (maxSteps := 2000000) [-selQ_sel, h_1, h_2, h_3, h_4, h_5, h_8, h_9]
        obtain ⟨⟨w18, w19⟩, h_10, H⟩ := HS.bnd H
        dsimp only at H
        try simp -implicitDefEqProofs (maxSteps := 2000000) [-selQ_sel, h_1, h_2, h_3, h_4, h_5, h_8, h_9, h_10]
        have hr := (HS.some H).symm; subst hr
        refine Hid.mk ⟨_, Wk.refl _, ?_⟩
        try simp -implicitDefEqProofs (maxSteps := 2000000) [-selQ_sel, h_1, h_2, h_3, h_4, h_5, h_8, h_9, h_10]
      · replace H := HS.cnd_f h_9 H
        try simp -implicitDefEqProofs (maxSteps := 2000000) [-selQ_sel, h_1, h_2, h_3, h_4, h_5, h_8, h_9]
        have hr := (HS.some H).symm; subst hr
        refine Hid.mk ⟨_, Wk.refl _, ?_⟩
        try simp -implicitDefEqProofs (maxSteps := 2000000) [-selQ_sel, h_1, h_2, h_3, h_4, h_5, h_8, h_9]
theorem spec_NodeAt_ok0 (hm : Try.prog.follows .mixedOrders = true) : Sound Try.prog 15 spec_NodeAt_x := by
  refine xOf_sound fun q r h => ?_
  obtain ⟨a0, a1⟩ := q
  refine fn_ok E0 hm Try.func15 rfl (by decide +kernel) (by rfl) fun Γ hn hk => ?_
  dsimp only [spec_NodeAt_e, spec_NodeAt_v]
  replace hn : Γ.n = 22 := hn
  replace hk : Γ.k = 0 := hk
  have H : HS (spec_NodeAt a0 a1) r := h
  clear h; unfold spec_NodeAt at H
  try simp -implicitDefEqProofs at H
  refine Tr.of_vc (cl := tabC []) (E := E0) [] tab_nil hm (by rw [hn]; decide +kernel) ?_
  try simp -implicitDefEqProofs (maxSteps := 2000000) [-selQ_sel]
  obtain ⟨q, h_1, H⟩ := HS.bnd H
  refine Hid.mk (Tr.weak (s' := (spec_NodeAt_l0_S a0 a1) 0) (Wk.ofk [0] hk (by rfl) (by simp -implicitDefEqProofs [spec_NodeAt_l0_S]) (by simp -implicitDefEqProofs [spec_NodeAt_l0_S])) ?_)
  refine wp_loop_of (S := (spec_NodeAt_l0_S a0 a1)) (f := (spec_NodeAt_l0 a0 a1)) (xt := (spec_NodeAt_l0_X a0 a1)) ?_ ?_ h_1 ?_
  · intro q; rcases q with ⟨⟩ | y4 <;> simp [spec_NodeAt_l0_X]
  · clear H h_1 q
    rintro x2 o R hf hR
    have H : HS (spec_NodeAt_l0 a0 a1 x2) o := hf
    clear hf; unfold spec_NodeAt_l0 at H
    try simp -implicitDefEqProofs at H
    refine Tr.of_vc (cl := tabC []) (E := E0) [] tab_nil hm (by rw [hn]; decide +kernel) ?_
    try simp -implicitDefEqProofs (maxSteps := 2000000) [-selQ_sel, spec_NodeAt_l0_S]
    refine Hid.brV (fun h_2 => ?_) (fun h_2 => ?_)
    · replace H := HS.cnd_t h_2 H
      try simp -implicitDefEqProofs (maxSteps := 2000000) [-selQ_sel, h_2]
      have hr := (HS.some H).symm; subst hr
      exact Hid.mk ⟨(spec_NodeAt_l0_X a0 a1 (.inl ())).2, Wk.ofk [] hk (by rfl) (by simp -implicitDefEqProofs [spec_NodeAt_l0_X, h_2]) (by simp -implicitDefEqProofs [spec_NodeAt_l0_X, h_2]), hR⟩
    · replace H := HS.cnd_f h_2 H
      try simp -implicitDefEqProofs (maxSteps := 2000000) [-selQ_sel, h_2]
      obtain ⟨v3, h_3, H⟩ := HS.bnd H
      try simp -implicitDefEqProofs (maxSteps := 2000000) [-selQ_sel, h_2, h_3]
      refine Hid.brV (fun h_4 => ?_) (fun h_4 => ?_)
      · replace H := HS.cnd_t h_4 H
        try simp -implicitDefEqProofs (maxSteps := 2000000) [-selQ_sel, h_2, h_3, h_4]
        have hr := (HS.some H).symm; subst hr
        exact Hid.mk ⟨(spec_NodeAt_l0_X a0 a1 (.inr x2)).2, Wk.ofk [] hk (by rfl) (by simp -implicitDefEqProofs [spec_NodeAt_l0_X, h_2, h_3, h_4]) (by simp -implicitDefEqProofs [spec_NodeAt_l0_X, h_2, h_3, h_4]), hR⟩
      · replace H := HS.cnd_f h_4 H
        try simp -implicitDefEqProofs (maxSteps := 2000000) [-selQ_sel, h_2, h_3, h_4]
        have hr := (HS.some H).symm; subst hr
        exact Hid.mk ⟨spec_NodeAt_l0_S a0 a1 (IntKind.i64.wrap (x2 + 1)), Wk.ofk [0] hk (by rfl) (by simp -implicitDefEqProofs [spec_NodeAt_l0_S, h_2, h_3, h_4]) (by simp -implicitDefEqProofs [spec_NodeAt_l0_S, h_2, h_3, h_4]), hR⟩
  · rcases q with ⟨⟩ | y4
    · dsimp only at H
      try simp -implicitDefEqProofs (maxSteps := 2000000) [-selQ_sel, spec_NodeAt_l0_X]
      have hr := (HS.some H).symm; subst hr
      refine Hid.mk ⟨_, Wk.refl _, ?_⟩
      try simp -implicitDefEqProofs (maxSteps := 2000000) [-selQ_sel]
    · dsimp only at H
      try simp -implicitDefEqProofs (maxSteps := 2000000) [-selQ_sel, spec_NodeAt_l0_X]
      have hr := (HS.some H).symm; subst hr
      refine Hid.mk ⟨_, Wk.refl _, ?_⟩
      try simp -implicitDefEqProofs (maxSteps := 2000000) [-selQ_sel]
theorem impl_ColorOk_ok0 (hm : Try.prog.follows .mixedOrders = true) (k_impl_isByte : Sound Try.prog 86 impl_isByte_x) : Sound Try.prog 114 impl_ColorOk_x := by
  refine xOf_sound fun q r h => ?_
  revert h; revert r; revert q; intro a0 r h
  refine fn_ok E0 hm Try.func114 rfl (by decide +kernel) (by rfl) fun Γ hn hk => ?_
  dsimp only [impl_ColorOk_e, impl_ColorOk_v]
  replace hn : Γ.n = 21 := hn
  replace hk : Γ.k = 0 := hk
  have H : HS (impl_ColorOk a0) r := h
  clear h; unfold impl_ColorOk at H
  try simp -implicitDefEqProofs at H
  refine Tr.of_vc (cl := tabC [(86, impl_isByte_x)]) (E := E0) [] (tab_cons k_impl_isByte tab_nil) hm (by rw [hn]; decide +kernel) ?_
  try simp -implicitDefEqProofs (maxSteps := 2000000) [-selQ_sel]
  obtain ⟨v1, h_1, H⟩ := HS.bnd H
  try simp -implicitDefEqProofs (maxSteps := 2000000) [-selQ_sel, h_1]
  refine Hid.selQ (fun h_2 => ?_) (fun h_2 => ?_)
  · replace H := HS.cnd_t h_2 H
    try simp -implicitDefEqProofs (maxSteps := 2000000) [-selQ_sel, h_1, h_2]
    obtain ⟨v2, h_3, H⟩ := HS.bnd H
    try simp -implicitDefEqProofs (maxSteps := 2000000) [-selQ_sel, h_1, h_2, h_3]
    refine Hid.selQ (fun h_4 => ?_) (fun h_4 => ?_)
    · replace H := HS.cnd_t h_4 H
      try simp -implicitDefEqProofs (maxSteps := 2000000) [-selQ_sel, h_1, h_2, h_3, h_4]
      obtain ⟨v3, h_5, H⟩ := HS.bnd H
      try simp -implicitDefEqProofs (maxSteps := 2000000) [-selQ_sel, h_1, h_2, h_3, h_4, h_5]
      refine Hid.selQ (fun h_6 => ?_) (fun h_6 => ?_)
      · replace H := HS.cnd_t h_6 H
        try simp -implicitDefEqProofs (maxSteps := 2000000) [-selQ_sel, h_1, h_2, h_3, h_4, h_5, h_6]
        obtain ⟨v4, h_7, H⟩ := HS.bnd H
        try simp -implicitDefEqProofs (maxSteps := 2000000) [-selQ_sel, h_1, h_2, h_3, h_4, h_5, h_6, h_7]
        have hr := (HS.some H).symm; subst hr
        refine Hid.mk ⟨_, Wk.refl _, ?_⟩
        try simp -implicitDefEqProofs (maxSteps := 2000000) [-selQ_sel, h_1, h_2, h_3, h_4, h_5, h_6, h_7]
      · replace H := HS.cnd_f h_6 H
        try simp -implicitDefEqProofs (maxSteps := 2000000) [-selQ_sel, h_1, h_2, h_3, h_4, h_5, h_6]
        have hr := (HS.some H).symm; subst hr
        refine Hid.mk ⟨_, Wk.refl _, ?_⟩
        try simp -implicitDefEqProofs (maxSteps := 2000000) [-selQ_sel, h_1, h_2, h_3, h_4, h_5, h_6]
    · replace H := HS.cnd_f h_4 H
      try simp -implicitDefEqProofs (maxSteps := 2000000) [-selQ_sel, h_1, h_2, h_3, h_4]
      have hr := (HS.some H).symm; subst hr
      refine Hid.mk ⟨_, Wk.refl _, ?_⟩
      try simp -implicitDefEqProofs (maxSteps := 2000000) [-selQ_sel, h_1, h_2, h_3, h_4]
  · replace H := HS.cnd_f h_2 H
    try simp -implicitDefEqProofs (maxSteps := 2000000) [-selQ_sel, h_1, h_2]
    have hr := (HS.some H).symm; subst hr
    refine Hid.mk ⟨_, Wk.refl _, ?_⟩
    try simp -implicitDefEqProofs (maxSteps := 2000000) [-selQ_sel, h_1, h_2]
theorem spec_l01Below_ok0 (hm : Try.prog.follows .mixedOrders = true) (k_spec_l01Byte : Sound Try.prog 79 spec_l01Byte_x) : Sound Try.prog 42 spec_l01Below_x := by
  refine xOf_sound fun q r h => ?_
  obtain ⟨a0, a1⟩ := q
  refine fn_ok E0 hm Try.func42 rfl (by decide +kernel) (by rfl) fun Γ hn hk => ?_
  dsimp only [spec_l01Below_e, spec_l01Below_v]
  replace hn : Γ.n = 37 := hn
  replace hk : Γ.k = 1 := hk
  have H : HS (spec_l01Below a0 a1) r := h
  clear h; unfold spec_l01Below at H
  try simp -implicitDefEqProofs at H
  refine Tr.of_vc (cl := tabC [(79, spec_l01Byte_x)]) (E := E0) [] (tab_cons k_spec_l01Byte tab_nil) hm (by rw [hn]; decide +kernel) ?_
  try simp -implicitDefEqProofs (maxSteps := 2000000) [-selQ_sel]
  refine Hid.brV (fun h_1 => ?_) (fun h_1 => ?_)
  · replace H := HS.cnd_t h_1 H
    try simp -implicitDefEqProofs (maxSteps := 2000000) [-selQ_sel, h_1]
    have hr := (HS.some H).symm; subst hr
    refine Hid.mk ⟨_, Wk.refl _, ?_⟩
    try simp -implicitDefEqProofs (maxSteps := 2000000) [-selQ_sel, h_1]
  · replace H := HS.cnd_f h_1 H
    try simp -implicitDefEqProofs (maxSteps := 2000000) [-selQ_sel, h_1]
    refine Hid.brV (fun h_2 => ?_) (fun h_2 => ?_)
    · replace H := HS.cnd_t h_2 H
      try simp -implicitDefEqProofs (maxSteps := 2000000) [-selQ_sel, h_1, h_2]
      obtain ⟨⟨w2, w3⟩, h_3, H⟩ := HS.bnd H
      dsimp only at H
      try simp -implicitDefEqProofs (maxSteps := 2000000) [-selQ_sel, h_1, h_2, h_3]
      obtain ⟨h_4, H⟩ := HS.chkP H
      try simp -implicitDefEqProofs (maxSteps := 2000000) [-selQ_sel, h_1, h_2, h_3, h_4]
      have hr := (HS.some H).symm; subst hr
      refine Hid.mk ⟨_, Wk.refl _, ?_⟩
      try simp -implicitDefEqProofs (maxSteps := 2000000) [-selQ_sel, h_1, h_2, h_3, h_4]
    · replace H := HS.cnd_f h_2 H
      try simp -implicitDefEqProofs (maxSteps := 2000000) [-selQ_sel, h_1, h_2]
      obtain ⟨⟨w5, w6⟩, h_5, H⟩ := HS.bnd H
      dsimp only at H
      try simp -implicitDefEqProofs (maxSteps := 2000000) [-selQ_sel, h_1, h_2, h_5]
      obtain ⟨⟨w8, w9⟩, h_6, H⟩ := HS.bnd H
      dsimp only at H
      try simp -implicitDefEqProofs (maxSteps := 2000000) [-selQ_sel, h_1, h_2, h_5, h_6]
      obtain ⟨⟨w11, w12⟩, h_7, H⟩ := HS.bnd H
      dsimp only at H
      try simp -implicitDefEqProofs (maxSteps := 2000000) [-selQ_sel, h_1, h_2, h_5, h_6, h_7]
      obtain ⟨⟨w14, w15⟩, h_8, H⟩ := HS.bnd H
      dsimp only at H
      try simp -implicitDefEqProofs (maxSteps := 2000000) [-selQ_sel, h_1, h_2, h_5, h_6, h_7, h_8]
      obtain ⟨h_9, H⟩ := HS.chkP H
      try simp -implicitDefEqProofs (maxSteps := 2000000) [-selQ_sel, h_1, h_2, h_5, h_6, h_7, h_8, h_9]
      have hr := (HS.some H).symm; subst hr
      refine Hid.mk ⟨_, Wk.refl _, ?_⟩
      try simp -implicitDefEqProofs (maxSteps := 2000000) [-selQ_sel, h_1, h_2, h_5, h_6, h_7, h_8, h_9]
theorem spec_NeedOf_ok0 (hm : Try.prog.follows .mixedOrders = true) (k_spec_l01In : Sound Try.prog 58 spec_l01In_x) : Sound Try.prog 108 spec_NeedOf_x := by
  refine xOf_sound fun q r h => ?_
  revert h; revert r; revert q; intro a0 r h
  refine fn_ok E0 hm Try.func108 rfl (by decide +kernel) (by rfl) fun Γ hn hk => ?_
  dsimp only [spec_NeedOf_e, spec_NeedOf_v]
  replace hn : Γ.n = 13 := hn
  replace hk : Γ.k = 0 := hk
  have H : HS (spec_NeedOf a0) r := h
  clear h; unfold spec_NeedOf at H
  try simp -implicitDefEqProofs at H
  refine Tr.of_vc (cl := tabC [(58, spec_l01In_x)]) (E := E0) [] (tab_cons k_spec_l01In tab_nil) hm (by rw [hn]; decide +kernel) ?_
  try simp -implicitDefEqProofs (maxSteps := 2000000) [-selQ_sel]
  obtain ⟨v1, h_1, H⟩ := HS.bnd H
  try simp -implicitDefEqProofs (maxSteps := 2000000) [-selQ_sel, h_1]
  refine Hid.brV (fun h_2 => ?_) (fun h_2 => ?_)
  · replace H := HS.cnd_t h_2 H
    try simp -implicitDefEqProofs (maxSteps := 2000000) [-selQ_sel, h_1, h_2]
    obtain ⟨v2, h_3, H⟩ := HS.bnd H
    have g_4 := idx_get h_3
    have g_5 := idx_map (e := (AV.int .i64)) h_3
    have g_6 := idx_get g_5
    simp -implicitDefEqProofs at g_5 g_6
    try simp -implicitDefEqProofs (maxSteps := 2000000) [-selQ_sel, h_1, h_2, h_3, g_4, g_5, g_6]
    have hr := (HS.some H).symm; subst hr
    refine Hid.mk ⟨_, Wk.refl _, ?_⟩
    try simp -implicitDefEqProofs (maxSteps := 2000000) [-selQ_sel, h_1, h_2, h_3, g_4, g_5, g_6]
  · replace H := HS.cnd_f h_2 H
    try simp -implicitDefEqProofs (maxSteps := 2000000) [-selQ_sel, h_1, h_2]
    have hr := (HS.some H).symm; subst hr
    refine Hid.mk ⟨_, Wk.refl _, ?_⟩
    try simp -implicitDefEqProofs (maxSteps := 2000000) [-selQ_sel, h_1, h_2]
theorem spec_l15CopyNode_ok0 (hm : Try.prog.follows .mixedOrders = true) (k_spec_l15CopyPath : Sound Try.prog 98 spec_l15CopyPath_x) : Sound Try.prog 52 spec_l15CopyNode_x := by
  refine xOf_sound fun q r h => ?_
  revert h; revert r; revert q; intro a0 r h
  refine fn_ok E0 hm Try.func52 rfl (by decide +kernel) (by rfl) fun Γ hn hk => ?_
  dsimp only [spec_l15CopyNode_e, spec_l15CopyNode_v]
  replace hn : Γ.n = 17 := hn
  replace hk : Γ.k = 0 := hk
  have H : HS (spec_l15CopyNode a0) r := h
  clear h; unfold spec_l15CopyNode at H
  try simp -implicitDefEqProofs at H
  refine Tr.of_vc (cl := tabC [(98, spec_l15CopyPath_x)]) (E := E0) [] (tab_cons k_spec_l15CopyPath tab_nil) hm (by rw [hn]; decide +kernel) ?_
  try simp -implicitDefEqProofs (maxSteps := 2000000) [-selQ_sel]
  obtain ⟨v1, h_1, H⟩ := HS.bnd H
  try simp -implicitDefEqProofs (maxSteps := 2000000) [-selQ_sel, h_1]
  obtain ⟨v2, h_2, H⟩ := HS.bnd H
  try simp -implicitDefEqProofs (maxSteps := 2000000) [-selQ_sel, h_1, h_2]
  obtain ⟨h_3, H⟩ := HS.chkP H
  try simp -implicitDefEqProofs (maxSteps := 2000000) [-selQ_sel, h_1, h_2, h_3]
  obtain ⟨l3, h_4, H⟩ := HS.nam H
  have m_5 := congrArg (List.map (AV.int .i64)) h_4
  have q_6 := congrArg List.length h_4
  simp -implicitDefEqProofs at m_5 q_6
  try simp only [q_6] at m_5
  try simp only [q_6] at h_3
  try simp -implicitDefEqProofs (maxSteps := 2000000) [-selQ_sel, h_1, h_2, h_3, m_5, q_6]
  have hr := (HS.some H).symm; subst hr
  refine Hid.mk ⟨_, Wk.refl _, ?_⟩
  try simp -implicitDefEqProofs (maxSteps := 2000000) [-selQ_sel, h_1, h_2, h_3, m_5, q_6]
theorem slices_Clone_Point_ok0 (hm : Try.prog.follows .mixedOrders = true) : Sound Try.prog 116 slices_Clone_Point_x := by
  refine xOf_sound fun q r h => ?_
  revert h; revert r; revert q; intro a0 r h
  refine fn_ok E0 hm Try.func116 rfl (by decide +kernel) (by rfl) fun Γ hn hk => ?_
  dsimp only [slices_Clone_Point_e, slices_Clone_Point_v]
  replace hn : Γ.n = 8 := hn
  replace hk : Γ.k = 0 := hk
  have H : HS (slices_Clone_Point a0) r := h
  clear h; unfold slices_Clone_Point at H
  obtain ⟨h_1, H⟩ := HS.chkP H
  have hr := (HS.some H).symm; subst hr
  refine Tr.of_vc (cl := tabC []) (E := E0) [1] tab_nil hm (by rw [hn]; decide +kernel) ?_
  simp -implicitDefEqProofs [-selQ_sel]
  refine Hid.mk (Tr_nil (E := E0) tab_nil (h1 := rfl) (hd1 := fun d h => by cases h; rw [hn]; decide) (ho := rfl) (hg := rfl) (hd := rfl) (hdn := by rw [hn]; decide) (hu := elt_44) (hx := rfl) fun b hb => ?_)
  refine Tr.of_vc (cl := tabC []) (E := E0) [] tab_nil hm (by rw [hn]; decide +kernel) ?_
  simp -implicitDefEqProofs [-selQ_sel, aft, putT]
  refine Hid.brV (fun h_2 => ?_) (fun h_2 => ?_)
  · simp -implicitDefEqProofs [-selQ_sel]
    have h_3 := hb h_2; simp at h_3; subst h_3
    refine Hid.mk ⟨_, Wk.refl _, ?_⟩
    simp -implicitDefEqProofs [-selQ_sel, h_1]
    refine ⟨_, Wk.refl _, ?_⟩
    simp -implicitDefEqProofs [-selQ_sel, h_1]
  · simp -implicitDefEqProofs [-selQ_sel]
    refine Hid.mk ⟨_, Wk.refl _, ?_⟩
    simp -implicitDefEqProofs [-selQ_sel, h_1]
    refine ⟨_, Wk.refl _, ?_⟩
    simp -implicitDefEqProofs [-selQ_sel, h_1]
theorem spec_l01Byte_ok0 (hm : Try.prog.follows .mixedOrders = true) : Sound Try.prog 79 spec_l01Byte_x := by
  refine xOf_sound fun q r h => ?_
  revert h; revert r; revert q; intro a0 r h
  refine fn_ok E0 hm Try.func79 rfl (by decide +kernel) (by rfl) fun Γ hn hk => ?_
  dsimp only [spec_l01Byte_e, spec_l01Byte_v]
  replace hn : Γ.n = 58 := hn
  replace hk : Γ.k = 1 := hk
  have H : HS (spec_l01Byte a0) r := h
  clear h; unfold spec_l01Byte at H
  try simp -implicitDefEqProofs at H
  refine Tr.of_vc (cl := tabC []) (E := E0) [] tab_nil hm (by rw [hn]; decide +kernel) ?_
  try simp -implicitDefEqProofs +decide (maxSteps := 2000000) [-selQ_sel, hokQ_of]
  refine Hid.brV (fun h_1 => ?_) (fun h_1 => ?_)
  · replace H := HS.cnd_t h_1 H
    try simp -implicitDefEqProofs +decide (maxSteps := 2000000) [-selQ_sel, hokQ_of, h_1]
    have hr := (HS.some H).symm; subst hr
    refine Hid.mk ⟨_, Wk.refl _, ?_⟩
    try simp -implicitDefEqProofs +decide (maxSteps := 2000000) [-selQ_sel, hokQ_of, h_1]
  · replace H := HS.cnd_f h_1 H
    try simp -implicitDefEqProofs +decide (maxSteps := 2000000) [-selQ_sel, hokQ_of, h_1]
    obtain ⟨v1, h_2, H⟩ := HS.bnd H
    try simp -implicitDefEqProofs +decide (maxSteps := 2000000) [-selQ_sel, hokQ_of, h_1, h_2]
    have hr := (HS.some H).symm; subst hr
    refine Hid.mk ⟨_, Wk.refl _, ?_⟩
    try simp -implicitDefEqProofs +decide (maxSteps := 2000000) [-selQ_sel, hokQ_of, h_1, h_2]
theorem spec_l15NoPath_ok0 (hm : Try.prog.follows .mixedOrders = true) : Sound Try.prog 95 spec_l15NoPath_x := by
  refine xOf_sound fun q r h => ?_
  revert h; revert r; revert q; intro a0 r h
  refine fn_ok E0 hm Try.func95 rfl (by decide +kernel) (by rfl) fun Γ hn hk => ?_
  dsimp only [spec_l15NoPath_e, spec_l15NoPath_v]
  replace hn : Γ.n = 13 := hn
  replace hk : Γ.k = 0 := hk
  have H : HS (spec_l15NoPath a0) r := h
  clear h; unfold spec_l15NoPath at H
  try simp -implicitDefEqProofs at H
  refine Tr.of_vc (cl := tabC []) (E := E0) [] tab_nil hm (by rw [hn]; decide +kernel) ?_
  try simp -implicitDefEqProofs (maxSteps := 2000000) [-selQ_sel]
  refine Hid.selQ (fun h_1 => ?_) (fun h_1 => ?_)
  · replace H := HS.cnd_t h_1 H
    try simp -implicitDefEqProofs (maxSteps := 2000000) [-selQ_sel, h_1]
    have hr := (HS.some H).symm; subst hr
    refine Hid.mk ⟨_, Wk.refl _, ?_⟩
    try simp -implicitDefEqProofs (maxSteps := 2000000) [-selQ_sel, h_1]
  · replace H := HS.cnd_f h_1 H
    try simp -implicitDefEqProofs (maxSteps := 2000000) [-selQ_sel, h_1]
    have hr := (HS.some H).symm; subst hr
    refine Hid.mk ⟨_, Wk.refl _, ?_⟩
    try simp -implicitDefEqProofs (maxSteps := 2000000) [-selQ_sel, h_1]
theorem spec_l01In_ok0 (hm : Try.prog.follows .mixedOrders = true) : Sound Try.prog 58 spec_l01In_x := by
  refine xOf_sound fun q r h => ?_
  obtain ⟨a0, a1, a2⟩ := q
  refine fn_ok E0 hm Try.func58 rfl (by decide +kernel) (by rfl) fun Γ hn hk => ?_
  dsimp only [spec_l01In_e, spec_l01In_v]
  replace hn : Γ.n = 15 := hn
  replace hk : Γ.k = 0 := hk
  have H : HS (spec_l01In a0 a1 a2) r := h
  clear h; unfold spec_l01In at H
  try simp -implicitDefEqProofs at H
  refine Tr.of_vc (cl := tabC []) (E := E0) [] tab_nil hm (by rw [hn]; decide +kernel) ?_
  try simp -implicitDefEqProofs (maxSteps := 2000000) [-selQ_sel]
  refine Hid.selQ (fun h_1 => ?_) (fun h_1 => ?_)
  · replace H := HS.cnd_t h_1 H
    try simp -implicitDefEqProofs (maxSteps := 2000000) [-selQ_sel, h_1]
    have hr := (HS.some H).symm; subst hr
    refine Hid.mk ⟨_, Wk.refl _, ?_⟩
    try simp -implicitDefEqProofs (maxSteps := 2000000) [-selQ_sel, h_1]
  · replace H := HS.cnd_f h_1 H
    try simp -implicitDefEqProofs (maxSteps := 2000000) [-selQ_sel, h_1]
    have hr := (HS.some H).symm; subst hr
    refine Hid.mk ⟨_, Wk.refl _, ?_⟩
    try simp -implicitDefEqProofs (maxSteps := 2000000) [-selQ_sel, h_1]
theorem impl_NodeAt_ok0 (hm : Try.prog.follows .mixedOrders = true) (k_slices_IndexFunc_Node_NodeAt_1 : Sound Try.prog 80 slices_IndexFunc_Node_NodeAt_1_x) : Sound Try.prog 44 impl_NodeAt_x := by
  refine xOf_sound fun q r h => ?_
  obtain ⟨a0, a1⟩ := q
  refine fn_ok E0 hm Try.func44 rfl (by decide +kernel) (by rfl) fun Γ hn hk => ?_
  dsimp only [impl_NodeAt_e, impl_NodeAt_v]
  replace hn : Γ.n = 9 := hn
  replace hk : Γ.k = 0 := hk
  have H : HS (impl_NodeAt a0 a1) r := h
  clear h; unfold impl_NodeAt at H
  try simp -implicitDefEqProofs at H
  refine Tr.of_vc (cl := tabC [(80, slices_IndexFunc_Node_NodeAt_1_x)]) (E := E0) [] (tab_cons k_slices_IndexFunc_Node_NodeAt_1 tab_nil) hm (by rw [hn]; decide +kernel) ?_
  try simp -implicitDefEqProofs (maxSteps := 2000000) [-selQ_sel]
  obtain ⟨v1, h_1, H⟩ := HS.bnd H
  try simp -implicitDefEqProofs (maxSteps := 2000000) [-selQ_sel, h_1]
  have hr := (HS.some H).symm; subst hr
  refine Hid.mk ⟨_, Wk.refl _, ?_⟩
  try simp -implicitDefEqProofs (maxSteps := 2000000) [-selQ_sel, h_1]
theorem impl_isMode_ok0 (hm : Try.prog.follows .mixedOrders = true) (k_impl_inRange : Sound Try.prog 56 impl_inRange_x) : Sound Try.prog 85 impl_isMode_x := by
  refine xOf_sound fun q r h => ?_
  revert h; revert r; revert q; intro a0 r h
  refine fn_ok E0 hm Try.func85 rfl (by decide +kernel) (by rfl) fun Γ hn hk => ?_
  dsimp only [impl_isMode_e, impl_isMode_v]
  replace hn : Γ.n = 5 := hn
  replace hk : Γ.k = 0 := hk
  have H : HS (impl_isMode a0) r := h
  clear h; unfold impl_isMode at H
  try simp -implicitDefEqProofs at H
  refine Tr.of_vc (cl := tabC [(56, impl_inRange_x)]) (E := E0) [] (tab_cons k_impl_inRange tab_nil) hm (by rw [hn]; decide +kernel) ?_
  try simp -implicitDefEqProofs (maxSteps := 2000000) [-selQ_sel]
  obtain ⟨v1, h_1, H⟩ := HS.bnd H
  try simp -implicitDefEqProofs (maxSteps := 2000000) [-selQ_sel, h_1]
  have hr := (HS.some H).symm; subst hr
  refine Hid.mk ⟨_, Wk.refl _, ?_⟩
  try simp -implicitDefEqProofs (maxSteps := 2000000) [-selQ_sel, h_1]
theorem spec_l15NoPaint_ok0 (hm : Try.prog.follows .mixedOrders = true) : Sound Try.prog 96 spec_l15NoPaint_x := by
  refine xOf_sound fun q r h => ?_
  revert h; revert r; revert q; intro a0 r h
  refine fn_ok E0 hm Try.func96 rfl (by decide +kernel) (by rfl) fun Γ hn hk => ?_
  dsimp only [spec_l15NoPaint_e, spec_l15NoPaint_v]
  replace hn : Γ.n = 6 := hn
  replace hk : Γ.k = 0 := hk
  have H : HS (spec_l15NoPaint a0) r := h
  clear h; unfold spec_l15NoPaint at H
  try simp -implicitDefEqProofs at H
  refine Tr.of_vc (cl := tabC []) (E := E0) [] tab_nil hm (by rw [hn]; decide +kernel) ?_
  try simp -implicitDefEqProofs (maxSteps := 2000000) [-selQ_sel]
  have hr := (HS.some H).symm; subst hr
  refine Hid.mk ⟨_, Wk.refl _, ?_⟩
  try simp -implicitDefEqProofs (maxSteps := 2000000) [-selQ_sel]
theorem spec_Still_ok0 (hm : Try.prog.follows .mixedOrders = true) : Sound Try.prog 75 spec_Still_x := by
  refine xOf_sound fun q r h => ?_
  refine fn_ok E0 hm Try.func75 rfl (by decide +kernel) (by rfl) fun Γ hn hk => ?_
  dsimp only [spec_Still_e, spec_Still_v]
  replace hn : Γ.n = 2 := hn
  replace hk : Γ.k = 0 := hk
  have H : HS (spec_Still) r := h
  clear h; unfold spec_Still at H
  try simp -implicitDefEqProofs at H
  refine Tr.of_vc (cl := tabC []) (E := E0) [] tab_nil hm (by rw [hn]; decide +kernel) ?_
  try simp -implicitDefEqProofs (maxSteps := 2000000) [-selQ_sel]
  have hr := (HS.some H).symm; subst hr
  refine Hid.mk ⟨_, Wk.refl _, ?_⟩
  try simp -implicitDefEqProofs (maxSteps := 2000000) [-selQ_sel]
end Go.Proofs.Ytokobfpimdadmaa.Am
