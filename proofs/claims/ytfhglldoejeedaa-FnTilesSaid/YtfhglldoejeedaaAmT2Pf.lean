import Derived.Test.YtfhglldoejeedaaAmT2Mo
set_option linter.unusedVariables false
set_option linter.unusedSimpArgs false
set_option linter.unusedSectionVars false
namespace Go.Proofs.Ytfhglldoejeedaa.Am
open Go Go.Proofs
set_option maxRecDepth 100000
set_option linter.unusedSimpArgs false
set_option linter.unusedVariables false
set_option maxHeartbeats 4000000
theorem laws_big_ok (hm : Try.prog.follows .mixedOrders = true) : Sound Try.prog 21 laws_big_x := by
  refine xOf_sound fun q r h => ?_
  revert h; revert r; revert q; intro a0 r h
  refine fn_ok E0 hm Try.func21 rfl (by decide +kernel) (by rfl) fun Γ hn hk => ?_
  dsimp only [laws_big_e, laws_big_v]
  replace hn : Γ.n = 6 := hn
  replace hk : Γ.k = 0 := hk
  have H : HS (laws_big a0) r := h
  clear h; unfold laws_big at H
  try simp -implicitDefEqProofs at H
  refine Tr.of_vc (cl := tabC []) (E := E0) [] tab_nil hm (by rw [hn]; decide +kernel) ?_
  simp -implicitDefEqProofs [-selQ_sel]
  obtain rfl := HS.some H
  refine ⟨_, Wk.refl _, ?_⟩
  simp -implicitDefEqProofs [-selQ_sel]
theorem spec_l01New_ok (hm : Try.prog.follows .mixedOrders = true) : Sound Try.prog 94 spec_l01New_x := by
  refine xOf_sound fun q r h => ?_
  revert h; revert r; revert q; intro a0 r h
  refine fn_ok E0 hm Try.func94 rfl (by decide +kernel) (by rfl) fun Γ hn hk => ?_
  dsimp only [spec_l01New_e, spec_l01New_v]
  replace hn : Γ.n = 32 := hn
  replace hk : Γ.k = 0 := hk
  have H : HS (spec_l01New a0) r := h
  clear h; unfold spec_l01New at H
  try simp -implicitDefEqProofs at H
  refine Tr.of_vc (cl := tabC []) (E := E0) [] tab_nil hm (by rw [hn]; decide +kernel) ?_
  simp -implicitDefEqProofs [-selQ_sel]
  obtain ⟨q, h_1, H⟩ := HS.bnd H
  refine Tr.weak (s' := (spec_l01New_l0_S a0) ((IntKind.i64.wrap (28001 + (List.length a0 : Int))), 0)) (Wk.ofk [] hk (by rfl) (by simp -implicitDefEqProofs [spec_l01New_l0_S]) (by simp -implicitDefEqProofs [spec_l01New_l0_S])) ?_
  refine wp_loop_of (S := (spec_l01New_l0_S a0)) (f := (spec_l01New_l0 a0)) (xt := (spec_l01New_l0_X a0)) ?_ ?_ h_1 ?_
  · intro q; simp [spec_l01New_l0_X]
  · clear H h_1 q
    rintro ⟨x2, x3⟩ o R hf hR
    have H : HS (spec_l01New_l0 a0 (x2, x3)) o := hf
    clear hf; unfold spec_l01New_l0 at H
    try simp -implicitDefEqProofs at H
    refine Tr.of_vc (cl := tabC []) (E := E0) [] tab_nil hm (by rw [hn]; decide +kernel) ?_
    simp -implicitDefEqProofs [-selQ_sel, spec_l01New_l0_S]
    refine selQ_cases (fun h_2 => ?_) (fun h_2 => ?_)
    · replace H := HS.cnd_t h_2 H
      simp -implicitDefEqProofs [-selQ_sel, h_2]
      obtain rfl := HS.some H
      exact ⟨(spec_l01New_l0_X a0 x2).2, Wk.ofk [] hk (by rfl) (by simp -implicitDefEqProofs [spec_l01New_l0_X, h_2]) (by simp -implicitDefEqProofs [spec_l01New_l0_X, h_2]), hR⟩
    · replace H := HS.cnd_f h_2 H
      simp -implicitDefEqProofs [-selQ_sel, h_2]
      refine brV_cases (fun h_3 => ?_) (fun h_3 => ?_)
      · replace H := HS.cnd_t h_3 H
        simp -implicitDefEqProofs [-selQ_sel, h_2, h_3]
        obtain rfl := HS.some H
        exact ⟨(spec_l01New_l0_X a0 x2).2, Wk.ofk [] hk (by rfl) (by simp -implicitDefEqProofs [spec_l01New_l0_X, h_2, h_3]) (by simp -implicitDefEqProofs [spec_l01New_l0_X, h_2, h_3]), hR⟩
      · replace H := HS.cnd_f h_3 H
        simp -implicitDefEqProofs [-selQ_sel, h_2, h_3]
        obtain ⟨v4, h_4, H⟩ := HS.bnd H
        simp -implicitDefEqProofs [-selQ_sel, h_2, h_3, h_4]
        obtain rfl := HS.some H
        exact ⟨spec_l01New_l0_S a0 ((andI .i64 (IntKind.i64.wrap ((IntKind.i64.wrap ((IntKind.i64.wrap (x2 * 131)) + (IntKind.i64.wrap v4))) + 7)) 1073741823), (IntKind.i64.wrap (x3 + 1))), Wk.ofk [] hk (by rfl) (by simp -implicitDefEqProofs [spec_l01New_l0_S, h_2, h_3, h_4]) (by simp -implicitDefEqProofs [spec_l01New_l0_S, h_2, h_3, h_4]), hR⟩
  · revert H h_1; revert q; intro y5 h_1 H
    try dsimp only at H
    simp -implicitDefEqProofs [-selQ_sel, spec_l01New_l0_X]
    obtain rfl := HS.some H
    refine ⟨⟨[(2, AV.optr 0 0 3)], [(0, Ob.box [AV.fsl (List.map (AV.int .u8) a0), AV.int .i64 0, AV.int .i64 y5])], 1⟩, Wk.ofk [0] hk (by rfl) (by simp -implicitDefEqProofs []) (by simp -implicitDefEqProofs []), ?_⟩
    simp -implicitDefEqProofs [-selQ_sel]
theorem spec_l01Byte_ok (hm : Try.prog.follows .mixedOrders = true) : Sound Try.prog 95 spec_l01Byte_x := by
  refine xOf_sound fun q r h => ?_
  revert h; revert r; revert q; intro a0 r h
  refine fn_ok E0 hm Try.func95 rfl (by decide +kernel) (by rfl) fun Γ hn hk => ?_
  dsimp only [spec_l01Byte_e, spec_l01Byte_v]
  replace hn : Γ.n = 58 := hn
  replace hk : Γ.k = 1 := hk
  have H : HS (spec_l01Byte a0) r := h
  clear h; unfold spec_l01Byte at H
  try simp -implicitDefEqProofs at H
  refine Tr.of_vc (cl := tabC []) (E := E0) [] tab_nil hm (by rw [hn]; decide +kernel) ?_
  simp -implicitDefEqProofs +decide [-selQ_sel, hokQ_of]
  refine brV_cases (fun h_1 => ?_) (fun h_1 => ?_)
  · replace H := HS.cnd_t h_1 H
    simp -implicitDefEqProofs +decide [-selQ_sel, hokQ_of, h_1]
    obtain rfl := HS.some H
    refine ⟨_, Wk.refl _, ?_⟩
    simp -implicitDefEqProofs +decide [-selQ_sel, hokQ_of, h_1]
  · replace H := HS.cnd_f h_1 H
    simp -implicitDefEqProofs +decide [-selQ_sel, hokQ_of, h_1]
    obtain ⟨v1, h_2, H⟩ := HS.bnd H
    simp -implicitDefEqProofs +decide [-selQ_sel, hokQ_of, h_1, h_2]
    obtain rfl := HS.some H
    refine ⟨_, Wk.refl _, ?_⟩
    simp -implicitDefEqProofs +decide [-selQ_sel, hokQ_of, h_1, h_2]
theorem spec_l01Below_ok (hm : Try.prog.follows .mixedOrders = true) : Sound Try.prog 96 spec_l01Below_x := by
  refine xOf_sound fun q r h => ?_
  obtain ⟨a0, a1⟩ := q
  refine fn_ok E0 hm Try.func96 rfl (by decide +kernel) (by rfl) fun Γ hn hk => ?_
  dsimp only [spec_l01Below_e, spec_l01Below_v]
  replace hn : Γ.n = 37 := hn
  replace hk : Γ.k = 1 := hk
  have H : HS (spec_l01Below a0 a1) r := h
  clear h; unfold spec_l01Below at H
  try simp -implicitDefEqProofs at H
  refine Tr.of_vc (cl := tabC [(95, spec_l01Byte_x)]) (E := E0) [] (tab_cons (spec_l01Byte_ok hm) tab_nil) hm (by rw [hn]; decide +kernel) ?_
  simp -implicitDefEqProofs [-selQ_sel]
  refine brV_cases (fun h_1 => ?_) (fun h_1 => ?_)
  · replace H := HS.cnd_t h_1 H
    simp -implicitDefEqProofs [-selQ_sel, h_1]
    obtain rfl := HS.some H
    refine ⟨_, Wk.refl _, ?_⟩
    simp -implicitDefEqProofs [-selQ_sel, h_1]
  · replace H := HS.cnd_f h_1 H
    simp -implicitDefEqProofs [-selQ_sel, h_1]
    refine brV_cases (fun h_2 => ?_) (fun h_2 => ?_)
    · replace H := HS.cnd_t h_2 H
      simp -implicitDefEqProofs [-selQ_sel, h_1, h_2]
      obtain ⟨⟨w2, w3⟩, h_3, H⟩ := HS.bnd H
      dsimp only at H
      simp -implicitDefEqProofs [-selQ_sel, h_1, h_2, h_3]
      obtain ⟨h_4, H⟩ := HS.chkP H
      simp -implicitDefEqProofs [-selQ_sel, h_1, h_2, h_3, h_4]
      obtain rfl := HS.some H
      refine ⟨_, Wk.refl _, ?_⟩
      simp -implicitDefEqProofs [-selQ_sel, h_1, h_2, h_3, h_4]
    · replace H := HS.cnd_f h_2 H
      simp -implicitDefEqProofs [-selQ_sel, h_1, h_2]
      obtain ⟨⟨w5, w6⟩, h_5, H⟩ := HS.bnd H
      dsimp only at H
      simp -implicitDefEqProofs [-selQ_sel, h_1, h_2, h_5]
      obtain ⟨⟨w8, w9⟩, h_6, H⟩ := HS.bnd H
      dsimp only at H
      simp -implicitDefEqProofs [-selQ_sel, h_1, h_2, h_5, h_6]
      obtain ⟨⟨w11, w12⟩, h_7, H⟩ := HS.bnd H
      dsimp only at H
      simp -implicitDefEqProofs [-selQ_sel, h_1, h_2, h_5, h_6, h_7]
      obtain ⟨⟨w14, w15⟩, h_8, H⟩ := HS.bnd H
      dsimp only at H
      simp -implicitDefEqProofs [-selQ_sel, h_1, h_2, h_5, h_6, h_7, h_8]
      obtain ⟨h_9, H⟩ := HS.chkP H
      simp -implicitDefEqProofs [-selQ_sel, h_1, h_2, h_5, h_6, h_7, h_8, h_9]
      obtain rfl := HS.some H
      refine ⟨_, Wk.refl _, ?_⟩
      simp -implicitDefEqProofs [-selQ_sel, h_1, h_2, h_5, h_6, h_7, h_8, h_9]
theorem spec_DrawPlaces_ok (hm : Try.prog.follows .mixedOrders = true) : Sound Try.prog 22 spec_DrawPlaces_x := by
  refine xOf_sound fun q r h => ?_
  revert h; revert r; revert q; intro a0 r h
  refine fn_ok E0 hm Try.func22 rfl (by decide +kernel) (by rfl) fun Γ hn hk => ?_
  dsimp only [spec_DrawPlaces_e, spec_DrawPlaces_v]
  replace hn : Γ.n = 21 := hn
  replace hk : Γ.k = 0 := hk
  have H : HS (spec_DrawPlaces a0) r := h
  clear h; unfold spec_DrawPlaces at H
  try simp -implicitDefEqProofs at H
  refine Tr.of_vc (cl := tabC [(94, spec_l01New_x), (95, spec_l01Byte_x), (96, spec_l01Below_x)]) (E := E0) [] (tab_cons (spec_l01New_ok hm) (tab_cons (spec_l01Byte_ok hm) (tab_cons (spec_l01Below_ok hm) tab_nil))) hm (by rw [hn]; decide +kernel) ?_
  simp -implicitDefEqProofs [-selQ_sel]
  obtain ⟨v1, h_1, H⟩ := HS.bnd H
  simp -implicitDefEqProofs [-selQ_sel, h_1]
  obtain ⟨⟨w3, w4⟩, h_2, H⟩ := HS.bnd H
  dsimp only at H
  simp -implicitDefEqProofs [-selQ_sel, h_1, h_2]
  obtain ⟨q, h_3, H⟩ := HS.bnd H
  refine Tr.weak (s' := spec_DrawPlaces_l0_S (0, w4.b, w4.i, w4.h, [])) (Wk.ofk [0, 1] hk (by rfl) (by simp -implicitDefEqProofs [spec_DrawPlaces_l0_S, h_1, h_2]) (by simp -implicitDefEqProofs [spec_DrawPlaces_l0_S, h_1, h_2])) ?_
  refine wp_loop_of (S := spec_DrawPlaces_l0_S) (f := spec_DrawPlaces_l0) (xt := spec_DrawPlaces_l0_X) ?_ ?_ h_3 ?_
  · intro q; simp [spec_DrawPlaces_l0_X]
  · clear H h_3 q
    rintro ⟨x8, x9, x10, x11, x12⟩ o R hf hR
    have H : HS (spec_DrawPlaces_l0 (x8, x9, x10, x11, x12)) o := hf
    clear hf; unfold spec_DrawPlaces_l0 at H
    try simp -implicitDefEqProofs at H
    refine Tr.of_vc (cl := tabC [(94, spec_l01New_x), (95, spec_l01Byte_x), (96, spec_l01Below_x)]) (E := E0) [] (tab_cons (spec_l01New_ok hm) (tab_cons (spec_l01Byte_ok hm) (tab_cons (spec_l01Below_ok hm) tab_nil))) hm (by rw [hn]; decide +kernel) ?_
    simp -implicitDefEqProofs [-selQ_sel, spec_DrawPlaces_l0_S]
    refine brV_cases (fun h_4 => ?_) (fun h_4 => ?_)
    · replace H := HS.cnd_t h_4 H
      simp -implicitDefEqProofs [-selQ_sel, h_4]
      obtain rfl := HS.some H
      exact ⟨(spec_DrawPlaces_l0_X x12).2, Wk.ofk [1] hk (by rfl) (by simp -implicitDefEqProofs [spec_DrawPlaces_l0_X, h_4]) (by simp -implicitDefEqProofs [spec_DrawPlaces_l0_X, h_4]), hR⟩
    · replace H := HS.cnd_f h_4 H
      simp -implicitDefEqProofs [-selQ_sel, h_4]
      obtain ⟨⟨w14, w15⟩, h_5, H⟩ := HS.bnd H
      dsimp only at H
      have k_6 := spec_l01Below_k 10000 ((TL01Cur.mk x9 x10 x11).b) ((TL01Cur.mk x9 x10 x11).i) ((TL01Cur.mk x9 x10 x11).h)
      simp -implicitDefEqProofs [-spec_l01Below_k] at k_6
      simp -implicitDefEqProofs [-selQ_sel, h_4, h_5, k_6]
      obtain ⟨h_7, H⟩ := HS.chkP H
      simp -implicitDefEqProofs [-selQ_sel, h_4, h_5, k_6, h_7]
      obtain ⟨l16, h_8, H⟩ := HS.nam H
      have m_9 := congrArg (List.map (AV.int .i64)) h_8
      have q_10 := congrArg List.length h_8
      simp -implicitDefEqProofs at m_9 q_10
      try simp only [q_10] at h_7
      simp -implicitDefEqProofs [-selQ_sel, h_4, h_5, k_6, h_7, m_9, q_10]
      obtain rfl := HS.some H
      exact ⟨spec_DrawPlaces_l0_S ((IntKind.i64.wrap (x8 + 1)), w15.b, w15.i, w15.h, l16), Wk.ofk [0, 1] hk (by rfl) (by simp -implicitDefEqProofs [spec_DrawPlaces_l0_S, h_4, h_5, k_6, h_7, m_9, q_10]) (by simp -implicitDefEqProofs [spec_DrawPlaces_l0_S, h_4, h_5, k_6, h_7, m_9, q_10]), hR⟩
  · revert H h_3; revert q; intro y17 h_3 H
    try dsimp only at H
    simp -implicitDefEqProofs [-selQ_sel, h_1, h_2, spec_DrawPlaces_l0_X]
    obtain rfl := HS.some H
    refine ⟨_, Wk.refl _, ?_⟩
    simp -implicitDefEqProofs [-selQ_sel, h_1, h_2]
theorem impl_inRange_ok (hm : Try.prog.follows .mixedOrders = true) : Sound Try.prog 92 impl_inRange_x := by
  refine xOf_sound fun q r h => ?_
  obtain ⟨a0, a1, a2⟩ := q
  refine fn_ok E0 hm Try.func92 rfl (by decide +kernel) (by rfl) fun Γ hn hk => ?_
  dsimp only [impl_inRange_e, impl_inRange_v]
  replace hn : Γ.n = 15 := hn
  replace hk : Γ.k = 0 := hk
  have H : HS (impl_inRange a0 a1 a2) r := h
  clear h; unfold impl_inRange at H
  try simp -implicitDefEqProofs at H
  refine Tr.of_vc (cl := tabC []) (E := E0) [] tab_nil hm (by rw [hn]; decide +kernel) ?_
  simp -implicitDefEqProofs [-selQ_sel]
  refine selQ_cases (fun h_1 => ?_) (fun h_1 => ?_)
  · replace H := HS.cnd_t h_1 H
    simp -implicitDefEqProofs [-selQ_sel, h_1]
    obtain rfl := HS.some H
    refine ⟨_, Wk.refl _, ?_⟩
    simp -implicitDefEqProofs [-selQ_sel, h_1]
  · replace H := HS.cnd_f h_1 H
    simp -implicitDefEqProofs [-selQ_sel, h_1]
    obtain rfl := HS.some H
    refine ⟨_, Wk.refl _, ?_⟩
    simp -implicitDefEqProofs [-selQ_sel, h_1]
theorem impl_isSide_ok (hm : Try.prog.follows .mixedOrders = true) : Sound Try.prog 90 impl_isSide_x := by
  refine xOf_sound fun q r h => ?_
  revert h; revert r; revert q; intro a0 r h
  refine fn_ok E0 hm Try.func90 rfl (by decide +kernel) (by rfl) fun Γ hn hk => ?_
  dsimp only [impl_isSide_e, impl_isSide_v]
  replace hn : Γ.n = 5 := hn
  replace hk : Γ.k = 0 := hk
  have H : HS (impl_isSide a0) r := h
  clear h; unfold impl_isSide at H
  try simp -implicitDefEqProofs at H
  refine Tr.of_vc (cl := tabC [(92, impl_inRange_x)]) (E := E0) [] (tab_cons (impl_inRange_ok hm) tab_nil) hm (by rw [hn]; decide +kernel) ?_
  simp -implicitDefEqProofs [-selQ_sel]
  obtain ⟨v1, h_1, H⟩ := HS.bnd H
  simp -implicitDefEqProofs [-selQ_sel, h_1]
  obtain rfl := HS.some H
  refine ⟨_, Wk.refl _, ?_⟩
  simp -implicitDefEqProofs [-selQ_sel, h_1]
theorem impl_tilesAlong_ok (hm : Try.prog.follows .mixedOrders = true) : Sound Try.prog 91 impl_tilesAlong_x := by
  refine xOf_sound fun q r h => ?_
  revert h; revert r; revert q; intro a0 r h
  refine fn_ok E0 hm Try.func91 rfl (by decide +kernel) (by rfl) fun Γ hn hk => ?_
  dsimp only [impl_tilesAlong_e, impl_tilesAlong_v]
  replace hn : Γ.n = 7 := hn
  replace hk : Γ.k = 0 := hk
  have H : HS (impl_tilesAlong a0) r := h
  clear h; unfold impl_tilesAlong at H
  try simp -implicitDefEqProofs at H
  refine Tr.of_vc (cl := tabC []) (E := E0) [] tab_nil hm (by rw [hn]; decide +kernel) ?_
  simp -implicitDefEqProofs [-selQ_sel]
  obtain rfl := HS.some H
  refine ⟨_, Wk.refl _, ?_⟩
  simp -implicitDefEqProofs [-selQ_sel]
theorem impl_TileCount_ok (hm : Try.prog.follows .mixedOrders = true) : Sound Try.prog 17 impl_TileCount_x := by
  refine xOf_sound fun q r h => ?_
  obtain ⟨a0, a1⟩ := q
  refine fn_ok E0 hm Try.func17 rfl (by decide +kernel) (by rfl) fun Γ hn hk => ?_
  dsimp only [impl_TileCount_e, impl_TileCount_v]
  replace hn : Γ.n = 18 := hn
  replace hk : Γ.k = 0 := hk
  have H : HS (impl_TileCount a0 a1) r := h
  clear h; unfold impl_TileCount at H
  try simp -implicitDefEqProofs at H
  refine Tr.of_vc (cl := tabC [(90, impl_isSide_x), (91, impl_tilesAlong_x)]) (E := E0) [] (tab_cons (impl_isSide_ok hm) (tab_cons (impl_tilesAlong_ok hm) tab_nil)) hm (by rw [hn]; decide +kernel) ?_
  simp -implicitDefEqProofs [-selQ_sel]
  obtain ⟨v1, h_1, H⟩ := HS.bnd H
  simp -implicitDefEqProofs [-selQ_sel, h_1]
  refine selQ_cases (fun h_2 => ?_) (fun h_2 => ?_)
  · replace H := HS.cnd_t h_2 H
    simp -implicitDefEqProofs [-selQ_sel, h_1, h_2]
    obtain ⟨v2, h_3, H⟩ := HS.bnd H
    simp -implicitDefEqProofs [-selQ_sel, h_1, h_2, h_3]
    refine brV_cases (fun h_4 => ?_) (fun h_4 => ?_)
    · replace H := HS.cnd_t h_4 H
      simp -implicitDefEqProofs [-selQ_sel, h_1, h_2, h_3, h_4]
      obtain ⟨v3, h_5, H⟩ := HS.bnd H
      simp -implicitDefEqProofs [-selQ_sel, h_1, h_2, h_3, h_4, h_5]
      obtain ⟨v4, h_6, H⟩ := HS.bnd H
      simp -implicitDefEqProofs [-selQ_sel, h_1, h_2, h_3, h_4, h_5, h_6]
      obtain rfl := HS.some H
      refine ⟨_, Wk.refl _, ?_⟩
      simp -implicitDefEqProofs [-selQ_sel, h_1, h_2, h_3, h_4, h_5, h_6]
    · replace H := HS.cnd_f h_4 H
      simp -implicitDefEqProofs [-selQ_sel, h_1, h_2, h_3, h_4]
      obtain rfl := HS.some H
      refine ⟨_, Wk.refl _, ?_⟩
      simp -implicitDefEqProofs [-selQ_sel, h_1, h_2, h_3, h_4]
  · replace H := HS.cnd_f h_2 H
    simp -implicitDefEqProofs [-selQ_sel, h_1, h_2]
    obtain rfl := HS.some H
    refine ⟨_, Wk.refl _, ?_⟩
    simp -implicitDefEqProofs [-selQ_sel, h_1, h_2]
theorem impl_Empty_ok (hm : Try.prog.follows .mixedOrders = true) : Sound Try.prog 190 impl_Empty_x := by
  refine xOf_sound fun q r h => ?_
  revert h; revert r; revert q; intro a0 r h
  refine fn_ok E0 hm Try.func190 rfl (by decide +kernel) (by rfl) fun Γ hn hk => ?_
  dsimp only [impl_Empty_e, impl_Empty_v]
  replace hn : Γ.n = 15 := hn
  replace hk : Γ.k = 0 := hk
  have H : HS (impl_Empty a0) r := h
  clear h; unfold impl_Empty at H
  try simp -implicitDefEqProofs at H
  refine Tr.of_vc (cl := tabC []) (E := E0) [] tab_nil hm (by rw [hn]; decide +kernel) ?_
  simp -implicitDefEqProofs [-selQ_sel]
  refine selQ_cases (fun h_1 => ?_) (fun h_1 => ?_)
  · replace H := HS.cnd_t h_1 H
    simp -implicitDefEqProofs [-selQ_sel, h_1]
    obtain rfl := HS.some H
    refine ⟨_, Wk.refl _, ?_⟩
    simp -implicitDefEqProofs [-selQ_sel, h_1]
  · replace H := HS.cnd_f h_1 H
    simp -implicitDefEqProofs [-selQ_sel, h_1]
    obtain rfl := HS.some H
    refine ⟨_, Wk.refl _, ?_⟩
    simp -implicitDefEqProofs [-selQ_sel, h_1]
theorem impl_MeetBox_ok (hm : Try.prog.follows .mixedOrders = true) : Sound Try.prog 93 impl_MeetBox_x := by
  refine xOf_sound fun q r h => ?_
  obtain ⟨a0, a1⟩ := q
  refine fn_ok E0 hm Try.func93 rfl (by decide +kernel) (by rfl) fun Γ hn hk => ?_
  dsimp only [impl_MeetBox_e, impl_MeetBox_v]
  replace hn : Γ.n = 31 := hn
  replace hk : Γ.k = 0 := hk
  have H : HS (impl_MeetBox a0 a1) r := h
  clear h; unfold impl_MeetBox at H
  try simp -implicitDefEqProofs at H
  refine Tr.of_vc (cl := tabC [(190, impl_Empty_x)]) (E := E0) [] (tab_cons (impl_Empty_ok hm) tab_nil) hm (by rw [hn]; decide +kernel) ?_
  simp -implicitDefEqProofs [-selQ_sel]
  obtain ⟨v1, h_1, H⟩ := HS.bnd H
  simp -implicitDefEqProofs [-selQ_sel, h_1]
  refine brV_cases (fun h_2 => ?_) (fun h_2 => ?_)
  · replace H := HS.cnd_t h_2 H
    simp -implicitDefEqProofs [-selQ_sel, h_1, h_2]
    obtain rfl := HS.some H
    refine ⟨_, Wk.refl _, ?_⟩
    simp -implicitDefEqProofs [-selQ_sel, h_1, h_2]
  · replace H := HS.cnd_f h_2 H
    simp -implicitDefEqProofs [-selQ_sel, h_1, h_2]
    obtain rfl := HS.some H
    refine ⟨_, Wk.refl _, ?_⟩
    simp -implicitDefEqProofs [-selQ_sel, h_1, h_2]
theorem impl_TileBox_ok (hm : Try.prog.follows .mixedOrders = true) : Sound Try.prog 19 impl_TileBox_x := by
  refine xOf_sound fun q r h => ?_
  obtain ⟨a0, a1, a2⟩ := q
  refine fn_ok E0 hm Try.func19 rfl (by decide +kernel) (by rfl) fun Γ hn hk => ?_
  dsimp only [impl_TileBox_e, impl_TileBox_v]
  replace hn : Γ.n = 38 := hn
  replace hk : Γ.k = 0 := hk
  have H : HS (impl_TileBox a0 a1 a2) r := h
  clear h; unfold impl_TileBox at H
  try simp -implicitDefEqProofs at H
  refine Tr.of_vc (cl := tabC [(17, impl_TileCount_x), (92, impl_inRange_x), (91, impl_tilesAlong_x), (93, impl_MeetBox_x)]) (E := E0) [] (tab_cons (impl_TileCount_ok hm) (tab_cons (impl_inRange_ok hm) (tab_cons (impl_tilesAlong_ok hm) (tab_cons (impl_MeetBox_ok hm) tab_nil)))) hm (by rw [hn]; decide +kernel) ?_
  simp -implicitDefEqProofs +decide [-selQ_sel, hokQ_of]
  obtain ⟨v1, h_1, H⟩ := HS.bnd H
  simp -implicitDefEqProofs +decide [-selQ_sel, hokQ_of, h_1]
  obtain ⟨v2, h_2, H⟩ := HS.bnd H
  simp -implicitDefEqProofs +decide [-selQ_sel, hokQ_of, h_1, h_2]
  refine brV_cases (fun h_3 => ?_) (fun h_3 => ?_)
  · replace H := HS.cnd_t h_3 H
    simp -implicitDefEqProofs +decide [-selQ_sel, hokQ_of, h_1, h_2, h_3]
    obtain ⟨v3, h_4, H⟩ := HS.bnd H
    simp -implicitDefEqProofs +decide [-selQ_sel, hokQ_of, h_1, h_2, h_3, h_4]
    obtain ⟨h_5, H⟩ := HS.chkP H
    simp -implicitDefEqProofs +decide [-selQ_sel, hokQ_of, h_1, h_2, h_3, h_4, h_5]
    obtain ⟨v4, h_6, H⟩ := HS.bnd H
    simp -implicitDefEqProofs +decide [-selQ_sel, hokQ_of, h_1, h_2, h_3, h_4, h_5, h_6]
    obtain rfl := HS.some H
    refine ⟨_, Wk.refl _, ?_⟩
    simp -implicitDefEqProofs +decide [-selQ_sel, hokQ_of, h_1, h_2, h_3, h_4, h_5, h_6]
  · replace H := HS.cnd_f h_3 H
    simp -implicitDefEqProofs +decide [-selQ_sel, hokQ_of, h_1, h_2, h_3]
    obtain rfl := HS.some H
    refine ⟨_, Wk.refl _, ?_⟩
    simp -implicitDefEqProofs +decide [-selQ_sel, hokQ_of, h_1, h_2, h_3]
theorem spec_InBox_ok (hm : Try.prog.follows .mixedOrders = true) : Sound Try.prog 23 spec_InBox_x := by
  refine xOf_sound fun q r h => ?_
  obtain ⟨a0, a1⟩ := q
  refine fn_ok E0 hm Try.func23 rfl (by decide +kernel) (by rfl) fun Γ hn hk => ?_
  dsimp only [spec_InBox_e, spec_InBox_v]
  replace hn : Γ.n = 31 := hn
  replace hk : Γ.k = 0 := hk
  have H : HS (spec_InBox a0 a1) r := h
  clear h; unfold spec_InBox at H
  try simp -implicitDefEqProofs at H
  refine Tr.of_vc (cl := tabC []) (E := E0) [] tab_nil hm (by rw [hn]; decide +kernel) ?_
  simp -implicitDefEqProofs [-selQ_sel]
  refine selQ_cases (fun h_1 => ?_) (fun h_1 => ?_)
  · replace H := HS.cnd_t h_1 H
    simp -implicitDefEqProofs [-selQ_sel, h_1]
    refine selQ_cases (fun h_2 => ?_) (fun h_2 => ?_)
    · replace H := HS.cnd_t h_2 H
      simp -implicitDefEqProofs [-selQ_sel, h_1, h_2]
      obtain rfl := HS.some H
      refine ⟨_, Wk.refl _, ?_⟩
      simp -implicitDefEqProofs [-selQ_sel, h_1, h_2]
    · replace H := HS.cnd_f h_2 H
      simp -implicitDefEqProofs [-selQ_sel, h_1, h_2]
      refine selQ_cases (fun h_3 => ?_) (fun h_3 => ?_)
      · replace H := HS.cnd_t h_3 H
        simp -implicitDefEqProofs [-selQ_sel, h_1, h_2, h_3]
        obtain rfl := HS.some H
        refine ⟨_, Wk.refl _, ?_⟩
        simp -implicitDefEqProofs [-selQ_sel, h_1, h_2, h_3]
      · replace H := HS.cnd_f h_3 H
        simp -implicitDefEqProofs [-selQ_sel, h_1, h_2, h_3]
        obtain rfl := HS.some H
        refine ⟨_, Wk.refl _, ?_⟩
        simp -implicitDefEqProofs [-selQ_sel, h_1, h_2, h_3]
  · replace H := HS.cnd_f h_1 H
    simp -implicitDefEqProofs [-selQ_sel, h_1]
    obtain rfl := HS.some H
    refine ⟨_, Wk.refl _, ?_⟩
    simp -implicitDefEqProofs [-selQ_sel, h_1]
theorem spec_DrawBoxes_ok (hm : Try.prog.follows .mixedOrders = true) : Sound Try.prog 24 spec_DrawBoxes_x := by
  refine xOf_sound fun q r h => ?_
  revert h; revert r; revert q; intro a0 r h
  refine fn_ok E0 hm Try.func24 rfl (by decide +kernel) (by rfl) fun Γ hn hk => ?_
  dsimp only [spec_DrawBoxes_e, spec_DrawBoxes_v]
  replace hn : Γ.n = 51 := hn
  replace hk : Γ.k = 0 := hk
  have H : HS (spec_DrawBoxes a0) r := h
  clear h; unfold spec_DrawBoxes at H
  try simp -implicitDefEqProofs at H
  refine Tr.of_vc (cl := tabC [(94, spec_l01New_x), (96, spec_l01Below_x)]) (E := E0) [] (tab_cons (spec_l01New_ok hm) (tab_cons (spec_l01Below_ok hm) tab_nil)) hm (by rw [hn]; decide +kernel) ?_
  simp -implicitDefEqProofs +decide [-selQ_sel, hokQ_of]
  obtain ⟨v1, h_1, H⟩ := HS.bnd H
  simp -implicitDefEqProofs +decide [-selQ_sel, hokQ_of, h_1]
  obtain ⟨⟨w3, w4⟩, h_2, H⟩ := HS.bnd H
  dsimp only at H
  simp -implicitDefEqProofs +decide [-selQ_sel, hokQ_of, h_1, h_2]
  obtain ⟨⟨w6, w7⟩, h_3, H⟩ := HS.bnd H
  dsimp only at H
  simp -implicitDefEqProofs +decide [-selQ_sel, hokQ_of, h_1, h_2, h_3]
  obtain ⟨⟨w9, w10⟩, h_4, H⟩ := HS.bnd H
  dsimp only at H
  simp -implicitDefEqProofs +decide [-selQ_sel, hokQ_of, h_1, h_2, h_3, h_4]
  obtain ⟨⟨w12, w13⟩, h_5, H⟩ := HS.bnd H
  dsimp only at H
  simp -implicitDefEqProofs +decide [-selQ_sel, hokQ_of, h_1, h_2, h_3, h_4, h_5]
  obtain ⟨⟨w15, w16⟩, h_6, H⟩ := HS.bnd H
  dsimp only at H
  simp -implicitDefEqProofs +decide [-selQ_sel, hokQ_of, h_1, h_2, h_3, h_4, h_5, h_6]
  obtain ⟨⟨w18, w19⟩, h_7, H⟩ := HS.bnd H
  dsimp only at H
  simp -implicitDefEqProofs +decide [-selQ_sel, hokQ_of, h_1, h_2, h_3, h_4, h_5, h_6, h_7]
  obtain ⟨⟨w21, w22⟩, h_8, H⟩ := HS.bnd H
  dsimp only at H
  simp -implicitDefEqProofs +decide [-selQ_sel, hokQ_of, h_1, h_2, h_3, h_4, h_5, h_6, h_7, h_8]
  obtain ⟨⟨w24, w25⟩, h_9, H⟩ := HS.bnd H
  dsimp only at H
  simp -implicitDefEqProofs +decide [-selQ_sel, hokQ_of, h_1, h_2, h_3, h_4, h_5, h_6, h_7, h_8, h_9]
  obtain ⟨⟨w27, w28⟩, h_10, H⟩ := HS.bnd H
  dsimp only at H
  simp -implicitDefEqProofs +decide [-selQ_sel, hokQ_of, h_1, h_2, h_3, h_4, h_5, h_6, h_7, h_8, h_9, h_10]
  obtain ⟨⟨w30, w31⟩, h_11, H⟩ := HS.bnd H
  dsimp only at H
  simp -implicitDefEqProofs +decide [-selQ_sel, hokQ_of, h_1, h_2, h_3, h_4, h_5, h_6, h_7, h_8, h_9, h_10, h_11]
  obtain rfl := HS.some H
  refine ⟨_, Wk.refl _, ?_⟩
  simp -implicitDefEqProofs +decide [-selQ_sel, hokQ_of, h_1, h_2, h_3, h_4, h_5, h_6, h_7, h_8, h_9, h_10, h_11]
theorem impl_meetsAny_ok (hm : Try.prog.follows .mixedOrders = true) : Sound Try.prog 97 impl_meetsAny_x := by
  refine xOf_sound fun q r h => ?_
  obtain ⟨a0, a1⟩ := q
  refine fn_ok E0 hm Try.func97 rfl (by decide +kernel) (by rfl) fun Γ hn hk => ?_
  dsimp only [impl_meetsAny_e, impl_meetsAny_v]
  replace hn : Γ.n = 19 := hn
  replace hk : Γ.k = 0 := hk
  have H : HS (impl_meetsAny a0 a1) r := h
  clear h; unfold impl_meetsAny at H
  try simp -implicitDefEqProofs at H
  refine Tr.of_vc (cl := tabC [(93, impl_MeetBox_x), (190, impl_Empty_x)]) (E := E0) [] (tab_cons (impl_MeetBox_ok hm) (tab_cons (impl_Empty_ok hm) tab_nil)) hm (by rw [hn]; decide +kernel) ?_
  simp -implicitDefEqProofs [-selQ_sel]
  obtain ⟨q, h_1, H⟩ := HS.bnd H
  refine Tr.weak (s' := (impl_meetsAny_l0_S a0 a1) 0) (Wk.ofk [0] hk (by rfl) (by simp -implicitDefEqProofs [impl_meetsAny_l0_S]) (by simp -implicitDefEqProofs [impl_meetsAny_l0_S])) ?_
  refine wp_loop_of (S := (impl_meetsAny_l0_S a0 a1)) (f := (impl_meetsAny_l0 a0 a1)) (xt := (impl_meetsAny_l0_X a0 a1)) ?_ ?_ h_1 ?_
  · intro q; rcases q with ⟨⟩ | ⟨⟩ <;> simp [impl_meetsAny_l0_X]
  · clear H h_1 q
    rintro x4 o R hf hR
    have H : HS (impl_meetsAny_l0 a0 a1 x4) o := hf
    clear hf; unfold impl_meetsAny_l0 at H
    try simp -implicitDefEqProofs at H
    refine Tr.of_vc (cl := tabC [(93, impl_MeetBox_x), (190, impl_Empty_x)]) (E := E0) [] (tab_cons (impl_MeetBox_ok hm) (tab_cons (impl_Empty_ok hm) tab_nil)) hm (by rw [hn]; decide +kernel) ?_
    simp -implicitDefEqProofs [-selQ_sel, impl_meetsAny_l0_S]
    refine brV_cases (fun h_2 => ?_) (fun h_2 => ?_)
    · replace H := HS.cnd_t h_2 H
      simp -implicitDefEqProofs [-selQ_sel, h_2]
      obtain rfl := HS.some H
      exact ⟨(impl_meetsAny_l0_X a0 a1 (.inl ())).2, Wk.ofk [] hk (by rfl) (by simp -implicitDefEqProofs [impl_meetsAny_l0_X, h_2]) (by simp -implicitDefEqProofs [impl_meetsAny_l0_X, h_2]), hR⟩
    · replace H := HS.cnd_f h_2 H
      simp -implicitDefEqProofs [-selQ_sel, h_2]
      obtain ⟨v5, h_3, H⟩ := HS.bnd H
      simp -implicitDefEqProofs [-selQ_sel, h_2, h_3]
      obtain ⟨v6, h_4, H⟩ := HS.bnd H
      simp -implicitDefEqProofs [-selQ_sel, h_2, h_3, h_4]
      obtain ⟨v7, h_5, H⟩ := HS.bnd H
      simp -implicitDefEqProofs [-selQ_sel, h_2, h_3, h_4, h_5]
      refine brV_cases (fun h_6 => ?_) (fun h_6 => ?_)
      · replace H := HS.cnd_t h_6 H
        simp -implicitDefEqProofs [-selQ_sel, h_2, h_3, h_4, h_5, h_6]
        obtain rfl := HS.some H
        exact ⟨impl_meetsAny_l0_S a0 a1 (IntKind.i64.wrap (x4 + 1)), Wk.ofk [0] hk (by rfl) (by simp -implicitDefEqProofs [impl_meetsAny_l0_S, h_2, h_3, h_4, h_5, h_6]) (by simp -implicitDefEqProofs [impl_meetsAny_l0_S, h_2, h_3, h_4, h_5, h_6]), hR⟩
      · replace H := HS.cnd_f h_6 H
        simp -implicitDefEqProofs [-selQ_sel, h_2, h_3, h_4, h_5, h_6]
        obtain rfl := HS.some H
        exact ⟨(impl_meetsAny_l0_X a0 a1 (.inr ())).2, Wk.ofk [] hk (by rfl) (by simp -implicitDefEqProofs [impl_meetsAny_l0_X, h_2, h_3, h_4, h_5, h_6]) (by simp -implicitDefEqProofs [impl_meetsAny_l0_X, h_2, h_3, h_4, h_5, h_6]), hR⟩
  · rcases q with ⟨⟩ | ⟨⟩
    · dsimp only at H
      simp -implicitDefEqProofs [-selQ_sel, impl_meetsAny_l0_X]
      obtain rfl := HS.some H
      refine ⟨_, Wk.refl _, ?_⟩
      simp -implicitDefEqProofs [-selQ_sel]
    · dsimp only at H
      simp -implicitDefEqProofs [-selQ_sel, impl_meetsAny_l0_X]
      obtain rfl := HS.some H
      refine ⟨_, Wk.refl _, ?_⟩
      simp -implicitDefEqProofs [-selQ_sel]
theorem impl_TilesOf_ok (hm : Try.prog.follows .mixedOrders = true) : Sound Try.prog 25 impl_TilesOf_x := by
  refine xOf_sound fun q r h => ?_
  obtain ⟨a0, a1, a2⟩ := q
  refine fn_ok E0 hm Try.func25 rfl (by decide +kernel) (by rfl) fun Γ hn hk => ?_
  dsimp only [impl_TilesOf_e, impl_TilesOf_v]
  replace hn : Γ.n = 27 := hn
  replace hk : Γ.k = 0 := hk
  have H : HS (impl_TilesOf a0 a1 a2) r := h
  clear h; unfold impl_TilesOf at H
  try simp -implicitDefEqProofs at H
  refine Tr.of_vc (cl := tabC [(17, impl_TileCount_x), (19, impl_TileBox_x), (97, impl_meetsAny_x)]) (E := E0) [] (tab_cons (impl_TileCount_ok hm) (tab_cons (impl_TileBox_ok hm) (tab_cons (impl_meetsAny_ok hm) tab_nil))) hm (by rw [hn]; decide +kernel) ?_
  simp -implicitDefEqProofs [-selQ_sel]
  obtain ⟨v1, h_1, H⟩ := HS.bnd H
  simp -implicitDefEqProofs [-selQ_sel, h_1]
  obtain ⟨q, h_2, H⟩ := HS.bnd H
  refine Tr.weak (s' := (impl_TilesOf_l0_S a0 a1 a2 v1) ([], 0)) (Wk.ofk [0] hk (by rfl) (by simp -implicitDefEqProofs [impl_TilesOf_l0_S, h_1]) (by simp -implicitDefEqProofs [impl_TilesOf_l0_S, h_1])) ?_
  refine wp_loop_of (S := (impl_TilesOf_l0_S a0 a1 a2 v1)) (f := (impl_TilesOf_l0 a0 a1 a2 v1)) (xt := (impl_TilesOf_l0_X a0 a1 a2 v1)) ?_ ?_ h_2 ?_
  · intro q; simp [impl_TilesOf_l0_X]
  · clear H h_2 q
    rintro ⟨x4, x5⟩ o R hf hR
    have H : HS (impl_TilesOf_l0 a0 a1 a2 v1 (x4, x5)) o := hf
    clear hf; unfold impl_TilesOf_l0 at H
    try simp -implicitDefEqProofs at H
    refine Tr.of_vc (cl := tabC [(17, impl_TileCount_x), (19, impl_TileBox_x), (97, impl_meetsAny_x)]) (E := E0) [] (tab_cons (impl_TileCount_ok hm) (tab_cons (impl_TileBox_ok hm) (tab_cons (impl_meetsAny_ok hm) tab_nil))) hm (by rw [hn]; decide +kernel) ?_
    simp -implicitDefEqProofs [-selQ_sel, impl_TilesOf_l0_S]
    refine brV_cases (fun h_3 => ?_) (fun h_3 => ?_)
    · replace H := HS.cnd_t h_3 H
      simp -implicitDefEqProofs [-selQ_sel, h_3]
      obtain rfl := HS.some H
      exact ⟨(impl_TilesOf_l0_X a0 a1 a2 v1 x4).2, Wk.ofk [0] hk (by rfl) (by simp -implicitDefEqProofs [impl_TilesOf_l0_X, h_3]) (by simp -implicitDefEqProofs [impl_TilesOf_l0_X, h_3]), hR⟩
    · replace H := HS.cnd_f h_3 H
      simp -implicitDefEqProofs [-selQ_sel, h_3]
      obtain ⟨v6, h_4, H⟩ := HS.bnd H
      simp -implicitDefEqProofs [-selQ_sel, h_3, h_4]
      obtain ⟨v7, h_5, H⟩ := HS.bnd H
      simp -implicitDefEqProofs [-selQ_sel, h_3, h_4, h_5]
      refine brV_cases (fun h_6 => ?_) (fun h_6 => ?_)
      · replace H := HS.cnd_t h_6 H
        simp -implicitDefEqProofs [-selQ_sel, h_3, h_4, h_5, h_6]
        obtain ⟨h_7, H⟩ := HS.chkP H
        simp -implicitDefEqProofs [-selQ_sel, h_3, h_4, h_5, h_6, h_7]
        obtain ⟨l8, h_8, H⟩ := HS.nam H
        have m_9 := congrArg (List.map (AV.int .i64)) h_8
        have q_10 := congrArg List.length h_8
        simp -implicitDefEqProofs at m_9 q_10
        try simp only [q_10] at h_7
        simp -implicitDefEqProofs [-selQ_sel, h_3, h_4, h_5, h_6, h_7, m_9, q_10]
        obtain rfl := HS.some H
        exact ⟨impl_TilesOf_l0_S a0 a1 a2 v1 (l8, (IntKind.i64.wrap (x5 + 1))), Wk.ofk [0] hk (by rfl) (by simp -implicitDefEqProofs [impl_TilesOf_l0_S, h_3, h_4, h_5, h_6, h_7, m_9, q_10]) (by simp -implicitDefEqProofs [impl_TilesOf_l0_S, h_3, h_4, h_5, h_6, h_7, m_9, q_10]), hR⟩
      · replace H := HS.cnd_f h_6 H
        simp -implicitDefEqProofs [-selQ_sel, h_3, h_4, h_5, h_6]
        obtain rfl := HS.some H
        exact ⟨impl_TilesOf_l0_S a0 a1 a2 v1 (x4, (IntKind.i64.wrap (x5 + 1))), Wk.ofk [0] hk (by rfl) (by simp -implicitDefEqProofs [impl_TilesOf_l0_S, h_3, h_4, h_5, h_6]) (by simp -implicitDefEqProofs [impl_TilesOf_l0_S, h_3, h_4, h_5, h_6]), hR⟩
  · revert H h_2; revert q; intro y9 h_2 H
    try dsimp only at H
    simp -implicitDefEqProofs [-selQ_sel, h_1, impl_TilesOf_l0_X]
    obtain rfl := HS.some H
    refine ⟨_, Wk.refl _, ?_⟩
    simp -implicitDefEqProofs [-selQ_sel, h_1]
theorem laws_in_ok (hm : Try.prog.follows .mixedOrders = true) : Sound Try.prog 26 laws_in_x := by
  refine xOf_sound fun q r h => ?_
  obtain ⟨a0, a1⟩ := q
  refine fn_ok E0 hm Try.func26 rfl (by decide +kernel) (by rfl) fun Γ hn hk => ?_
  dsimp only [laws_in_e, laws_in_v]
  replace hn : Γ.n = 18 := hn
  replace hk : Γ.k = 0 := hk
  have H : HS (laws_in a0 a1) r := h
  clear h; unfold laws_in at H
  try simp -implicitDefEqProofs at H
  refine Tr.of_vc (cl := tabC []) (E := E0) [] tab_nil hm (by rw [hn]; decide +kernel) ?_
  simp -implicitDefEqProofs [-selQ_sel]
  obtain ⟨q, h_1, H⟩ := HS.bnd H
  refine Tr.weak (s' := (laws_in_l0_S a0 a1) 0) (Wk.ofk [] hk (by rfl) (by simp -implicitDefEqProofs [laws_in_l0_S]) (by simp -implicitDefEqProofs [laws_in_l0_S])) ?_
  refine wp_loop_of (S := (laws_in_l0_S a0 a1)) (f := (laws_in_l0 a0 a1)) (xt := (laws_in_l0_X a0 a1)) ?_ ?_ h_1 ?_
  · intro q; rcases q with ⟨⟩ | ⟨⟩ <;> simp [laws_in_l0_X]
  · clear H h_1 q
    rintro x2 o R hf hR
    have H : HS (laws_in_l0 a0 a1 x2) o := hf
    clear hf; unfold laws_in_l0 at H
    try simp -implicitDefEqProofs at H
    refine Tr.of_vc (cl := tabC []) (E := E0) [] tab_nil hm (by rw [hn]; decide +kernel) ?_
    simp -implicitDefEqProofs [-selQ_sel, laws_in_l0_S]
    refine brV_cases (fun h_2 => ?_) (fun h_2 => ?_)
    · replace H := HS.cnd_t h_2 H
      simp -implicitDefEqProofs [-selQ_sel, h_2]
      obtain rfl := HS.some H
      exact ⟨(laws_in_l0_X a0 a1 (.inl ())).2, Wk.ofk [] hk (by rfl) (by simp -implicitDefEqProofs [laws_in_l0_X, h_2]) (by simp -implicitDefEqProofs [laws_in_l0_X, h_2]), hR⟩
    · replace H := HS.cnd_f h_2 H
      simp -implicitDefEqProofs [-selQ_sel, h_2]
      obtain ⟨v3, h_3, H⟩ := HS.bnd H
      simp -implicitDefEqProofs [-selQ_sel, h_2, h_3]
      refine brV_cases (fun h_4 => ?_) (fun h_4 => ?_)
      · replace H := HS.cnd_t h_4 H
        simp -implicitDefEqProofs [-selQ_sel, h_2, h_3, h_4]
        obtain rfl := HS.some H
        exact ⟨(laws_in_l0_X a0 a1 (.inr ())).2, Wk.ofk [] hk (by rfl) (by simp -implicitDefEqProofs [laws_in_l0_X, h_2, h_3, h_4]) (by simp -implicitDefEqProofs [laws_in_l0_X, h_2, h_3, h_4]), hR⟩
      · replace H := HS.cnd_f h_4 H
        simp -implicitDefEqProofs [-selQ_sel, h_2, h_3, h_4]
        obtain rfl := HS.some H
        exact ⟨laws_in_l0_S a0 a1 (IntKind.i64.wrap (x2 + 1)), Wk.ofk [] hk (by rfl) (by simp -implicitDefEqProofs [laws_in_l0_S, h_2, h_3, h_4]) (by simp -implicitDefEqProofs [laws_in_l0_S, h_2, h_3, h_4]), hR⟩
  · rcases q with ⟨⟩ | ⟨⟩
    · dsimp only at H
      simp -implicitDefEqProofs [-selQ_sel, laws_in_l0_X]
      obtain rfl := HS.some H
      refine ⟨_, Wk.refl _, ?_⟩
      simp -implicitDefEqProofs [-selQ_sel]
    · dsimp only at H
      simp -implicitDefEqProofs [-selQ_sel, laws_in_l0_X]
      obtain rfl := HS.some H
      refine ⟨_, Wk.refl _, ?_⟩
      simp -implicitDefEqProofs [-selQ_sel]
theorem spec_l05Most_ok (hm : Try.prog.follows .mixedOrders = true) : Sound Try.prog 98 spec_l05Most_x := by
  refine xOf_sound fun q r h => ?_
  obtain ⟨a0, a1⟩ := q
  refine fn_ok E0 hm Try.func98 rfl (by decide +kernel) (by rfl) fun Γ hn hk => ?_
  dsimp only [spec_l05Most_e, spec_l05Most_v]
  replace hn : Γ.n = 10 := hn
  replace hk : Γ.k = 0 := hk
  have H : HS (spec_l05Most a0 a1) r := h
  clear h; unfold spec_l05Most at H
  try simp -implicitDefEqProofs at H
  refine Tr.of_vc (cl := tabC []) (E := E0) [] tab_nil hm (by rw [hn]; decide +kernel) ?_
  simp -implicitDefEqProofs [-selQ_sel]
  refine brV_cases (fun h_1 => ?_) (fun h_1 => ?_)
  · replace H := HS.cnd_t h_1 H
    simp -implicitDefEqProofs [-selQ_sel, h_1]
    obtain rfl := HS.some H
    refine ⟨_, Wk.refl _, ?_⟩
    simp -implicitDefEqProofs [-selQ_sel, h_1]
  · replace H := HS.cnd_f h_1 H
    simp -implicitDefEqProofs [-selQ_sel, h_1]
    obtain rfl := HS.some H
    refine ⟨_, Wk.refl _, ?_⟩
    simp -implicitDefEqProofs [-selQ_sel, h_1]
theorem spec_l05Least_ok (hm : Try.prog.follows .mixedOrders = true) : Sound Try.prog 99 spec_l05Least_x := by
  refine xOf_sound fun q r h => ?_
  obtain ⟨a0, a1⟩ := q
  refine fn_ok E0 hm Try.func99 rfl (by decide +kernel) (by rfl) fun Γ hn hk => ?_
  dsimp only [spec_l05Least_e, spec_l05Least_v]
  replace hn : Γ.n = 10 := hn
  replace hk : Γ.k = 0 := hk
  have H : HS (spec_l05Least a0 a1) r := h
  clear h; unfold spec_l05Least at H
  try simp -implicitDefEqProofs at H
  refine Tr.of_vc (cl := tabC []) (E := E0) [] tab_nil hm (by rw [hn]; decide +kernel) ?_
  simp -implicitDefEqProofs [-selQ_sel]
  refine brV_cases (fun h_1 => ?_) (fun h_1 => ?_)
  · replace H := HS.cnd_t h_1 H
    simp -implicitDefEqProofs [-selQ_sel, h_1]
    obtain rfl := HS.some H
    refine ⟨_, Wk.refl _, ?_⟩
    simp -implicitDefEqProofs [-selQ_sel, h_1]
  · replace H := HS.cnd_f h_1 H
    simp -implicitDefEqProofs [-selQ_sel, h_1]
    obtain rfl := HS.some H
    refine ⟨_, Wk.refl _, ?_⟩
    simp -implicitDefEqProofs [-selQ_sel, h_1]
theorem spec_Empty_ok (hm : Try.prog.follows .mixedOrders = true) : Sound Try.prog 27 spec_Empty_x := by
  refine xOf_sound fun q r h => ?_
  revert h; revert r; revert q; intro a0 r h
  refine fn_ok E0 hm Try.func27 rfl (by decide +kernel) (by rfl) fun Γ hn hk => ?_
  dsimp only [spec_Empty_e, spec_Empty_v]
  replace hn : Γ.n = 15 := hn
  replace hk : Γ.k = 0 := hk
  have H : HS (spec_Empty a0) r := h
  clear h; unfold spec_Empty at H
  try simp -implicitDefEqProofs at H
  refine Tr.of_vc (cl := tabC []) (E := E0) [] tab_nil hm (by rw [hn]; decide +kernel) ?_
  simp -implicitDefEqProofs [-selQ_sel]
  refine selQ_cases (fun h_1 => ?_) (fun h_1 => ?_)
  · replace H := HS.cnd_t h_1 H
    simp -implicitDefEqProofs [-selQ_sel, h_1]
    obtain rfl := HS.some H
    refine ⟨_, Wk.refl _, ?_⟩
    simp -implicitDefEqProofs [-selQ_sel, h_1]
  · replace H := HS.cnd_f h_1 H
    simp -implicitDefEqProofs [-selQ_sel, h_1]
    obtain rfl := HS.some H
    refine ⟨_, Wk.refl _, ?_⟩
    simp -implicitDefEqProofs [-selQ_sel, h_1]
theorem spec_MeetBox_ok (hm : Try.prog.follows .mixedOrders = true) : Sound Try.prog 28 spec_MeetBox_x := by
  refine xOf_sound fun q r h => ?_
  obtain ⟨a0, a1⟩ := q
  refine fn_ok E0 hm Try.func28 rfl (by decide +kernel) (by rfl) fun Γ hn hk => ?_
  dsimp only [spec_MeetBox_e, spec_MeetBox_v]
  replace hn : Γ.n = 31 := hn
  replace hk : Γ.k = 0 := hk
  have H : HS (spec_MeetBox a0 a1) r := h
  clear h; unfold spec_MeetBox at H
  try simp -implicitDefEqProofs at H
  refine Tr.of_vc (cl := tabC [(98, spec_l05Most_x), (99, spec_l05Least_x), (27, spec_Empty_x)]) (E := E0) [] (tab_cons (spec_l05Most_ok hm) (tab_cons (spec_l05Least_ok hm) (tab_cons (spec_Empty_ok hm) tab_nil))) hm (by rw [hn]; decide +kernel) ?_
  simp -implicitDefEqProofs +decide [-selQ_sel, hokQ_of]
  obtain ⟨v1, h_1, H⟩ := HS.bnd H
  simp -implicitDefEqProofs +decide [-selQ_sel, hokQ_of, h_1]
  obtain ⟨v2, h_2, H⟩ := HS.bnd H
  simp -implicitDefEqProofs +decide [-selQ_sel, hokQ_of, h_1, h_2]
  obtain ⟨v3, h_3, H⟩ := HS.bnd H
  simp -implicitDefEqProofs +decide [-selQ_sel, hokQ_of, h_1, h_2, h_3]
  obtain ⟨v4, h_4, H⟩ := HS.bnd H
  simp -implicitDefEqProofs +decide [-selQ_sel, hokQ_of, h_1, h_2, h_3, h_4]
  obtain ⟨v5, h_5, H⟩ := HS.bnd H
  simp -implicitDefEqProofs +decide [-selQ_sel, hokQ_of, h_1, h_2, h_3, h_4, h_5]
  refine brV_cases (fun h_6 => ?_) (fun h_6 => ?_)
  · replace H := HS.cnd_t h_6 H
    simp -implicitDefEqProofs +decide [-selQ_sel, hokQ_of, h_1, h_2, h_3, h_4, h_5, h_6]
    obtain rfl := HS.some H
    refine ⟨_, Wk.refl _, ?_⟩
    simp -implicitDefEqProofs +decide [-selQ_sel, hokQ_of, h_1, h_2, h_3, h_4, h_5, h_6]
  · replace H := HS.cnd_f h_6 H
    simp -implicitDefEqProofs +decide [-selQ_sel, hokQ_of, h_1, h_2, h_3, h_4, h_5, h_6]
    obtain rfl := HS.some H
    refine ⟨_, Wk.refl _, ?_⟩
    simp -implicitDefEqProofs +decide [-selQ_sel, hokQ_of, h_1, h_2, h_3, h_4, h_5, h_6]
theorem spec_l01In_ok (hm : Try.prog.follows .mixedOrders = true) : Sound Try.prog 89 spec_l01In_x := by
  refine xOf_sound fun q r h => ?_
  obtain ⟨a0, a1, a2⟩ := q
  refine fn_ok E0 hm Try.func89 rfl (by decide +kernel) (by rfl) fun Γ hn hk => ?_
  dsimp only [spec_l01In_e, spec_l01In_v]
  replace hn : Γ.n = 15 := hn
  replace hk : Γ.k = 0 := hk
  have H : HS (spec_l01In a0 a1 a2) r := h
  clear h; unfold spec_l01In at H
  try simp -implicitDefEqProofs at H
  refine Tr.of_vc (cl := tabC []) (E := E0) [] tab_nil hm (by rw [hn]; decide +kernel) ?_
  simp -implicitDefEqProofs [-selQ_sel]
  refine selQ_cases (fun h_1 => ?_) (fun h_1 => ?_)
  · replace H := HS.cnd_t h_1 H
    simp -implicitDefEqProofs [-selQ_sel, h_1]
    obtain rfl := HS.some H
    refine ⟨_, Wk.refl _, ?_⟩
    simp -implicitDefEqProofs [-selQ_sel, h_1]
  · replace H := HS.cnd_f h_1 H
    simp -implicitDefEqProofs [-selQ_sel, h_1]
    obtain rfl := HS.some H
    refine ⟨_, Wk.refl _, ?_⟩
    simp -implicitDefEqProofs [-selQ_sel, h_1]
theorem spec_TileCount_ok (hm : Try.prog.follows .mixedOrders = true) : Sound Try.prog 16 spec_TileCount_x := by
  refine xOf_sound fun q r h => ?_
  obtain ⟨a0, a1⟩ := q
  refine fn_ok E0 hm Try.func16 rfl (by decide +kernel) (by rfl) fun Γ hn hk => ?_
  dsimp only [spec_TileCount_e, spec_TileCount_v]
  replace hn : Γ.n = 20 := hn
  replace hk : Γ.k = 0 := hk
  have H : HS (spec_TileCount a0 a1) r := h
  clear h; unfold spec_TileCount at H
  try simp -implicitDefEqProofs at H
  refine Tr.of_vc (cl := tabC [(89, spec_l01In_x)]) (E := E0) [] (tab_cons (spec_l01In_ok hm) tab_nil) hm (by rw [hn]; decide +kernel) ?_
  simp -implicitDefEqProofs [-selQ_sel]
  obtain ⟨v1, h_1, H⟩ := HS.bnd H
  simp -implicitDefEqProofs [-selQ_sel, h_1]
  refine selQ_cases (fun h_2 => ?_) (fun h_2 => ?_)
  · replace H := HS.cnd_t h_2 H
    simp -implicitDefEqProofs [-selQ_sel, h_1, h_2]
    obtain ⟨v2, h_3, H⟩ := HS.bnd H
    simp -implicitDefEqProofs [-selQ_sel, h_1, h_2, h_3]
    refine brV_cases (fun h_4 => ?_) (fun h_4 => ?_)
    · replace H := HS.cnd_t h_4 H
      simp -implicitDefEqProofs [-selQ_sel, h_1, h_2, h_3, h_4]
      obtain rfl := HS.some H
      refine ⟨_, Wk.refl _, ?_⟩
      simp -implicitDefEqProofs [-selQ_sel, h_1, h_2, h_3, h_4]
    · replace H := HS.cnd_f h_4 H
      simp -implicitDefEqProofs [-selQ_sel, h_1, h_2, h_3, h_4]
      obtain rfl := HS.some H
      refine ⟨_, Wk.refl _, ?_⟩
      simp -implicitDefEqProofs [-selQ_sel, h_1, h_2, h_3, h_4]
  · replace H := HS.cnd_f h_2 H
    simp -implicitDefEqProofs [-selQ_sel, h_1, h_2]
    obtain rfl := HS.some H
    refine ⟨_, Wk.refl _, ?_⟩
    simp -implicitDefEqProofs [-selQ_sel, h_1, h_2]
theorem laws_FnTiles_ok (hm : Try.prog.follows .mixedOrders = true) : Sound Try.prog 5 laws_FnTiles_x := by
  refine xOf_sound fun q r h => ?_
  revert h; revert r; revert q; intro a0 r h
  refine fn_ok E0 hm Try.func5 rfl (by decide +kernel) (by rfl) fun Γ hn hk => ?_
  dsimp only [laws_FnTiles_e, laws_FnTiles_v]
  replace hn : Γ.n = 135 := hn
  replace hk : Γ.k = 0 := hk
  have H : HS (laws_FnTiles a0) r := h
  clear h; unfold laws_FnTiles at H
  try simp -implicitDefEqProofs at H
  refine Tr.of_vc (cl := tabC [(21, laws_big_x), (22, spec_DrawPlaces_x), (17, impl_TileCount_x), (19, impl_TileBox_x), (23, spec_InBox_x), (24, spec_DrawBoxes_x), (25, impl_TilesOf_x), (26, laws_in_x), (28, spec_MeetBox_x), (27, spec_Empty_x), (16, spec_TileCount_x)]) (E := E0) [] (tab_cons (laws_big_ok hm) (tab_cons (spec_DrawPlaces_ok hm) (tab_cons (impl_TileCount_ok hm) (tab_cons (impl_TileBox_ok hm) (tab_cons (spec_InBox_ok hm) (tab_cons (spec_DrawBoxes_ok hm) (tab_cons (impl_TilesOf_ok hm) (tab_cons (laws_in_ok hm) (tab_cons (spec_MeetBox_ok hm) (tab_cons (spec_Empty_ok hm) (tab_cons (spec_TileCount_ok hm) tab_nil))))))))))) hm (by rw [hn]; decide +kernel) ?_
  simp -implicitDefEqProofs +decide [-selQ_sel, hokQ_of]
  obtain ⟨v1, h_1, H⟩ := HS.bnd H
  simp -implicitDefEqProofs +decide [-selQ_sel, hokQ_of, h_1]
  refine brV_cases (fun h_2 => ?_) (fun h_2 => ?_)
  · replace H := HS.cnd_t h_2 H
    simp -implicitDefEqProofs +decide [-selQ_sel, hokQ_of, h_1, h_2]
    obtain rfl := HS.some H
    refine ⟨_, Wk.refl _, ?_⟩
    simp -implicitDefEqProofs +decide [-selQ_sel, hokQ_of, h_1, h_2]
  · replace H := HS.cnd_f h_2 H
    simp -implicitDefEqProofs +decide [-selQ_sel, hokQ_of, h_1, h_2]
    obtain ⟨v2, h_3, H⟩ := HS.bnd H
    simp -implicitDefEqProofs +decide [-selQ_sel, hokQ_of, h_1, h_2, h_3]
    obtain ⟨v3, h_4, H⟩ := HS.bnd H
    simp -implicitDefEqProofs +decide [-selQ_sel, hokQ_of, h_1, h_2, h_3, h_4]
    obtain ⟨v4, h_5, H⟩ := HS.bnd H
    simp -implicitDefEqProofs +decide [-selQ_sel, hokQ_of, h_1, h_2, h_3, h_4, h_5]
    obtain ⟨v5, h_6, H⟩ := HS.bnd H
    simp -implicitDefEqProofs +decide [-selQ_sel, hokQ_of, h_1, h_2, h_3, h_4, h_5, h_6]
    obtain ⟨q, h_7, H⟩ := HS.bnd H
    refine Tr.weak (s' := (laws_FnTiles_l2_S a0 v3 v4 v5) 0) (Wk.ofk [] hk (by rfl) (by simp -implicitDefEqProofs [laws_FnTiles_l2_S, h_1, h_2, h_3, h_4, h_5, h_6]) (by simp -implicitDefEqProofs [laws_FnTiles_l2_S, h_1, h_2, h_3, h_4, h_5, h_6])) ?_
    refine wp_loop_of (S := (laws_FnTiles_l2_S a0 v3 v4 v5)) (f := (laws_FnTiles_l2 a0 v3 v4 v5)) (xt := (laws_FnTiles_l2_X a0 v3 v4 v5)) ?_ ?_ h_7 ?_
    · intro q; rcases q with ⟨⟩ | ⟨⟩ <;> simp [laws_FnTiles_l2_X]
    · clear H h_7 q
      rintro x21 o R hf hR
      have H : HS (laws_FnTiles_l2 a0 v3 v4 v5 x21) o := hf
      clear hf; unfold laws_FnTiles_l2 at H
      try simp -implicitDefEqProofs at H
      refine Tr.of_vc (cl := tabC [(21, laws_big_x), (22, spec_DrawPlaces_x), (17, impl_TileCount_x), (19, impl_TileBox_x), (23, spec_InBox_x), (24, spec_DrawBoxes_x), (25, impl_TilesOf_x), (26, laws_in_x), (28, spec_MeetBox_x), (27, spec_Empty_x), (16, spec_TileCount_x)]) (E := E0) [] (tab_cons (laws_big_ok hm) (tab_cons (spec_DrawPlaces_ok hm) (tab_cons (impl_TileCount_ok hm) (tab_cons (impl_TileBox_ok hm) (tab_cons (spec_InBox_ok hm) (tab_cons (spec_DrawBoxes_ok hm) (tab_cons (impl_TilesOf_ok hm) (tab_cons (laws_in_ok hm) (tab_cons (spec_MeetBox_ok hm) (tab_cons (spec_Empty_ok hm) (tab_cons (spec_TileCount_ok hm) tab_nil))))))))))) hm (by rw [hn]; decide +kernel) ?_
      simp -implicitDefEqProofs +decide [-selQ_sel, hokQ_of, laws_FnTiles_l2_S]
      refine brV_cases (fun h_8 => ?_) (fun h_8 => ?_)
      · replace H := HS.cnd_t h_8 H
        simp -implicitDefEqProofs +decide [-selQ_sel, hokQ_of, h_8]
        obtain rfl := HS.some H
        exact ⟨(laws_FnTiles_l2_X a0 v3 v4 v5 (.inl ())).2, Wk.ofk [] hk (by rfl) (by simp -implicitDefEqProofs [laws_FnTiles_l2_X, h_8]) (by simp -implicitDefEqProofs [laws_FnTiles_l2_X, h_8]), hR⟩
      · replace H := HS.cnd_f h_8 H
        simp -implicitDefEqProofs +decide [-selQ_sel, hokQ_of, h_8]
        obtain ⟨q, h_9, H⟩ := HS.bnd H
        refine Tr.weak (s' := (laws_FnTiles_l1_S a0 v3 v4 v5 x21) 0) (Wk.ofk [] hk (by rfl) (by simp -implicitDefEqProofs [laws_FnTiles_l1_S, h_8]) (by simp -implicitDefEqProofs [laws_FnTiles_l1_S, h_8])) ?_
        refine wp_loop_of (S := (laws_FnTiles_l1_S a0 v3 v4 v5 x21)) (f := (laws_FnTiles_l1 a0 v3 v4 v5 x21)) (xt := (laws_FnTiles_l1_X a0 v3 v4 v5 x21)) ?_ ?_ h_9 ?_
        · intro q; rcases q with ⟨⟩ | ⟨⟩ <;> simp [laws_FnTiles_l1_X]
        · clear H h_9 q
          rintro x29 o R hf hR
          have H : HS (laws_FnTiles_l1 a0 v3 v4 v5 x21 x29) o := hf
          clear hf; unfold laws_FnTiles_l1 at H
          try simp -implicitDefEqProofs at H
          refine Tr.of_vc (cl := tabC [(21, laws_big_x), (22, spec_DrawPlaces_x), (17, impl_TileCount_x), (19, impl_TileBox_x), (23, spec_InBox_x), (24, spec_DrawBoxes_x), (25, impl_TilesOf_x), (26, laws_in_x), (28, spec_MeetBox_x), (27, spec_Empty_x), (16, spec_TileCount_x)]) (E := E0) [] (tab_cons (laws_big_ok hm) (tab_cons (spec_DrawPlaces_ok hm) (tab_cons (impl_TileCount_ok hm) (tab_cons (impl_TileBox_ok hm) (tab_cons (spec_InBox_ok hm) (tab_cons (spec_DrawBoxes_ok hm) (tab_cons (impl_TilesOf_ok hm) (tab_cons (laws_in_ok hm) (tab_cons (spec_MeetBox_ok hm) (tab_cons (spec_Empty_ok hm) (tab_cons (spec_TileCount_ok hm) tab_nil))))))))))) hm (by rw [hn]; decide +kernel) ?_
          simp -implicitDefEqProofs +decide [-selQ_sel, hokQ_of, laws_FnTiles_l1_S]
          refine brV_cases (fun h_10 => ?_) (fun h_10 => ?_)
          · replace H := HS.cnd_t h_10 H
            simp -implicitDefEqProofs +decide [-selQ_sel, hokQ_of, h_10]
            obtain rfl := HS.some H
            exact ⟨(laws_FnTiles_l1_X a0 v3 v4 v5 x21 (.inl ())).2, Wk.ofk [] hk (by rfl) (by simp -implicitDefEqProofs [laws_FnTiles_l1_X, h_10]) (by simp -implicitDefEqProofs [laws_FnTiles_l1_X, h_10]), hR⟩
          · replace H := HS.cnd_f h_10 H
            simp -implicitDefEqProofs +decide [-selQ_sel, hokQ_of, h_10]
            obtain ⟨q, h_11, H⟩ := HS.bnd H
            refine Tr.weak (s' := (laws_FnTiles_l0_S a0 v3 v4 v5 x21 x29) (0, 0)) (Wk.ofk [] hk (by rfl) (by simp -implicitDefEqProofs [laws_FnTiles_l0_S, h_10]) (by simp -implicitDefEqProofs [laws_FnTiles_l0_S, h_10])) ?_
            refine wp_loop_of (S := (laws_FnTiles_l0_S a0 v3 v4 v5 x21 x29)) (f := (laws_FnTiles_l0 a0 v3 v4 v5 x21 x29)) (xt := (laws_FnTiles_l0_X a0 v3 v4 v5 x21 x29)) ?_ ?_ h_11 ?_
            · intro q; simp [laws_FnTiles_l0_X]
            · clear H h_11 q
              rintro ⟨x32, x33⟩ o R hf hR
              have H : HS (laws_FnTiles_l0 a0 v3 v4 v5 x21 x29 (x32, x33)) o := hf
              clear hf; unfold laws_FnTiles_l0 at H
              try simp -implicitDefEqProofs at H
              refine Tr.of_vc (cl := tabC [(21, laws_big_x), (22, spec_DrawPlaces_x), (17, impl_TileCount_x), (19, impl_TileBox_x), (23, spec_InBox_x), (24, spec_DrawBoxes_x), (25, impl_TilesOf_x), (26, laws_in_x), (28, spec_MeetBox_x), (27, spec_Empty_x), (16, spec_TileCount_x)]) (E := E0) [] (tab_cons (laws_big_ok hm) (tab_cons (spec_DrawPlaces_ok hm) (tab_cons (impl_TileCount_ok hm) (tab_cons (impl_TileBox_ok hm) (tab_cons (spec_InBox_ok hm) (tab_cons (spec_DrawBoxes_ok hm) (tab_cons (impl_TilesOf_ok hm) (tab_cons (laws_in_ok hm) (tab_cons (spec_MeetBox_ok hm) (tab_cons (spec_Empty_ok hm) (tab_cons (spec_TileCount_ok hm) tab_nil))))))))))) hm (by rw [hn]; decide +kernel) ?_
              simp -implicitDefEqProofs +decide [-selQ_sel, hokQ_of, laws_FnTiles_l0_S]
              refine brV_cases (fun h_12 => ?_) (fun h_12 => ?_)
              · replace H := HS.cnd_t h_12 H
                simp -implicitDefEqProofs +decide [-selQ_sel, hokQ_of, h_12]
                obtain rfl := HS.some H
                exact ⟨(laws_FnTiles_l0_X a0 v3 v4 v5 x21 x29 x32).2, Wk.ofk [] hk (by rfl) (by simp -implicitDefEqProofs [laws_FnTiles_l0_X, h_12]) (by simp -implicitDefEqProofs [laws_FnTiles_l0_X, h_12]), hR⟩
              · replace H := HS.cnd_f h_12 H
                simp -implicitDefEqProofs +decide [-selQ_sel, hokQ_of, h_12]
                obtain ⟨v34, h_13, H⟩ := HS.bnd H
                simp -implicitDefEqProofs +decide [-selQ_sel, hokQ_of, h_12, h_13]
                obtain ⟨v35, h_14, H⟩ := HS.bnd H
                simp -implicitDefEqProofs +decide [-selQ_sel, hokQ_of, h_12, h_13, h_14]
                refine brV_cases (fun h_15 => ?_) (fun h_15 => ?_)
                · replace H := HS.cnd_t h_15 H
                  simp -implicitDefEqProofs +decide [-selQ_sel, hokQ_of, h_12, h_13, h_14, h_15]
                  obtain rfl := HS.some H
                  exact ⟨laws_FnTiles_l0_S a0 v3 v4 v5 x21 x29 ((IntKind.i64.wrap (x32 + 1)), (IntKind.i64.wrap (x33 + 1))), Wk.ofk [] hk (by rfl) (by simp -implicitDefEqProofs [laws_FnTiles_l0_S, h_12, h_13, h_14, h_15]) (by simp -implicitDefEqProofs [laws_FnTiles_l0_S, h_12, h_13, h_14, h_15]), hR⟩
                · replace H := HS.cnd_f h_15 H
                  simp -implicitDefEqProofs +decide [-selQ_sel, hokQ_of, h_12, h_13, h_14, h_15]
                  obtain rfl := HS.some H
                  exact ⟨laws_FnTiles_l0_S a0 v3 v4 v5 x21 x29 (x32, (IntKind.i64.wrap (x33 + 1))), Wk.ofk [] hk (by rfl) (by simp -implicitDefEqProofs [laws_FnTiles_l0_S, h_12, h_13, h_14, h_15]) (by simp -implicitDefEqProofs [laws_FnTiles_l0_S, h_12, h_13, h_14, h_15]), hR⟩
            · revert H h_11; revert q; intro y36 h_11 H
              try dsimp only at H
              simp -implicitDefEqProofs +decide [-selQ_sel, hokQ_of, h_10, laws_FnTiles_l0_X]
              refine brV_cases (fun h_16 => ?_) (fun h_16 => ?_)
              · replace H := HS.cnd_t h_16 H
                simp -implicitDefEqProofs +decide [-selQ_sel, hokQ_of, h_10, h_16]
                obtain rfl := HS.some H
                exact ⟨laws_FnTiles_l1_S a0 v3 v4 v5 x21 (IntKind.i64.wrap (x29 + 1)), Wk.ofk [] hk (by rfl) (by simp -implicitDefEqProofs [laws_FnTiles_l1_S, h_10, h_16]) (by simp -implicitDefEqProofs [laws_FnTiles_l1_S, h_10, h_16]), hR⟩
              · replace H := HS.cnd_f h_16 H
                simp -implicitDefEqProofs +decide [-selQ_sel, hokQ_of, h_10, h_16]
                obtain rfl := HS.some H
                exact ⟨(laws_FnTiles_l1_X a0 v3 v4 v5 x21 (.inr ())).2, Wk.ofk [] hk (by rfl) (by simp -implicitDefEqProofs [laws_FnTiles_l1_X, h_10, h_16]) (by simp -implicitDefEqProofs [laws_FnTiles_l1_X, h_10, h_16]), hR⟩
        · rcases q with ⟨⟩ | ⟨⟩
          · dsimp only at H
            simp -implicitDefEqProofs +decide [-selQ_sel, hokQ_of, h_8, laws_FnTiles_l1_X]
            obtain rfl := HS.some H
            exact ⟨laws_FnTiles_l2_S a0 v3 v4 v5 (IntKind.i64.wrap (x21 + 1)), Wk.ofk [] hk (by rfl) (by simp -implicitDefEqProofs [laws_FnTiles_l2_S, h_8]) (by simp -implicitDefEqProofs [laws_FnTiles_l2_S, h_8]), hR⟩
          · dsimp only at H
            simp -implicitDefEqProofs +decide [-selQ_sel, hokQ_of, h_8, laws_FnTiles_l1_X]
            obtain rfl := HS.some H
            exact ⟨(laws_FnTiles_l2_X a0 v3 v4 v5 (.inr ())).2, Wk.ofk [] hk (by rfl) (by simp -implicitDefEqProofs [laws_FnTiles_l2_X, h_8]) (by simp -implicitDefEqProofs [laws_FnTiles_l2_X, h_8]), hR⟩
    · rcases q with ⟨⟩ | ⟨⟩
      · dsimp only at H
        simp -implicitDefEqProofs +decide [-selQ_sel, hokQ_of, h_1, h_2, h_3, h_4, h_5, h_6, laws_FnTiles_l2_X]
        obtain ⟨⟨w38, w39, w40⟩, h_17, H⟩ := HS.bnd H
        dsimp only at H
        simp -implicitDefEqProofs +decide [-selQ_sel, hokQ_of, h_1, h_2, h_3, h_4, h_5, h_6, h_17]
        obtain ⟨v41, h_18, H⟩ := HS.bnd H
        have k_19 := impl_TilesOf_k (IntKind.i64.wrap (1 + (Int.tmod v3 12))) (IntKind.i64.wrap (1 + (Int.tmod v4 12))) [w38, w39]
        simp -implicitDefEqProofs [-impl_TilesOf_k] at k_19
        simp -implicitDefEqProofs +decide [-selQ_sel, hokQ_of, h_1, h_2, h_3, h_4, h_5, h_6, h_17, h_18, k_19]
        obtain ⟨q, h_20, H⟩ := HS.bnd H
        refine Tr.weak (s' := (laws_FnTiles_l3_S v3 v4 v5 v41 w38 w39) 0) (Wk.ofk [0, 1] hk (by rfl) (by simp -implicitDefEqProofs [laws_FnTiles_l3_S, h_1, h_2, h_3, h_4, h_5, h_6, h_17, h_18, k_19]) (by simp -implicitDefEqProofs [laws_FnTiles_l3_S, h_1, h_2, h_3, h_4, h_5, h_6, h_17, h_18, k_19])) ?_
        refine wp_loop_of (S := (laws_FnTiles_l3_S v3 v4 v5 v41 w38 w39)) (f := (laws_FnTiles_l3 v3 v4 v5 v41 w38 w39)) (xt := (laws_FnTiles_l3_X v3 v4 v5 v41 w38 w39)) ?_ ?_ h_20 ?_
        · intro q; rcases q with ⟨⟩ | ⟨⟩ <;> simp [laws_FnTiles_l3_X]
        · clear H h_20 q
          rintro x48 o R hf hR
          have H : HS (laws_FnTiles_l3 v3 v4 v5 v41 w38 w39 x48) o := hf
          clear hf; unfold laws_FnTiles_l3 at H
          try simp -implicitDefEqProofs at H
          refine Tr.of_vc (cl := tabC [(21, laws_big_x), (22, spec_DrawPlaces_x), (17, impl_TileCount_x), (19, impl_TileBox_x), (23, spec_InBox_x), (24, spec_DrawBoxes_x), (25, impl_TilesOf_x), (26, laws_in_x), (28, spec_MeetBox_x), (27, spec_Empty_x), (16, spec_TileCount_x)]) (E := E0) [] (tab_cons (laws_big_ok hm) (tab_cons (spec_DrawPlaces_ok hm) (tab_cons (impl_TileCount_ok hm) (tab_cons (impl_TileBox_ok hm) (tab_cons (spec_InBox_ok hm) (tab_cons (spec_DrawBoxes_ok hm) (tab_cons (impl_TilesOf_ok hm) (tab_cons (laws_in_ok hm) (tab_cons (spec_MeetBox_ok hm) (tab_cons (spec_Empty_ok hm) (tab_cons (spec_TileCount_ok hm) tab_nil))))))))))) hm (by rw [hn]; decide +kernel) ?_
          simp -implicitDefEqProofs +decide [-selQ_sel, hokQ_of, laws_FnTiles_l3_S]
          refine brV_cases (fun h_21 => ?_) (fun h_21 => ?_)
          · replace H := HS.cnd_t h_21 H
            simp -implicitDefEqProofs +decide [-selQ_sel, hokQ_of, h_21]
            obtain rfl := HS.some H
            exact ⟨(laws_FnTiles_l3_X v3 v4 v5 v41 w38 w39 (.inl ())).2, Wk.ofk [] hk (by rfl) (by simp -implicitDefEqProofs [laws_FnTiles_l3_X, h_21]) (by simp -implicitDefEqProofs [laws_FnTiles_l3_X, h_21]), hR⟩
          · replace H := HS.cnd_f h_21 H
            simp -implicitDefEqProofs +decide [-selQ_sel, hokQ_of, h_21]
            obtain ⟨v49, h_22, H⟩ := HS.bnd H
            simp -implicitDefEqProofs +decide [-selQ_sel, hokQ_of, h_21, h_22]
            obtain ⟨v50, h_23, H⟩ := HS.bnd H
            simp -implicitDefEqProofs +decide [-selQ_sel, hokQ_of, h_21, h_22, h_23]
            obtain ⟨v51, h_24, H⟩ := HS.bnd H
            simp -implicitDefEqProofs +decide [-selQ_sel, hokQ_of, h_21, h_22, h_23, h_24]
            obtain ⟨v52, h_25, H⟩ := HS.bnd H
            simp -implicitDefEqProofs +decide [-selQ_sel, hokQ_of, h_21, h_22, h_23, h_24, h_25]
            refine selQ_cases (fun h_26 => ?_) (fun h_26 => ?_)
            · replace H := HS.cnd_t h_26 H
              simp -implicitDefEqProofs +decide [-selQ_sel, hokQ_of, h_21, h_22, h_23, h_24, h_25, h_26]
              obtain ⟨v53, h_27, H⟩ := HS.bnd H
              simp -implicitDefEqProofs +decide [-selQ_sel, hokQ_of, h_21, h_22, h_23, h_24, h_25, h_26, h_27]
              obtain ⟨v54, h_28, H⟩ := HS.bnd H
              simp -implicitDefEqProofs +decide [-selQ_sel, hokQ_of, h_21, h_22, h_23, h_24, h_25, h_26, h_27, h_28]
              refine brV_cases (fun h_29 => ?_) (fun h_29 => ?_)
              · replace H := HS.cnd_t h_29 H
                simp -implicitDefEqProofs +decide [-selQ_sel, hokQ_of, h_21, h_22, h_23, h_24, h_25, h_26, h_27, h_28, h_29]
                obtain rfl := HS.some H
                exact ⟨laws_FnTiles_l3_S v3 v4 v5 v41 w38 w39 (IntKind.i64.wrap (x48 + 1)), Wk.ofk [0, 1] hk (by rfl) (by simp -implicitDefEqProofs [laws_FnTiles_l3_S, h_21, h_22, h_23, h_24, h_25, h_26, h_27, h_28, h_29]) (by simp -implicitDefEqProofs [laws_FnTiles_l3_S, h_21, h_22, h_23, h_24, h_25, h_26, h_27, h_28, h_29]), hR⟩
              · replace H := HS.cnd_f h_29 H
                simp -implicitDefEqProofs +decide [-selQ_sel, hokQ_of, h_21, h_22, h_23, h_24, h_25, h_26, h_27, h_28, h_29]
                obtain rfl := HS.some H
                exact ⟨(laws_FnTiles_l3_X v3 v4 v5 v41 w38 w39 (.inr ())).2, Wk.ofk [] hk (by rfl) (by simp -implicitDefEqProofs [laws_FnTiles_l3_X, h_21, h_22, h_23, h_24, h_25, h_26, h_27, h_28, h_29]) (by simp -implicitDefEqProofs [laws_FnTiles_l3_X, h_21, h_22, h_23, h_24, h_25, h_26, h_27, h_28, h_29]), hR⟩
            · replace H := HS.cnd_f h_26 H
              simp -implicitDefEqProofs +decide [-selQ_sel, hokQ_of, h_21, h_22, h_23, h_24, h_25, h_26]
              refine brV_cases (fun h_30 => ?_) (fun h_30 => ?_)
              · replace H := HS.cnd_t h_30 H
                simp -implicitDefEqProofs +decide [-selQ_sel, hokQ_of, h_21, h_22, h_23, h_24, h_25, h_26, h_30]
                obtain rfl := HS.some H
                exact ⟨laws_FnTiles_l3_S v3 v4 v5 v41 w38 w39 (IntKind.i64.wrap (x48 + 1)), Wk.ofk [0, 1] hk (by rfl) (by simp -implicitDefEqProofs [laws_FnTiles_l3_S, h_21, h_22, h_23, h_24, h_25, h_26, h_30]) (by simp -implicitDefEqProofs [laws_FnTiles_l3_S, h_21, h_22, h_23, h_24, h_25, h_26, h_30]), hR⟩
              · replace H := HS.cnd_f h_30 H
                simp -implicitDefEqProofs +decide [-selQ_sel, hokQ_of, h_21, h_22, h_23, h_24, h_25, h_26, h_30]
                obtain rfl := HS.some H
                exact ⟨(laws_FnTiles_l3_X v3 v4 v5 v41 w38 w39 (.inr ())).2, Wk.ofk [] hk (by rfl) (by simp -implicitDefEqProofs [laws_FnTiles_l3_X, h_21, h_22, h_23, h_24, h_25, h_26, h_30]) (by simp -implicitDefEqProofs [laws_FnTiles_l3_X, h_21, h_22, h_23, h_24, h_25, h_26, h_30]), hR⟩
        · rcases q with ⟨⟩ | ⟨⟩
          · dsimp only at H
            simp -implicitDefEqProofs +decide [-selQ_sel, hokQ_of, h_1, h_2, h_3, h_4, h_5, h_6, h_17, h_18, k_19, laws_FnTiles_l3_X]
            obtain ⟨q, h_31, H⟩ := HS.bnd H
            refine Tr.weak (s' := (laws_FnTiles_l4_S v3 v4 v5 v41) 1) (Wk.ofk [] hk (by rfl) (by simp -implicitDefEqProofs [laws_FnTiles_l4_S, h_1, h_2, h_3, h_4, h_5, h_6, h_17, h_18, k_19]) (by simp -implicitDefEqProofs [laws_FnTiles_l4_S, h_1, h_2, h_3, h_4, h_5, h_6, h_17, h_18, k_19])) ?_
            refine wp_loop_of (S := (laws_FnTiles_l4_S v3 v4 v5 v41)) (f := (laws_FnTiles_l4 v3 v4 v5 v41)) (xt := (laws_FnTiles_l4_X v3 v4 v5 v41)) ?_ ?_ h_31 ?_
            · intro q; rcases q with ⟨⟩ | ⟨⟩ <;> simp [laws_FnTiles_l4_X]
            · clear H h_31 q
              rintro x57 o R hf hR
              have H : HS (laws_FnTiles_l4 v3 v4 v5 v41 x57) o := hf
              clear hf; unfold laws_FnTiles_l4 at H
              try simp -implicitDefEqProofs at H
              refine Tr.of_vc (cl := tabC [(21, laws_big_x), (22, spec_DrawPlaces_x), (17, impl_TileCount_x), (19, impl_TileBox_x), (23, spec_InBox_x), (24, spec_DrawBoxes_x), (25, impl_TilesOf_x), (26, laws_in_x), (28, spec_MeetBox_x), (27, spec_Empty_x), (16, spec_TileCount_x)]) (E := E0) [] (tab_cons (laws_big_ok hm) (tab_cons (spec_DrawPlaces_ok hm) (tab_cons (impl_TileCount_ok hm) (tab_cons (impl_TileBox_ok hm) (tab_cons (spec_InBox_ok hm) (tab_cons (spec_DrawBoxes_ok hm) (tab_cons (impl_TilesOf_ok hm) (tab_cons (laws_in_ok hm) (tab_cons (spec_MeetBox_ok hm) (tab_cons (spec_Empty_ok hm) (tab_cons (spec_TileCount_ok hm) tab_nil))))))))))) hm (by rw [hn]; decide +kernel) ?_
              simp -implicitDefEqProofs +decide [-selQ_sel, hokQ_of, laws_FnTiles_l4_S]
              refine brV_cases (fun h_32 => ?_) (fun h_32 => ?_)
              · replace H := HS.cnd_t h_32 H
                simp -implicitDefEqProofs +decide [-selQ_sel, hokQ_of, h_32]
                obtain rfl := HS.some H
                exact ⟨(laws_FnTiles_l4_X v3 v4 v5 v41 (.inl ())).2, Wk.ofk [] hk (by rfl) (by simp -implicitDefEqProofs [laws_FnTiles_l4_X, h_32]) (by simp -implicitDefEqProofs [laws_FnTiles_l4_X, h_32]), hR⟩
              · replace H := HS.cnd_f h_32 H
                simp -implicitDefEqProofs +decide [-selQ_sel, hokQ_of, h_32]
                obtain ⟨v58, h_33, H⟩ := HS.bnd H
                simp -implicitDefEqProofs +decide [-selQ_sel, hokQ_of, h_32, h_33]
                obtain ⟨v59, h_34, H⟩ := HS.bnd H
                simp -implicitDefEqProofs +decide [-selQ_sel, hokQ_of, h_32, h_33, h_34]
                refine brV_cases (fun h_35 => ?_) (fun h_35 => ?_)
                · replace H := HS.cnd_t h_35 H
                  simp -implicitDefEqProofs +decide [-selQ_sel, hokQ_of, h_32, h_33, h_34, h_35]
                  obtain rfl := HS.some H
                  exact ⟨(laws_FnTiles_l4_X v3 v4 v5 v41 (.inr ())).2, Wk.ofk [] hk (by rfl) (by simp -implicitDefEqProofs [laws_FnTiles_l4_X, h_32, h_33, h_34, h_35]) (by simp -implicitDefEqProofs [laws_FnTiles_l4_X, h_32, h_33, h_34, h_35]), hR⟩
                · replace H := HS.cnd_f h_35 H
                  simp -implicitDefEqProofs +decide [-selQ_sel, hokQ_of, h_32, h_33, h_34, h_35]
                  obtain rfl := HS.some H
                  exact ⟨laws_FnTiles_l4_S v3 v4 v5 v41 (IntKind.i64.wrap (x57 + 1)), Wk.ofk [] hk (by rfl) (by simp -implicitDefEqProofs [laws_FnTiles_l4_S, h_32, h_33, h_34, h_35]) (by simp -implicitDefEqProofs [laws_FnTiles_l4_S, h_32, h_33, h_34, h_35]), hR⟩
            · rcases q with ⟨⟩ | ⟨⟩
              · dsimp only at H
                simp -implicitDefEqProofs +decide [-selQ_sel, hokQ_of, h_1, h_2, h_3, h_4, h_5, h_6, h_17, h_18, k_19, laws_FnTiles_l4_X]
                obtain ⟨v60, h_36, H⟩ := HS.bnd H
                simp -implicitDefEqProofs +decide [-selQ_sel, hokQ_of, h_1, h_2, h_3, h_4, h_5, h_6, h_17, h_18, k_19, h_36]
                refine selQ_cases (fun h_37 => ?_) (fun h_37 => ?_)
                · replace H := HS.cnd_t h_37 H
                  simp -implicitDefEqProofs +decide [-selQ_sel, hokQ_of, h_1, h_2, h_3, h_4, h_5, h_6, h_17, h_18, k_19, h_36, h_37]
                  obtain ⟨v61, h_38, H⟩ := HS.bnd H
                  simp -implicitDefEqProofs +decide [-selQ_sel, hokQ_of, h_1, h_2, h_3, h_4, h_5, h_6, h_17, h_18, k_19, h_36, h_37, h_38]
                  obtain ⟨v62, h_39, H⟩ := HS.bnd H
                  simp -implicitDefEqProofs +decide [-selQ_sel, hokQ_of, h_1, h_2, h_3, h_4, h_5, h_6, h_17, h_18, k_19, h_36, h_37, h_38, h_39]
                  refine selQ_cases (fun h_40 => ?_) (fun h_40 => ?_)
                  · replace H := HS.cnd_t h_40 H
                    simp -implicitDefEqProofs +decide [-selQ_sel, hokQ_of, h_1, h_2, h_3, h_4, h_5, h_6, h_17, h_18, k_19, h_36, h_37, h_38, h_39, h_40]
                    obtain ⟨v63, h_41, H⟩ := HS.bnd H
                    have k_42 := impl_TilesOf_k (IntKind.i64.wrap (1 + (Int.tmod v3 12))) (IntKind.i64.wrap (1 + (Int.tmod v4 12))) []
                    simp -implicitDefEqProofs [-impl_TilesOf_k] at k_42
                    simp -implicitDefEqProofs +decide [-selQ_sel, hokQ_of, h_1, h_2, h_3, h_4, h_5, h_6, h_17, h_18, k_19, h_36, h_37, h_38, h_39, h_40, h_41, k_42]
                    obtain rfl := HS.some H
                    refine ⟨_, Wk.refl _, ?_⟩
                    simp -implicitDefEqProofs +decide [-selQ_sel, hokQ_of, h_1, h_2, h_3, h_4, h_5, h_6, h_17, h_18, k_19, h_36, h_37, h_38, h_39, h_40, h_41, k_42]
                  · replace H := HS.cnd_f h_40 H
                    simp -implicitDefEqProofs +decide [-selQ_sel, hokQ_of, h_1, h_2, h_3, h_4, h_5, h_6, h_17, h_18, k_19, h_36, h_37, h_38, h_39, h_40]
                    obtain rfl := HS.some H
                    refine ⟨_, Wk.refl _, ?_⟩
                    simp -implicitDefEqProofs +decide [-selQ_sel, hokQ_of, h_1, h_2, h_3, h_4, h_5, h_6, h_17, h_18, k_19, h_36, h_37, h_38, h_39, h_40]
                · replace H := HS.cnd_f h_37 H
                  simp -implicitDefEqProofs +decide [-selQ_sel, hokQ_of, h_1, h_2, h_3, h_4, h_5, h_6, h_17, h_18, k_19, h_36, h_37]
                  obtain rfl := HS.some H
                  refine ⟨_, Wk.refl _, ?_⟩
                  simp -implicitDefEqProofs +decide [-selQ_sel, hokQ_of, h_1, h_2, h_3, h_4, h_5, h_6, h_17, h_18, k_19, h_36, h_37]
              · dsimp only at H
                simp -implicitDefEqProofs +decide [-selQ_sel, hokQ_of, h_1, h_2, h_3, h_4, h_5, h_6, h_17, h_18, k_19, laws_FnTiles_l4_X]
                obtain rfl := HS.some H
                refine ⟨_, Wk.refl _, ?_⟩
                simp -implicitDefEqProofs +decide [-selQ_sel, hokQ_of, h_1, h_2, h_3, h_4, h_5, h_6, h_17, h_18, k_19]
          · dsimp only at H
            simp -implicitDefEqProofs +decide [-selQ_sel, hokQ_of, h_1, h_2, h_3, h_4, h_5, h_6, h_17, h_18, k_19, laws_FnTiles_l3_X]
            obtain rfl := HS.some H
            refine ⟨_, Wk.refl _, ?_⟩
            simp -implicitDefEqProofs +decide [-selQ_sel, hokQ_of, h_1, h_2, h_3, h_4, h_5, h_6, h_17, h_18, k_19]
      · dsimp only at H
        simp -implicitDefEqProofs +decide [-selQ_sel, hokQ_of, h_1, h_2, h_3, h_4, h_5, h_6, laws_FnTiles_l2_X]
        obtain rfl := HS.some H
        refine ⟨_, Wk.refl _, ?_⟩
        simp -implicitDefEqProofs +decide [-selQ_sel, hokQ_of, h_1, h_2, h_3, h_4, h_5, h_6]
end Go.Proofs.Ytfhglldoejeedaa.Am
