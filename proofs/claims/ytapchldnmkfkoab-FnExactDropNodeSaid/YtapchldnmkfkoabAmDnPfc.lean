import Derived.Test.YtapchldnmkfkoabAmDnNa
set_option linter.unusedVariables false
set_option linter.unusedSimpArgs false
set_option linter.unusedSectionVars false
namespace Go.Proofs.Ytapchldnmkfkoab.Am
open Go Go.Proofs
set_option maxRecDepth 100000
set_option linter.unusedSimpArgs false
set_option linter.unusedVariables false
set_option maxHeartbeats 4000000
theorem impl_NodeOk_ok0 (hm : Try.prog.follows .mixedOrders = true) (k_impl_inRange : Sound Try.prog 41 impl_inRange_x) (k_impl_MatOk : Sound Try.prog 89 impl_MatOk_x) (k_impl_PathOk : Sound Try.prog 90 impl_PathOk_x) (k_impl_DashOk : Sound Try.prog 91 impl_DashOk_x) (k_impl_isMode : Sound Try.prog 92 impl_isMode_x) (k_impl_isByte : Sound Try.prog 93 impl_isByte_x) (k_impl_Path_isNone : Sound Try.prog 94 impl_Path_isNone_x) (k_impl_PaintOk : Sound Try.prog 95 impl_PaintOk_x) : Sound Try.prog 50 impl_NodeOk_x := by
 refine xOf_sound fun q r h => ?_
 revert h; revert r; revert q; intro a0 r h
 refine fn_ok E0 hm Try.func50 rfl (by decide +kernel) (by rfl) fun Γ hn hk => ?_
 dsimp only [impl_NodeOk_e,impl_NodeOk_v]
 replace hn : Γ.n = 90 := hn
 replace hk : Γ.k = 0 := hk
 have H : HS (impl_NodeOk a0) r := h
 clear h; unfold impl_NodeOk at H
 try simp -implicitDefEqProofs at H
 refine Tr.of_vc (cl := tabC [(41,impl_inRange_x),(89,impl_MatOk_x),(90,impl_PathOk_x),(91,impl_DashOk_x),(92,impl_isMode_x),(93,impl_isByte_x),(94,impl_Path_isNone_x),(95,impl_PaintOk_x)]) (E := E0) [] (tab_cons k_impl_inRange (tab_cons k_impl_MatOk (tab_cons k_impl_PathOk (tab_cons k_impl_DashOk (tab_cons k_impl_isMode (tab_cons k_impl_isByte (tab_cons k_impl_Path_isNone (tab_cons k_impl_PaintOk tab_nil)))))))) hm (by rw [hn]; decide +kernel) ?_
 try simp -implicitDefEqProofs (maxSteps := 999999) [-selQ_sel]
 obtain ⟨v1,h_1,H⟩ := HS.bnd H
 try simp -implicitDefEqProofs (maxSteps := 999999) [-selQ_sel,h_1]
 refine Hid.selQ (fun h_2 => ?_) (fun h_2 => ?_)
 ·replace H := HS.cnd_t h_2 H
  try simp -implicitDefEqProofs (maxSteps := 999999) [-selQ_sel,h_1,h_2]
  obtain ⟨v2,h_3,H⟩ := HS.bnd H
  try simp -implicitDefEqProofs (maxSteps := 999999) [-selQ_sel,h_1,h_2,h_3]
  refine Hid.selQ (fun h_4 => ?_) (fun h_4 => ?_)
  ·replace H := HS.cnd_t h_4 H
   try simp -implicitDefEqProofs (maxSteps := 999999) [-selQ_sel,h_1,h_2,h_3,h_4]
   refine Hid.selQ (fun h_5 => ?_) (fun h_5 => ?_)
   ·replace H := HS.cnd_t h_5 H
    try simp -implicitDefEqProofs (maxSteps := 999999) [-selQ_sel,h_1,h_2,h_3,h_4,h_5]
    have hr := (HS.some H).symm; subst hr
    refine Hid.mk ⟨_,Wk.refl _,?_⟩
    try simp -implicitDefEqProofs (maxSteps := 999999) [-selQ_sel,h_1,h_2,h_3,h_4,h_5]
   ·replace H := HS.cnd_f h_5 H
    try simp -implicitDefEqProofs (maxSteps := 999999) [-selQ_sel,h_1,h_2,h_3,h_4,h_5]
    obtain ⟨v3,h_6,H⟩ := HS.bnd H
    try simp -implicitDefEqProofs (maxSteps := 999999) [-selQ_sel,h_1,h_2,h_3,h_4,h_5,h_6]
    refine Hid.selQ (fun h_7 => ?_) (fun h_7 => ?_)
    ·replace H := HS.cnd_t h_7 H
     try simp -implicitDefEqProofs (maxSteps := 999999) [-selQ_sel,h_1,h_2,h_3,h_4,h_5,h_6,h_7]
     obtain ⟨v4,h_8,H⟩ := HS.bnd H
     try simp -implicitDefEqProofs (maxSteps := 999999) [-selQ_sel,h_1,h_2,h_3,h_4,h_5,h_6,h_7,h_8]
     refine Hid.selQ (fun h_9 => ?_) (fun h_9 => ?_)
     ·replace H := HS.cnd_t h_9 H
      try simp -implicitDefEqProofs (maxSteps := 999999) [-selQ_sel,h_1,h_2,h_3,h_4,h_5,h_6,h_7,h_8,h_9]
      obtain ⟨v5,h_10,H⟩ := HS.bnd H
      try simp -implicitDefEqProofs (maxSteps := 999999) [-selQ_sel,h_1,h_2,h_3,h_4,h_5,h_6,h_7,h_8,h_9,h_10]
      refine Hid.brV (fun h_11 => ?_) (fun h_11 => ?_)
      ·replace H := HS.cnd_t h_11 H
       try simp -implicitDefEqProofs (maxSteps := 999999) [-selQ_sel,h_1,h_2,h_3,h_4,h_5,h_6,h_7,h_8,h_9,h_10,h_11]
       obtain ⟨v6,h_12,H⟩ := HS.bnd H
       try simp -implicitDefEqProofs (maxSteps := 999999) [-selQ_sel,h_1,h_2,h_3,h_4,h_5,h_6,h_7,h_8,h_9,h_10,h_11,h_12]
       refine Hid.selQ (fun h_13 => ?_) (fun h_13 => ?_)
       ·replace H := HS.cnd_t h_13 H
        try simp -implicitDefEqProofs (maxSteps := 999999) [-selQ_sel,h_1,h_2,h_3,h_4,h_5,h_6,h_7,h_8,h_9,h_10,h_11,h_12,h_13]
        obtain ⟨v7,h_14,H⟩ := HS.bnd H
        try simp -implicitDefEqProofs (maxSteps := 999999) [-selQ_sel,h_1,h_2,h_3,h_4,h_5,h_6,h_7,h_8,h_9,h_10,h_11,h_12,h_13,h_14]
        refine Hid.selQ (fun h_15 => ?_) (fun h_15 => ?_)
        ·replace H := HS.cnd_t h_15 H
         try simp -implicitDefEqProofs (maxSteps := 999999) [-selQ_sel,h_1,h_2,h_3,h_4,h_5,h_6,h_7,h_8,h_9,h_10,h_11,h_12,h_13,h_14,h_15]
         obtain ⟨v8,h_16,H⟩ := HS.bnd H
         try simp -implicitDefEqProofs (maxSteps := 999999) [-selQ_sel,h_1,h_2,h_3,h_4,h_5,h_6,h_7,h_8,h_9,h_10,h_11,h_12,h_13,h_14,h_15,h_16]
         refine Hid.selQ (fun h_17 => ?_) (fun h_17 => ?_)
         ·replace H := HS.cnd_t h_17 H
          try simp -implicitDefEqProofs (maxSteps := 999999) [-selQ_sel,h_1,h_2,h_3,h_4,h_5,h_6,h_7,h_8,h_9,h_10,h_11,h_12,h_13,h_14,h_15,h_16,h_17]
          obtain ⟨v9,h_18,H⟩ := HS.bnd H
          try simp -implicitDefEqProofs (maxSteps := 999999) [-selQ_sel,h_1,h_2,h_3,h_4,h_5,h_6,h_7,h_8,h_9,h_10,h_11,h_12,h_13,h_14,h_15,h_16,h_17,h_18]
          refine Hid.brV (fun h_19 => ?_) (fun h_19 => ?_)
          ·replace H := HS.cnd_t h_19 H
           try simp -implicitDefEqProofs (maxSteps := 999999) [-selQ_sel,h_1,h_2,h_3,h_4,h_5,h_6,h_7,h_8,h_9,h_10,h_11,h_12,h_13,h_14,h_15,h_16,h_17,h_18,h_19]
           refine Hid.brV (fun h_20 => ?_) (fun h_20 => ?_)
           ·replace H := HS.cnd_t h_20 H
            try simp -implicitDefEqProofs (maxSteps := 999999) [-selQ_sel,h_1,h_2,h_3,h_4,h_5,h_6,h_7,h_8,h_9,h_10,h_11,h_12,h_13,h_14,h_15,h_16,h_17,h_18,h_19,h_20]
            refine Hid.selQ (fun h_21 => ?_) (fun h_21 => ?_)
            ·replace H := HS.cnd_t h_21 H
             try simp -implicitDefEqProofs (maxSteps := 999999) [-selQ_sel,h_1,h_2,h_3,h_4,h_5,h_6,h_7,h_8,h_9,h_10,h_11,h_12,h_13,h_14,h_15,h_16,h_17,h_18,h_19,h_20,h_21]
             obtain ⟨v10,h_22,H⟩ := HS.bnd H
             try simp -implicitDefEqProofs (maxSteps := 999999) [-selQ_sel,h_1,h_2,h_3,h_4,h_5,h_6,h_7,h_8,h_9,h_10,h_11,h_12,h_13,h_14,h_15,h_16,h_17,h_18,h_19,h_20,h_21,h_22]
             refine Hid.selQ (fun h_23 => ?_) (fun h_23 => ?_)
             ·replace H := HS.cnd_t h_23 H
              try simp -implicitDefEqProofs (maxSteps := 999999) [-selQ_sel,h_1,h_2,h_3,h_4,h_5,h_6,h_7,h_8,h_9,h_10,h_11,h_12,h_13,h_14,h_15,h_16,h_17,h_18,h_19,h_20,h_21,h_22,h_23]
              refine Hid.selQ (fun h_24 => ?_) (fun h_24 => ?_)
              ·replace H := HS.cnd_t h_24 H
               try simp -implicitDefEqProofs (maxSteps := 999999) [-selQ_sel,h_1,h_2,h_3,h_4,h_5,h_6,h_7,h_8,h_9,h_10,h_11,h_12,h_13,h_14,h_15,h_16,h_17,h_18,h_19,h_20,h_21,h_22,h_23,h_24]
               refine Hid.selQ (fun h_25 => ?_) (fun h_25 => ?_)
               ·replace H := HS.cnd_t h_25 H
                try simp -implicitDefEqProofs (maxSteps := 999999) [-selQ_sel,h_1,h_2,h_3,h_4,h_5,h_6,h_7,h_8,h_9,h_10,h_11,h_12,h_13,h_14,h_15,h_16,h_17,h_18,h_19,h_20,h_21,h_22,h_23,h_24,h_25]
                have hr := (HS.some H).symm; subst hr
                refine Hid.mk ⟨_,Wk.refl _,?_⟩
                try simp -implicitDefEqProofs (maxSteps := 999999) [-selQ_sel,h_1,h_2,h_3,h_4,h_5,h_6,h_7,h_8,h_9,h_10,h_11,h_12,h_13,h_14,h_15,h_16,h_17,h_18,h_19,h_20,h_21,h_22,h_23,h_24,h_25]
               ·replace H := HS.cnd_f h_25 H
                try simp -implicitDefEqProofs (maxSteps := 999999) [-selQ_sel,h_1,h_2,h_3,h_4,h_5,h_6,h_7,h_8,h_9,h_10,h_11,h_12,h_13,h_14,h_15,h_16,h_17,h_18,h_19,h_20,h_21,h_22,h_23,h_24,h_25]
                have hr := (HS.some H).symm; subst hr
                refine Hid.mk ⟨_,Wk.refl _,?_⟩
                try simp -implicitDefEqProofs (maxSteps := 999999) [-selQ_sel,h_1,h_2,h_3,h_4,h_5,h_6,h_7,h_8,h_9,h_10,h_11,h_12,h_13,h_14,h_15,h_16,h_17,h_18,h_19,h_20,h_21,h_22,h_23,h_24,h_25]
              ·replace H := HS.cnd_f h_24 H
               try simp -implicitDefEqProofs (maxSteps := 999999) [-selQ_sel,h_1,h_2,h_3,h_4,h_5,h_6,h_7,h_8,h_9,h_10,h_11,h_12,h_13,h_14,h_15,h_16,h_17,h_18,h_19,h_20,h_21,h_22,h_23,h_24]
               have hr := (HS.some H).symm; subst hr
               refine Hid.mk ⟨_,Wk.refl _,?_⟩
               try simp -implicitDefEqProofs (maxSteps := 999999) [-selQ_sel,h_1,h_2,h_3,h_4,h_5,h_6,h_7,h_8,h_9,h_10,h_11,h_12,h_13,h_14,h_15,h_16,h_17,h_18,h_19,h_20,h_21,h_22,h_23,h_24]
             ·replace H := HS.cnd_f h_23 H
              try simp -implicitDefEqProofs (maxSteps := 999999) [-selQ_sel,h_1,h_2,h_3,h_4,h_5,h_6,h_7,h_8,h_9,h_10,h_11,h_12,h_13,h_14,h_15,h_16,h_17,h_18,h_19,h_20,h_21,h_22,h_23]
              have hr := (HS.some H).symm; subst hr
              refine Hid.mk ⟨_,Wk.refl _,?_⟩
              try simp -implicitDefEqProofs (maxSteps := 999999) [-selQ_sel,h_1,h_2,h_3,h_4,h_5,h_6,h_7,h_8,h_9,h_10,h_11,h_12,h_13,h_14,h_15,h_16,h_17,h_18,h_19,h_20,h_21,h_22,h_23]
            ·replace H := HS.cnd_f h_21 H
             try simp -implicitDefEqProofs (maxSteps := 999999) [-selQ_sel,h_1,h_2,h_3,h_4,h_5,h_6,h_7,h_8,h_9,h_10,h_11,h_12,h_13,h_14,h_15,h_16,h_17,h_18,h_19,h_20,h_21]
             have hr := (HS.some H).symm; subst hr
             refine Hid.mk ⟨_,Wk.refl _,?_⟩
             try simp -implicitDefEqProofs (maxSteps := 999999) [-selQ_sel,h_1,h_2,h_3,h_4,h_5,h_6,h_7,h_8,h_9,h_10,h_11,h_12,h_13,h_14,h_15,h_16,h_17,h_18,h_19,h_20,h_21]
           ·replace H := HS.cnd_f h_20 H
            try simp -implicitDefEqProofs (maxSteps := 999999) [-selQ_sel,h_1,h_2,h_3,h_4,h_5,h_6,h_7,h_8,h_9,h_10,h_11,h_12,h_13,h_14,h_15,h_16,h_17,h_18,h_19,h_20]
            obtain ⟨v11,h_26,H⟩ := HS.bnd H
            try simp -implicitDefEqProofs (maxSteps := 999999) [-selQ_sel,h_1,h_2,h_3,h_4,h_5,h_6,h_7,h_8,h_9,h_10,h_11,h_12,h_13,h_14,h_15,h_16,h_17,h_18,h_19,h_20,h_26]
            have hr := (HS.some H).symm; subst hr
            refine Hid.mk ⟨_,Wk.refl _,?_⟩
            try simp -implicitDefEqProofs (maxSteps := 999999) [-selQ_sel,h_1,h_2,h_3,h_4,h_5,h_6,h_7,h_8,h_9,h_10,h_11,h_12,h_13,h_14,h_15,h_16,h_17,h_18,h_19,h_20,h_26]
          ·replace H := HS.cnd_f h_19 H
           try simp -implicitDefEqProofs (maxSteps := 999999) [-selQ_sel,h_1,h_2,h_3,h_4,h_5,h_6,h_7,h_8,h_9,h_10,h_11,h_12,h_13,h_14,h_15,h_16,h_17,h_18,h_19]
           have hr := (HS.some H).symm; subst hr
           refine Hid.mk ⟨_,Wk.refl _,?_⟩
           try simp -implicitDefEqProofs (maxSteps := 999999) [-selQ_sel,h_1,h_2,h_3,h_4,h_5,h_6,h_7,h_8,h_9,h_10,h_11,h_12,h_13,h_14,h_15,h_16,h_17,h_18,h_19]
         ·replace H := HS.cnd_f h_17 H
          try simp -implicitDefEqProofs (maxSteps := 999999) [-selQ_sel,h_1,h_2,h_3,h_4,h_5,h_6,h_7,h_8,h_9,h_10,h_11,h_12,h_13,h_14,h_15,h_16,h_17]
          have hr := (HS.some H).symm; subst hr
          refine Hid.mk ⟨_,Wk.refl _,?_⟩
          try simp -implicitDefEqProofs (maxSteps := 999999) [-selQ_sel,h_1,h_2,h_3,h_4,h_5,h_6,h_7,h_8,h_9,h_10,h_11,h_12,h_13,h_14,h_15,h_16,h_17]
        ·replace H := HS.cnd_f h_15 H
         try simp -implicitDefEqProofs (maxSteps := 999999) [-selQ_sel,h_1,h_2,h_3,h_4,h_5,h_6,h_7,h_8,h_9,h_10,h_11,h_12,h_13,h_14,h_15]
         have hr := (HS.some H).symm; subst hr
         refine Hid.mk ⟨_,Wk.refl _,?_⟩
         try simp -implicitDefEqProofs (maxSteps := 999999) [-selQ_sel,h_1,h_2,h_3,h_4,h_5,h_6,h_7,h_8,h_9,h_10,h_11,h_12,h_13,h_14,h_15]
       ·replace H := HS.cnd_f h_13 H
        try simp -implicitDefEqProofs (maxSteps := 999999) [-selQ_sel,h_1,h_2,h_3,h_4,h_5,h_6,h_7,h_8,h_9,h_10,h_11,h_12,h_13]
        have hr := (HS.some H).symm; subst hr
        refine Hid.mk ⟨_,Wk.refl _,?_⟩
        try simp -implicitDefEqProofs (maxSteps := 999999) [-selQ_sel,h_1,h_2,h_3,h_4,h_5,h_6,h_7,h_8,h_9,h_10,h_11,h_12,h_13]
      ·replace H := HS.cnd_f h_11 H
       try simp -implicitDefEqProofs (maxSteps := 999999) [-selQ_sel,h_1,h_2,h_3,h_4,h_5,h_6,h_7,h_8,h_9,h_10,h_11]
       have hr := (HS.some H).symm; subst hr
       refine Hid.mk ⟨_,Wk.refl _,?_⟩
       try simp -implicitDefEqProofs (maxSteps := 999999) [-selQ_sel,h_1,h_2,h_3,h_4,h_5,h_6,h_7,h_8,h_9,h_10,h_11]
     ·replace H := HS.cnd_f h_9 H
      try simp -implicitDefEqProofs (maxSteps := 999999) [-selQ_sel,h_1,h_2,h_3,h_4,h_5,h_6,h_7,h_8,h_9]
      have hr := (HS.some H).symm; subst hr
      refine Hid.mk ⟨_,Wk.refl _,?_⟩
      try simp -implicitDefEqProofs (maxSteps := 999999) [-selQ_sel,h_1,h_2,h_3,h_4,h_5,h_6,h_7,h_8,h_9]
    ·replace H := HS.cnd_f h_7 H
     try simp -implicitDefEqProofs (maxSteps := 999999) [-selQ_sel,h_1,h_2,h_3,h_4,h_5,h_6,h_7]
     have hr := (HS.some H).symm; subst hr
     refine Hid.mk ⟨_,Wk.refl _,?_⟩
     try simp -implicitDefEqProofs (maxSteps := 999999) [-selQ_sel,h_1,h_2,h_3,h_4,h_5,h_6,h_7]
  ·replace H := HS.cnd_f h_4 H
   try simp -implicitDefEqProofs (maxSteps := 999999) [-selQ_sel,h_1,h_2,h_3,h_4]
   have hr := (HS.some H).symm; subst hr
   refine Hid.mk ⟨_,Wk.refl _,?_⟩
   try simp -implicitDefEqProofs (maxSteps := 999999) [-selQ_sel,h_1,h_2,h_3,h_4]
 ·replace H := HS.cnd_f h_2 H
  try simp -implicitDefEqProofs (maxSteps := 999999) [-selQ_sel,h_1,h_2]
  have hr := (HS.some H).symm; subst hr
  refine Hid.mk ⟨_,Wk.refl _,?_⟩
  try simp -implicitDefEqProofs (maxSteps := 999999) [-selQ_sel,h_1,h_2]
theorem spec_PathOk_ok0 (hm : Try.prog.follows .mixedOrders = true) (k_spec_NeedOf : Sound Try.prog 124 spec_NeedOf_x) (k_spec_PointOk : Sound Try.prog 125 spec_PointOk_x) : Sound Try.prog 99 spec_PathOk_x := by
 refine xOf_sound fun q r h => ?_
 revert h; revert r; revert q; intro a0 r h
 refine fn_ok E0 hm Try.func99 rfl (by decide +kernel) (by rfl) fun Γ hn hk => ?_
 dsimp only [spec_PathOk_e,spec_PathOk_v]
 replace hn : Γ.n = 75 := hn
 replace hk : Γ.k = 0 := hk
 have H : HS (spec_PathOk a0) r := h
 clear h; unfold spec_PathOk at H
 try simp -implicitDefEqProofs at H
 refine Tr.of_vc (cl := tabC [(124,spec_NeedOf_x),(125,spec_PointOk_x)]) (E := E0) [] (tab_cons k_spec_NeedOf (tab_cons k_spec_PointOk tab_nil)) hm (by rw [hn]; decide +kernel) ?_
 try simp -implicitDefEqProofs (maxSteps := 999999) [-selQ_sel]
 refine Hid.selQ (fun h_1 => ?_) (fun h_1 => ?_)
 ·replace H := HS.cnd_t h_1 H
  try simp -implicitDefEqProofs (maxSteps := 999999) [-selQ_sel,h_1]
  refine Hid.brV (fun h_2 => ?_) (fun h_2 => ?_)
  ·replace H := HS.cnd_t h_2 H
   try simp -implicitDefEqProofs (maxSteps := 999999) [-selQ_sel,h_1,h_2]
   obtain ⟨q,h_3,H⟩ := HS.bnd H
   refine Hid.mk (Tr.weak (s' := (spec_PathOk_l0_S a0) (0,0)) (Wk.ofk [0] hk (by rfl) (by simp -implicitDefEqProofs [spec_PathOk_l0_S,h_1,h_2]) (by simp -implicitDefEqProofs [spec_PathOk_l0_S,h_1,h_2])) ?_)
   refine wp_loop_of (S := (spec_PathOk_l0_S a0)) (f := (spec_PathOk_l0 a0)) (xt := (spec_PathOk_l0_X a0)) ?_ ?_ h_3 ?_
   ·intro q; rcases q with y8 | ⟨⟩ <;> simp [spec_PathOk_l0_X]
   ·clear H h_3 q
    rintro ⟨x3,x4⟩ o R hf hR
    have H : HS (spec_PathOk_l0 a0 (x3,x4)) o := hf
    clear hf; unfold spec_PathOk_l0 at H
    try simp -implicitDefEqProofs at H
    refine Tr.of_vc (cl := tabC [(124,spec_NeedOf_x),(125,spec_PointOk_x)]) (E := E0) [] (tab_cons k_spec_NeedOf (tab_cons k_spec_PointOk tab_nil)) hm (by rw [hn]; decide +kernel) ?_
    try simp -implicitDefEqProofs (maxSteps := 999999) [-selQ_sel,spec_PathOk_l0_S]
    refine Hid.brV (fun h_4 => ?_) (fun h_4 => ?_)
    ·replace H := HS.cnd_t h_4 H
     try simp -implicitDefEqProofs (maxSteps := 999999) [-selQ_sel,h_4]
     have hr := (HS.some H).symm; subst hr
     exact Hid.mk ⟨(spec_PathOk_l0_X a0 (.inl x3)).2,Wk.ofk [0] hk (by rfl) (by simp -implicitDefEqProofs [spec_PathOk_l0_X,h_4]) (by simp -implicitDefEqProofs [spec_PathOk_l0_X,h_4]),hR⟩
    ·replace H := HS.cnd_f h_4 H
     try simp -implicitDefEqProofs (maxSteps := 999999) [-selQ_sel,h_4]
     obtain ⟨v5,h_5,H⟩ := HS.bnd H
     try simp -implicitDefEqProofs (maxSteps := 999999) [-selQ_sel,h_4,h_5]
     obtain ⟨v6,h_6,H⟩ := HS.bnd H
     try simp -implicitDefEqProofs (maxSteps := 999999) [-selQ_sel,h_4,h_5,h_6]
     refine Hid.selQ (fun h_7 => ?_) (fun h_7 => ?_)
     ·replace H := HS.cnd_t h_7 H
      try simp -implicitDefEqProofs (maxSteps := 999999) [-selQ_sel,h_4,h_5,h_6,h_7]
      refine Hid.selQ (fun h_8 => ?_) (fun h_8 => ?_)
      ·replace H := HS.cnd_t h_8 H
       try simp -implicitDefEqProofs (maxSteps := 999999) [-selQ_sel,h_4,h_5,h_6,h_7,h_8]
       refine Hid.brV (fun h_9 => ?_) (fun h_9 => ?_)
       ·replace H := HS.cnd_t h_9 H
        try simp -implicitDefEqProofs (maxSteps := 999999) [-selQ_sel,h_4,h_5,h_6,h_7,h_8,h_9]
        have hr := (HS.some H).symm; subst hr
        exact Hid.mk ⟨spec_PathOk_l0_S a0 ((IntKind.i64.wrap (x3 + v6)),(IntKind.i64.wrap (x4 + 1))),Wk.ofk [0] hk (by rfl) (by simp -implicitDefEqProofs [spec_PathOk_l0_S,h_4,h_5,h_6,h_7,h_8,h_9]) (by simp -implicitDefEqProofs [spec_PathOk_l0_S,h_4,h_5,h_6,h_7,h_8,h_9]),hR⟩
       ·replace H := HS.cnd_f h_9 H
        try simp -implicitDefEqProofs (maxSteps := 999999) [-selQ_sel,h_4,h_5,h_6,h_7,h_8,h_9]
        have hr := (HS.some H).symm; subst hr
        exact Hid.mk ⟨(spec_PathOk_l0_X a0 (.inr ())).2,Wk.ofk [] hk (by rfl) (by simp -implicitDefEqProofs [spec_PathOk_l0_X,h_4,h_5,h_6,h_7,h_8,h_9]) (by simp -implicitDefEqProofs [spec_PathOk_l0_X,h_4,h_5,h_6,h_7,h_8,h_9]),hR⟩
      ·replace H := HS.cnd_f h_8 H
       try simp -implicitDefEqProofs (maxSteps := 999999) [-selQ_sel,h_4,h_5,h_6,h_7,h_8]
       obtain ⟨v7,h_10,H⟩ := HS.bnd H
       try simp -implicitDefEqProofs (maxSteps := 999999) [-selQ_sel,h_4,h_5,h_6,h_7,h_8,h_10]
       refine Hid.selQ (fun h_11 => ?_) (fun h_11 => ?_)
       ·replace H := HS.cnd_t h_11 H
        try simp -implicitDefEqProofs (maxSteps := 999999) [-selQ_sel,h_4,h_5,h_6,h_7,h_8,h_10,h_11]
        refine Hid.brV (fun h_12 => ?_) (fun h_12 => ?_)
        ·replace H := HS.cnd_t h_12 H
         try simp -implicitDefEqProofs (maxSteps := 999999) [-selQ_sel,h_4,h_5,h_6,h_7,h_8,h_10,h_11,h_12]
         have hr := (HS.some H).symm; subst hr
         exact Hid.mk ⟨spec_PathOk_l0_S a0 ((IntKind.i64.wrap (x3 + v6)),(IntKind.i64.wrap (x4 + 1))),Wk.ofk [0] hk (by rfl) (by simp -implicitDefEqProofs [spec_PathOk_l0_S,h_4,h_5,h_6,h_7,h_8,h_10,h_11,h_12]) (by simp -implicitDefEqProofs [spec_PathOk_l0_S,h_4,h_5,h_6,h_7,h_8,h_10,h_11,h_12]),hR⟩
        ·replace H := HS.cnd_f h_12 H
         try simp -implicitDefEqProofs (maxSteps := 999999) [-selQ_sel,h_4,h_5,h_6,h_7,h_8,h_10,h_11,h_12]
         have hr := (HS.some H).symm; subst hr
         exact Hid.mk ⟨(spec_PathOk_l0_X a0 (.inr ())).2,Wk.ofk [] hk (by rfl) (by simp -implicitDefEqProofs [spec_PathOk_l0_X,h_4,h_5,h_6,h_7,h_8,h_10,h_11,h_12]) (by simp -implicitDefEqProofs [spec_PathOk_l0_X,h_4,h_5,h_6,h_7,h_8,h_10,h_11,h_12]),hR⟩
       ·replace H := HS.cnd_f h_11 H
        try simp -implicitDefEqProofs (maxSteps := 999999) [-selQ_sel,h_4,h_5,h_6,h_7,h_8,h_10,h_11]
        have hr := (HS.some H).symm; subst hr
        exact Hid.mk ⟨spec_PathOk_l0_S a0 ((IntKind.i64.wrap (x3 + v6)),(IntKind.i64.wrap (x4 + 1))),Wk.ofk [0] hk (by rfl) (by simp -implicitDefEqProofs [spec_PathOk_l0_S,h_4,h_5,h_6,h_7,h_8,h_10,h_11]) (by simp -implicitDefEqProofs [spec_PathOk_l0_S,h_4,h_5,h_6,h_7,h_8,h_10,h_11]),hR⟩
     ·replace H := HS.cnd_f h_7 H
      try simp -implicitDefEqProofs (maxSteps := 999999) [-selQ_sel,h_4,h_5,h_6,h_7]
      have hr := (HS.some H).symm; subst hr
      exact Hid.mk ⟨(spec_PathOk_l0_X a0 (.inr ())).2,Wk.ofk [] hk (by rfl) (by simp -implicitDefEqProofs [spec_PathOk_l0_X,h_4,h_5,h_6,h_7]) (by simp -implicitDefEqProofs [spec_PathOk_l0_X,h_4,h_5,h_6,h_7]),hR⟩
   ·rcases q with y8 | ⟨⟩
    ·dsimp only at H
     try simp -implicitDefEqProofs (maxSteps := 999999) [-selQ_sel,h_1,h_2,spec_PathOk_l0_X]
     obtain ⟨q,h_13,H⟩ := HS.bnd H
     refine Hid.mk (Tr.weak (s' := (spec_PathOk_l1_S a0 y8) 0) (Wk.ofk [0] hk (by rfl) (by simp -implicitDefEqProofs [spec_PathOk_l1_S,h_1,h_2]) (by simp -implicitDefEqProofs [spec_PathOk_l1_S,h_1,h_2])) ?_)
     refine wp_loop_of (S := (spec_PathOk_l1_S a0 y8)) (f := (spec_PathOk_l1 a0 y8)) (xt := (spec_PathOk_l1_X a0 y8)) ?_ ?_ h_13 ?_
     ·intro q; rcases q with ⟨⟩ | ⟨⟩ <;> simp [spec_PathOk_l1_X]
     ·clear H h_13 q
      rintro x11 o R hf hR
      have H : HS (spec_PathOk_l1 a0 y8 x11) o := hf
      clear hf; unfold spec_PathOk_l1 at H
      try simp -implicitDefEqProofs at H
      refine Tr.of_vc (cl := tabC [(124,spec_NeedOf_x),(125,spec_PointOk_x)]) (E := E0) [] (tab_cons k_spec_NeedOf (tab_cons k_spec_PointOk tab_nil)) hm (by rw [hn]; decide +kernel) ?_
      try simp -implicitDefEqProofs (maxSteps := 999999) [-selQ_sel,spec_PathOk_l1_S]
      refine Hid.brV (fun h_14 => ?_) (fun h_14 => ?_)
      ·replace H := HS.cnd_t h_14 H
       try simp -implicitDefEqProofs (maxSteps := 999999) [-selQ_sel,h_14]
       have hr := (HS.some H).symm; subst hr
       exact Hid.mk ⟨(spec_PathOk_l1_X a0 y8 (.inl ())).2,Wk.ofk [0] hk (by rfl) (by simp -implicitDefEqProofs [spec_PathOk_l1_X,h_14]) (by simp -implicitDefEqProofs [spec_PathOk_l1_X,h_14]),hR⟩
      ·replace H := HS.cnd_f h_14 H
       try simp -implicitDefEqProofs (maxSteps := 999999) [-selQ_sel,h_14]
       obtain ⟨v12,h_15,H⟩ := HS.bnd H
       try simp -implicitDefEqProofs (maxSteps := 999999) [-selQ_sel,h_14,h_15]
       obtain ⟨v13,h_16,H⟩ := HS.bnd H
       try simp -implicitDefEqProofs (maxSteps := 999999) [-selQ_sel,h_14,h_15,h_16]
       refine Hid.brV (fun h_17 => ?_) (fun h_17 => ?_)
       ·replace H := HS.cnd_t h_17 H
        try simp -implicitDefEqProofs (maxSteps := 999999) [-selQ_sel,h_14,h_15,h_16,h_17]
        have hr := (HS.some H).symm; subst hr
        exact Hid.mk ⟨spec_PathOk_l1_S a0 y8 (IntKind.i64.wrap (x11 + 1)),Wk.ofk [0] hk (by rfl) (by simp -implicitDefEqProofs [spec_PathOk_l1_S,h_14,h_15,h_16,h_17]) (by simp -implicitDefEqProofs [spec_PathOk_l1_S,h_14,h_15,h_16,h_17]),hR⟩
       ·replace H := HS.cnd_f h_17 H
        try simp -implicitDefEqProofs (maxSteps := 999999) [-selQ_sel,h_14,h_15,h_16,h_17]
        have hr := (HS.some H).symm; subst hr
        exact Hid.mk ⟨(spec_PathOk_l1_X a0 y8 (.inr ())).2,Wk.ofk [] hk (by rfl) (by simp -implicitDefEqProofs [spec_PathOk_l1_X,h_14,h_15,h_16,h_17]) (by simp -implicitDefEqProofs [spec_PathOk_l1_X,h_14,h_15,h_16,h_17]),hR⟩
     ·rcases q with ⟨⟩ | ⟨⟩
      ·dsimp only at H
       try simp -implicitDefEqProofs (maxSteps := 999999) [-selQ_sel,h_1,h_2,spec_PathOk_l1_X]
       have hr := (HS.some H).symm; subst hr
       refine Hid.mk ⟨_,Wk.refl _,?_⟩
       try simp -implicitDefEqProofs (maxSteps := 999999) [-selQ_sel,h_1,h_2]
      ·dsimp only at H
       try simp -implicitDefEqProofs (maxSteps := 999999) [-selQ_sel,h_1,h_2,spec_PathOk_l1_X]
       have hr := (HS.some H).symm; subst hr
       refine Hid.mk ⟨_,Wk.refl _,?_⟩
       try simp -implicitDefEqProofs (maxSteps := 999999) [-selQ_sel,h_1,h_2]
    ·dsimp only at H
     try simp -implicitDefEqProofs (maxSteps := 999999) [-selQ_sel,h_1,h_2,spec_PathOk_l0_X]
     have hr := (HS.some H).symm; subst hr
     refine Hid.mk ⟨_,Wk.refl _,?_⟩
     try simp -implicitDefEqProofs (maxSteps := 999999) [-selQ_sel,h_1,h_2]
  ·replace H := HS.cnd_f h_2 H
   try simp -implicitDefEqProofs (maxSteps := 999999) [-selQ_sel,h_1,h_2]
   have hr := (HS.some H).symm; subst hr
   refine Hid.mk ⟨_,Wk.refl _,?_⟩
   try simp -implicitDefEqProofs (maxSteps := 999999) [-selQ_sel,h_1,h_2]
 ·replace H := HS.cnd_f h_1 H
  try simp -implicitDefEqProofs (maxSteps := 999999) [-selQ_sel,h_1]
  have hr := (HS.some H).symm; subst hr
  refine Hid.mk ⟨_,Wk.refl _,?_⟩
  try simp -implicitDefEqProofs (maxSteps := 999999) [-selQ_sel,h_1]
theorem impl_PathOk_ok0 (hm : Try.prog.follows .mixedOrders = true) (k_impl_pointsOk : Sound Try.prog 120 impl_pointsOk_x) (k_impl_NeedOf : Sound Try.prog 121 impl_NeedOf_x) : Sound Try.prog 90 impl_PathOk_x := by
 refine xOf_sound fun q r h => ?_
 revert h; revert r; revert q; intro a0 r h
 refine fn_ok E0 hm Try.func90 rfl (by decide +kernel) (by rfl) fun Γ hn hk => ?_
 dsimp only [impl_PathOk_e,impl_PathOk_v]
 replace hn : Γ.n = 63 := hn
 replace hk : Γ.k = 0 := hk
 have H : HS (impl_PathOk a0) r := h
 clear h; unfold impl_PathOk at H
 try simp -implicitDefEqProofs at H
 refine Tr.of_vc (cl := tabC [(120,impl_pointsOk_x),(121,impl_NeedOf_x)]) (E := E0) [] (tab_cons k_impl_pointsOk (tab_cons k_impl_NeedOf tab_nil)) hm (by rw [hn]; decide +kernel) ?_
 try simp -implicitDefEqProofs (maxSteps := 999999) [-selQ_sel]
 refine Hid.selQ (fun h_1 => ?_) (fun h_1 => ?_)
 ·replace H := HS.cnd_t h_1 H
  try simp -implicitDefEqProofs (maxSteps := 999999) [-selQ_sel,h_1]
  refine Hid.selQ (fun h_2 => ?_) (fun h_2 => ?_)
  ·replace H := HS.cnd_t h_2 H
   try simp -implicitDefEqProofs (maxSteps := 999999) [-selQ_sel,h_1,h_2]
   obtain ⟨v1,h_3,H⟩ := HS.bnd H
   try simp -implicitDefEqProofs (maxSteps := 999999) [-selQ_sel,h_1,h_2,h_3]
   refine Hid.brV (fun h_4 => ?_) (fun h_4 => ?_)
   ·replace H := HS.cnd_t h_4 H
    try simp -implicitDefEqProofs (maxSteps := 999999) [-selQ_sel,h_1,h_2,h_3,h_4]
    obtain ⟨q,h_5,H⟩ := HS.bnd H
    refine Hid.mk (Tr.weak (s' := (impl_PathOk_l0_S a0) (0,0)) (Wk.ofk [0] hk (by rfl) (by simp -implicitDefEqProofs [impl_PathOk_l0_S,h_1,h_2,h_3,h_4]) (by simp -implicitDefEqProofs [impl_PathOk_l0_S,h_1,h_2,h_3,h_4])) ?_)
    refine wp_loop_of (S := (impl_PathOk_l0_S a0)) (f := (impl_PathOk_l0 a0)) (xt := (impl_PathOk_l0_X a0)) ?_ ?_ h_5 ?_
    ·intro q; rcases q with y9 | ⟨⟩ <;> simp [impl_PathOk_l0_X]
    ·clear H h_5 q
     rintro ⟨x4,x5⟩ o R hf hR
     have H : HS (impl_PathOk_l0 a0 (x4,x5)) o := hf
     clear hf; unfold impl_PathOk_l0 at H
     try simp -implicitDefEqProofs at H
     refine Tr.of_vc (cl := tabC [(120,impl_pointsOk_x),(121,impl_NeedOf_x)]) (E := E0) [] (tab_cons k_impl_pointsOk (tab_cons k_impl_NeedOf tab_nil)) hm (by rw [hn]; decide +kernel) ?_
     try simp -implicitDefEqProofs (maxSteps := 999999) [-selQ_sel,impl_PathOk_l0_S]
     refine Hid.brV (fun h_6 => ?_) (fun h_6 => ?_)
     ·replace H := HS.cnd_t h_6 H
      try simp -implicitDefEqProofs (maxSteps := 999999) [-selQ_sel,h_6]
      have hr := (HS.some H).symm; subst hr
      exact Hid.mk ⟨(impl_PathOk_l0_X a0 (.inl x4)).2,Wk.ofk [0] hk (by rfl) (by simp -implicitDefEqProofs [impl_PathOk_l0_X,h_6]) (by simp -implicitDefEqProofs [impl_PathOk_l0_X,h_6]),hR⟩
     ·replace H := HS.cnd_f h_6 H
      try simp -implicitDefEqProofs (maxSteps := 999999) [-selQ_sel,h_6]
      obtain ⟨v6,h_7,H⟩ := HS.bnd H
      try simp -implicitDefEqProofs (maxSteps := 999999) [-selQ_sel,h_6,h_7]
      obtain ⟨v7,h_8,H⟩ := HS.bnd H
      try simp -implicitDefEqProofs (maxSteps := 999999) [-selQ_sel,h_6,h_7,h_8]
      refine Hid.selQ (fun h_9 => ?_) (fun h_9 => ?_)
      ·replace H := HS.cnd_t h_9 H
       try simp -implicitDefEqProofs (maxSteps := 999999) [-selQ_sel,h_6,h_7,h_8,h_9]
       refine Hid.selQ (fun h_10 => ?_) (fun h_10 => ?_)
       ·replace H := HS.cnd_t h_10 H
        try simp -implicitDefEqProofs (maxSteps := 999999) [-selQ_sel,h_6,h_7,h_8,h_9,h_10]
        refine Hid.brV (fun h_11 => ?_) (fun h_11 => ?_)
        ·replace H := HS.cnd_t h_11 H
         try simp -implicitDefEqProofs (maxSteps := 999999) [-selQ_sel,h_6,h_7,h_8,h_9,h_10,h_11]
         have hr := (HS.some H).symm; subst hr
         exact Hid.mk ⟨impl_PathOk_l0_S a0 ((IntKind.i64.wrap (x4 + v7)),(IntKind.i64.wrap (x5 + 1))),Wk.ofk [0] hk (by rfl) (by simp -implicitDefEqProofs [impl_PathOk_l0_S,h_6,h_7,h_8,h_9,h_10,h_11]) (by simp -implicitDefEqProofs [impl_PathOk_l0_S,h_6,h_7,h_8,h_9,h_10,h_11]),hR⟩
        ·replace H := HS.cnd_f h_11 H
         try simp -implicitDefEqProofs (maxSteps := 999999) [-selQ_sel,h_6,h_7,h_8,h_9,h_10,h_11]
         have hr := (HS.some H).symm; subst hr
         exact Hid.mk ⟨(impl_PathOk_l0_X a0 (.inr ())).2,Wk.ofk [] hk (by rfl) (by simp -implicitDefEqProofs [impl_PathOk_l0_X,h_6,h_7,h_8,h_9,h_10,h_11]) (by simp -implicitDefEqProofs [impl_PathOk_l0_X,h_6,h_7,h_8,h_9,h_10,h_11]),hR⟩
       ·replace H := HS.cnd_f h_10 H
        try simp -implicitDefEqProofs (maxSteps := 999999) [-selQ_sel,h_6,h_7,h_8,h_9,h_10]
        have hr := (HS.some H).symm; subst hr
        exact Hid.mk ⟨(impl_PathOk_l0_X a0 (.inr ())).2,Wk.ofk [] hk (by rfl) (by simp -implicitDefEqProofs [impl_PathOk_l0_X,h_6,h_7,h_8,h_9,h_10]) (by simp -implicitDefEqProofs [impl_PathOk_l0_X,h_6,h_7,h_8,h_9,h_10]),hR⟩
      ·replace H := HS.cnd_f h_9 H
       try simp -implicitDefEqProofs (maxSteps := 999999) [-selQ_sel,h_6,h_7,h_8,h_9]
       obtain ⟨v8,h_12,H⟩ := HS.bnd H
       try simp -implicitDefEqProofs (maxSteps := 999999) [-selQ_sel,h_6,h_7,h_8,h_9,h_12]
       refine Hid.selQ (fun h_13 => ?_) (fun h_13 => ?_)
       ·replace H := HS.cnd_t h_13 H
        try simp -implicitDefEqProofs (maxSteps := 999999) [-selQ_sel,h_6,h_7,h_8,h_9,h_12,h_13]
        refine Hid.selQ (fun h_14 => ?_) (fun h_14 => ?_)
        ·replace H := HS.cnd_t h_14 H
         try simp -implicitDefEqProofs (maxSteps := 999999) [-selQ_sel,h_6,h_7,h_8,h_9,h_12,h_13,h_14]
         refine Hid.brV (fun h_15 => ?_) (fun h_15 => ?_)
         ·replace H := HS.cnd_t h_15 H
          try simp -implicitDefEqProofs (maxSteps := 999999) [-selQ_sel,h_6,h_7,h_8,h_9,h_12,h_13,h_14,h_15]
          have hr := (HS.some H).symm; subst hr
          exact Hid.mk ⟨impl_PathOk_l0_S a0 ((IntKind.i64.wrap (x4 + v7)),(IntKind.i64.wrap (x5 + 1))),Wk.ofk [0] hk (by rfl) (by simp -implicitDefEqProofs [impl_PathOk_l0_S,h_6,h_7,h_8,h_9,h_12,h_13,h_14,h_15]) (by simp -implicitDefEqProofs [impl_PathOk_l0_S,h_6,h_7,h_8,h_9,h_12,h_13,h_14,h_15]),hR⟩
         ·replace H := HS.cnd_f h_15 H
          try simp -implicitDefEqProofs (maxSteps := 999999) [-selQ_sel,h_6,h_7,h_8,h_9,h_12,h_13,h_14,h_15]
          have hr := (HS.some H).symm; subst hr
          exact Hid.mk ⟨(impl_PathOk_l0_X a0 (.inr ())).2,Wk.ofk [] hk (by rfl) (by simp -implicitDefEqProofs [impl_PathOk_l0_X,h_6,h_7,h_8,h_9,h_12,h_13,h_14,h_15]) (by simp -implicitDefEqProofs [impl_PathOk_l0_X,h_6,h_7,h_8,h_9,h_12,h_13,h_14,h_15]),hR⟩
        ·replace H := HS.cnd_f h_14 H
         try simp -implicitDefEqProofs (maxSteps := 999999) [-selQ_sel,h_6,h_7,h_8,h_9,h_12,h_13,h_14]
         have hr := (HS.some H).symm; subst hr
         exact Hid.mk ⟨impl_PathOk_l0_S a0 ((IntKind.i64.wrap (x4 + v7)),(IntKind.i64.wrap (x5 + 1))),Wk.ofk [0] hk (by rfl) (by simp -implicitDefEqProofs [impl_PathOk_l0_S,h_6,h_7,h_8,h_9,h_12,h_13,h_14]) (by simp -implicitDefEqProofs [impl_PathOk_l0_S,h_6,h_7,h_8,h_9,h_12,h_13,h_14]),hR⟩
       ·replace H := HS.cnd_f h_13 H
        try simp -implicitDefEqProofs (maxSteps := 999999) [-selQ_sel,h_6,h_7,h_8,h_9,h_12,h_13]
        have hr := (HS.some H).symm; subst hr
        exact Hid.mk ⟨(impl_PathOk_l0_X a0 (.inr ())).2,Wk.ofk [] hk (by rfl) (by simp -implicitDefEqProofs [impl_PathOk_l0_X,h_6,h_7,h_8,h_9,h_12,h_13]) (by simp -implicitDefEqProofs [impl_PathOk_l0_X,h_6,h_7,h_8,h_9,h_12,h_13]),hR⟩
    ·rcases q with y9 | ⟨⟩
     ·dsimp only at H
      try simp -implicitDefEqProofs (maxSteps := 999999) [-selQ_sel,h_1,h_2,h_3,h_4,impl_PathOk_l0_X]
      have hr := (HS.some H).symm; subst hr
      refine Hid.mk ⟨_,Wk.refl _,?_⟩
      try simp -implicitDefEqProofs (maxSteps := 999999) [-selQ_sel,h_1,h_2,h_3,h_4]
     ·dsimp only at H
      try simp -implicitDefEqProofs (maxSteps := 999999) [-selQ_sel,h_1,h_2,h_3,h_4,impl_PathOk_l0_X]
      have hr := (HS.some H).symm; subst hr
      refine Hid.mk ⟨_,Wk.refl _,?_⟩
      try simp -implicitDefEqProofs (maxSteps := 999999) [-selQ_sel,h_1,h_2,h_3,h_4]
   ·replace H := HS.cnd_f h_4 H
    try simp -implicitDefEqProofs (maxSteps := 999999) [-selQ_sel,h_1,h_2,h_3,h_4]
    have hr := (HS.some H).symm; subst hr
    refine Hid.mk ⟨_,Wk.refl _,?_⟩
    try simp -implicitDefEqProofs (maxSteps := 999999) [-selQ_sel,h_1,h_2,h_3,h_4]
  ·replace H := HS.cnd_f h_2 H
   try simp -implicitDefEqProofs (maxSteps := 999999) [-selQ_sel,h_1,h_2]
   have hr := (HS.some H).symm; subst hr
   refine Hid.mk ⟨_,Wk.refl _,?_⟩
   try simp -implicitDefEqProofs (maxSteps := 999999) [-selQ_sel,h_1,h_2]
 ·replace H := HS.cnd_f h_1 H
  try simp -implicitDefEqProofs (maxSteps := 999999) [-selQ_sel,h_1]
  have hr := (HS.some H).symm; subst hr
  refine Hid.mk ⟨_,Wk.refl _,?_⟩
  try simp -implicitDefEqProofs (maxSteps := 999999) [-selQ_sel,h_1]
theorem spec_DropNode_ok0 (hm : Try.prog.follows .mixedOrders = true) (k_spec_SceneOk : Sound Try.prog 44 spec_SceneOk_x) (k_spec_NodeAt : Sound Try.prog 45 spec_NodeAt_x) (k_spec_l15Under : Sound Try.prog 46 spec_l15Under_x) (k_spec_l15CopyNode : Sound Try.prog 47 spec_l15CopyNode_x) (k_spec_l15Copy : Sound Try.prog 43 spec_l15Copy_x) : Sound Try.prog 29 spec_DropNode_x := by
 refine xOf_sound fun q r h => ?_
 obtain ⟨a0,a1⟩ := q
 refine fn_ok E0 hm Try.func29 rfl (by decide +kernel) (by rfl) fun Γ hn hk => ?_
 dsimp only [spec_DropNode_e,spec_DropNode_v]
 replace hn : Γ.n = 49 := hn
 replace hk : Γ.k = 0 := hk
 have H : HS (spec_DropNode a0 a1) r := h
 clear h; unfold spec_DropNode at H
 try simp -implicitDefEqProofs at H
 refine Tr.of_vc (cl := tabC [(44,spec_SceneOk_x),(45,spec_NodeAt_x),(46,spec_l15Under_x),(47,spec_l15CopyNode_x),(43,spec_l15Copy_x)]) (E := E0) [] (tab_cons k_spec_SceneOk (tab_cons k_spec_NodeAt (tab_cons k_spec_l15Under (tab_cons k_spec_l15CopyNode (tab_cons k_spec_l15Copy tab_nil))))) hm (by rw [hn]; decide +kernel) ?_
 try simp -implicitDefEqProofs +decide (maxSteps := 999999) [-selQ_sel,hokQ_of]
 obtain ⟨v1,h_1,H⟩ := HS.bnd H
 try simp -implicitDefEqProofs +decide (maxSteps := 999999) [-selQ_sel,hokQ_of,h_1]
 refine Hid.brV (fun h_2 => ?_) (fun h_2 => ?_)
 ·replace H := HS.cnd_t h_2 H
  try simp -implicitDefEqProofs +decide (maxSteps := 999999) [-selQ_sel,hokQ_of,h_1,h_2]
  obtain ⟨v2,h_3,H⟩ := HS.bnd H
  try simp -implicitDefEqProofs +decide (maxSteps := 999999) [-selQ_sel,hokQ_of,h_1,h_2,h_3]
  refine Hid.brV (fun h_4 => ?_) (fun h_4 => ?_)
  ·replace H := HS.cnd_t h_4 H
   try simp -implicitDefEqProofs +decide (maxSteps := 999999) [-selQ_sel,hokQ_of,h_1,h_2,h_3,h_4]
   obtain ⟨q,h_5,H⟩ := HS.bnd H
   refine Hid.mk (Tr.weak (s' := (spec_DropNode_l0_S a0 a1) (0,[])) (Wk.ofk [0,1,2,3] hk (by rfl) (by simp -implicitDefEqProofs [spec_DropNode_l0_S,h_1,h_2,h_3,h_4]) (by simp -implicitDefEqProofs [spec_DropNode_l0_S,h_1,h_2,h_3,h_4])) ?_)
   refine wp_loop_of (S := (spec_DropNode_l0_S a0 a1)) (f := (spec_DropNode_l0 a0 a1)) (xt := (spec_DropNode_l0_X a0 a1)) ?_ ?_ h_5 ?_
   ·intro q; simp [spec_DropNode_l0_X]
   ·clear H h_5 q
    rintro ⟨x20,x21⟩ o R hf hR
    have H : HS (spec_DropNode_l0 a0 a1 (x20,x21)) o := hf
    clear hf; unfold spec_DropNode_l0 at H
    try simp -implicitDefEqProofs at H
    refine Tr.of_vc (cl := tabC [(44,spec_SceneOk_x),(45,spec_NodeAt_x),(46,spec_l15Under_x),(47,spec_l15CopyNode_x),(43,spec_l15Copy_x)]) (E := E0) [] (tab_cons k_spec_SceneOk (tab_cons k_spec_NodeAt (tab_cons k_spec_l15Under (tab_cons k_spec_l15CopyNode (tab_cons k_spec_l15Copy tab_nil))))) hm (by rw [hn]; decide +kernel) ?_
    try simp -implicitDefEqProofs +decide (maxSteps := 999999) [-selQ_sel,hokQ_of,spec_DropNode_l0_S]
    refine Hid.brV (fun h_6 => ?_) (fun h_6 => ?_)
    ·replace H := HS.cnd_t h_6 H
     try simp -implicitDefEqProofs +decide (maxSteps := 999999) [-selQ_sel,hokQ_of,h_6]
     have hr := (HS.some H).symm; subst hr
     exact Hid.mk ⟨(spec_DropNode_l0_X a0 a1 x21).2,Wk.ofk [1,2,3] hk (by rfl) (by simp -implicitDefEqProofs [spec_DropNode_l0_X,h_6]) (by simp -implicitDefEqProofs [spec_DropNode_l0_X,h_6]),hR⟩
    ·replace H := HS.cnd_f h_6 H
     try simp -implicitDefEqProofs +decide (maxSteps := 999999) [-selQ_sel,hokQ_of,h_6]
     obtain ⟨v22,h_7,H⟩ := HS.bnd H
     try simp -implicitDefEqProofs +decide (maxSteps := 999999) [-selQ_sel,hokQ_of,h_6,h_7]
     obtain ⟨v23,h_8,H⟩ := HS.bnd H
     try simp -implicitDefEqProofs +decide (maxSteps := 999999) [-selQ_sel,hokQ_of,h_6,h_7,h_8]
     refine Hid.brV (fun h_9 => ?_) (fun h_9 => ?_)
     ·replace H := HS.cnd_t h_9 H
      try simp -implicitDefEqProofs +decide (maxSteps := 999999) [-selQ_sel,hokQ_of,h_6,h_7,h_8,h_9]
      have hr := (HS.some H).symm; subst hr
      exact Hid.mk ⟨spec_DropNode_l0_S a0 a1 ((IntKind.i64.wrap (x20 + 1)),x21),Wk.ofk [0,1,2,3] hk (by rfl) (by simp -implicitDefEqProofs [spec_DropNode_l0_S,h_6,h_7,h_8,h_9]) (by simp -implicitDefEqProofs [spec_DropNode_l0_S,h_6,h_7,h_8,h_9]),hR⟩
     ·replace H := HS.cnd_f h_9 H
      try simp -implicitDefEqProofs +decide (maxSteps := 999999) [-selQ_sel,hokQ_of,h_6,h_7,h_8,h_9]
      obtain ⟨⟨w25,w26,w27,w28,w29,w30,w31,w32,w33,w34,w35,w36,w37,w38⟩,h_10,H⟩ := HS.bnd H
      dsimp only at H
      try simp -implicitDefEqProofs +decide (maxSteps := 999999) [-selQ_sel,hokQ_of,h_6,h_7,h_8,h_9,h_10]
      obtain ⟨h_11,H⟩ := HS.chkP H
      try simp -implicitDefEqProofs +decide (maxSteps := 999999) [-selQ_sel,hokQ_of,h_6,h_7,h_8,h_9,h_10,h_11]
      have hr := (HS.some H).symm; subst hr
      exact Hid.mk ⟨spec_DropNode_l0_S a0 a1 ((IntKind.i64.wrap (x20 + 1)),(x21 ++ [(TNode.mk w25 w26 w27 w28 (TPath.mk w34 w35) w29 w30 w36 w31 w32 w33 (TPath.mk w37 w38))])),Wk.trans (Wk.abs (id := 3) (j := 4) (js := [5,6,7,8]) (by rfl) (by rfl) (by decide) (by simp -implicitDefEqProofs [spec_DropNode_l0_S,h_6,h_7,h_8,h_9,h_10,h_11]) (by rfl) (by simp -implicitDefEqProofs [spec_DropNode_l0_S,h_6,h_7,h_8,h_9,h_10,h_11]) (by simp -implicitDefEqProofs [spec_DropNode_l0_S,h_6,h_7,h_8,h_9,h_10,h_11])) (Wk.trans (Wk.abs (id := 3) (j := 5) (js := [6,7,8]) (by rfl) (by rfl) (by decide) (by simp -implicitDefEqProofs [spec_DropNode_l0_S,h_6,h_7,h_8,h_9,h_10,h_11]) (by rfl) (by simp -implicitDefEqProofs [spec_DropNode_l0_S,h_6,h_7,h_8,h_9,h_10,h_11]) (by simp -implicitDefEqProofs [spec_DropNode_l0_S,h_6,h_7,h_8,h_9,h_10,h_11])) (Wk.trans (Wk.abs (id := 3) (j := 6) (js := [7,8]) (by rfl) (by rfl) (by decide) (by simp -implicitDefEqProofs [spec_DropNode_l0_S,h_6,h_7,h_8,h_9,h_10,h_11]) (by rfl) (by simp -implicitDefEqProofs [spec_DropNode_l0_S,h_6,h_7,h_8,h_9,h_10,h_11]) (by simp -implicitDefEqProofs [spec_DropNode_l0_S,h_6,h_7,h_8,h_9,h_10,h_11])) (Wk.trans (Wk.abs (id := 3) (j := 7) (js := [8]) (by rfl) (by rfl) (by decide) (by simp -implicitDefEqProofs [spec_DropNode_l0_S,h_6,h_7,h_8,h_9,h_10,h_11]) (by rfl) (by simp -implicitDefEqProofs [spec_DropNode_l0_S,h_6,h_7,h_8,h_9,h_10,h_11]) (by simp -implicitDefEqProofs [spec_DropNode_l0_S,h_6,h_7,h_8,h_9,h_10,h_11])) (Wk.trans (Wk.abs (id := 3) (j := 8) (js := []) (by rfl) (by rfl) (by decide) (by simp -implicitDefEqProofs [spec_DropNode_l0_S,h_6,h_7,h_8,h_9,h_10,h_11]) (by rfl) (by simp -implicitDefEqProofs [spec_DropNode_l0_S,h_6,h_7,h_8,h_9,h_10,h_11]) (by simp -implicitDefEqProofs [spec_DropNode_l0_S,h_6,h_7,h_8,h_9,h_10,h_11])) (Wk.ofk [0,1,2,3] hk (by rfl) (by simp -implicitDefEqProofs [spec_DropNode_l0_S,h_6,h_7,h_8,h_9,h_10,h_11]) (by simp -implicitDefEqProofs [spec_DropNode_l0_S,h_6,h_7,h_8,h_9,h_10,h_11])))))),hR⟩
   ·revert H h_5; revert q; intro y39 h_5 H
    try dsimp only at H
    try simp -implicitDefEqProofs +decide (maxSteps := 999999) [-selQ_sel,hokQ_of,h_1,h_2,h_3,h_4,spec_DropNode_l0_X]
    have hr := (HS.some H).symm; subst hr
    refine Hid.mk ⟨⟨[(4,AV.optr 0 0 1),(5,AV.int .i64 0)],[(0,Ob.box [AV.osl 1 0 (List.length y39) (List.length y39)]),(1,Ob.nar 31 (List.map eNode y39) [0,0,0,0,0,0,0,0,0,1,2,0,0,1,0,0,0,0,0,0,0,0,0,0,0,0,0,0,0,1,2])],2⟩,Wk.ofk [0,2] hk (by rfl) (by simp -implicitDefEqProofs [h_1,h_2,h_3,h_4]) (by simp -implicitDefEqProofs [h_1,h_2,h_3,h_4]),?_⟩
    try simp -implicitDefEqProofs +decide (maxSteps := 999999) [-selQ_sel,hokQ_of,h_1,h_2,h_3,h_4]
  ·replace H := HS.cnd_f h_4 H
   try simp -implicitDefEqProofs +decide (maxSteps := 999999) [-selQ_sel,hokQ_of,h_1,h_2,h_3,h_4]
   obtain ⟨v40,h_12,H⟩ := HS.bnd H
   try simp -implicitDefEqProofs +decide (maxSteps := 999999) [-selQ_sel,hokQ_of,h_1,h_2,h_3,h_4,h_12]
   have hr := (HS.some H).symm; subst hr
   refine Hid.mk ⟨⟨[(4,AV.optr 0 0 1),(5,AV.int .i64 2)],[(0,Ob.box [AV.osl 1 0 (List.length v40) (List.length v40)]),(1,Ob.nar 31 (List.map eNode v40) [0,0,0,0,0,0,0,0,0,1,2,0,0,1,0,0,0,0,0,0,0,0,0,0,0,0,0,0,0,1,2])],2⟩,Wk.ofk [1,2] hk (by rfl) (by simp -implicitDefEqProofs [h_1,h_2,h_3,h_4,h_12]) (by simp -implicitDefEqProofs [h_1,h_2,h_3,h_4,h_12]),?_⟩
   try simp -implicitDefEqProofs +decide (maxSteps := 999999) [-selQ_sel,hokQ_of,h_1,h_2,h_3,h_4,h_12]
 ·replace H := HS.cnd_f h_2 H
  try simp -implicitDefEqProofs +decide (maxSteps := 999999) [-selQ_sel,hokQ_of,h_1,h_2]
  obtain ⟨v41,h_13,H⟩ := HS.bnd H
  try simp -implicitDefEqProofs +decide (maxSteps := 999999) [-selQ_sel,hokQ_of,h_1,h_2,h_13]
  have hr := (HS.some H).symm; subst hr
  refine Hid.mk ⟨⟨[(4,AV.optr 0 0 1),(5,AV.int .i64 1)],[(0,Ob.box [AV.osl 1 0 (List.length v41) (List.length v41)]),(1,Ob.nar 31 (List.map eNode v41) [0,0,0,0,0,0,0,0,0,1,2,0,0,1,0,0,0,0,0,0,0,0,0,0,0,0,0,0,0,1,2])],2⟩,Wk.ofk [1,2] hk (by rfl) (by simp -implicitDefEqProofs [h_1,h_2,h_13]) (by simp -implicitDefEqProofs [h_1,h_2,h_13]),?_⟩
  try simp -implicitDefEqProofs +decide (maxSteps := 999999) [-selQ_sel,hokQ_of,h_1,h_2,h_13]
theorem impl_SceneOk_ok0 (hm : Try.prog.follows .mixedOrders = true) (k_impl_NodeOk : Sound Try.prog 50 impl_NodeOk_x) (k_impl_NodeAt : Sound Try.prog 13 impl_NodeAt_x) (k_impl_Scene_isParent : Sound Try.prog 51 impl_Scene_isParent_x) (k_impl_DepthOf : Sound Try.prog 42 impl_DepthOf_x) (k_impl_inRange : Sound Try.prog 41 impl_inRange_x) : Sound Try.prog 14 impl_SceneOk_x := by
 refine xOf_sound fun q r h => ?_
 revert h; revert r; revert q; intro a0 r h
 refine fn_ok E0 hm Try.func14 rfl (by decide +kernel) (by rfl) fun Γ hn hk => ?_
 dsimp only [impl_SceneOk_e,impl_SceneOk_v]
 replace hn : Γ.n = 43 := hn
 replace hk : Γ.k = 0 := hk
 have H : HS (impl_SceneOk a0) r := h
 clear h; unfold impl_SceneOk at H
 try simp -implicitDefEqProofs at H
 refine Tr.of_vc (cl := tabC [(50,impl_NodeOk_x),(13,impl_NodeAt_x),(51,impl_Scene_isParent_x),(42,impl_DepthOf_x),(41,impl_inRange_x)]) (E := E0) [] (tab_cons k_impl_NodeOk (tab_cons k_impl_NodeAt (tab_cons k_impl_Scene_isParent (tab_cons k_impl_DepthOf (tab_cons k_impl_inRange tab_nil))))) hm (by rw [hn]; decide +kernel) ?_
 try simp -implicitDefEqProofs (maxSteps := 999999) [-selQ_sel]
 refine Hid.brV (fun h_1 => ?_) (fun h_1 => ?_)
 ·replace H := HS.cnd_t h_1 H
  try simp -implicitDefEqProofs (maxSteps := 999999) [-selQ_sel,h_1]
  obtain ⟨q,h_2,H⟩ := HS.bnd H
  refine Hid.mk (Tr.weak (s' := (impl_SceneOk_l0_S a0) 0) (Wk.ofk [0] hk (by rfl) (by simp -implicitDefEqProofs [impl_SceneOk_l0_S,h_1]) (by simp -implicitDefEqProofs [impl_SceneOk_l0_S,h_1])) ?_)
  refine wp_loop_of (S := (impl_SceneOk_l0_S a0)) (f := (impl_SceneOk_l0 a0)) (xt := (impl_SceneOk_l0_X a0)) ?_ ?_ h_2 ?_
  ·intro q; rcases q with ⟨⟩ | ⟨⟩ <;> simp [impl_SceneOk_l0_X]
  ·clear H h_2 q
   rintro x7 o R hf hR
   have H : HS (impl_SceneOk_l0 a0 x7) o := hf
   clear hf; unfold impl_SceneOk_l0 at H
   try simp -implicitDefEqProofs at H
   refine Tr.of_vc (cl := tabC [(50,impl_NodeOk_x),(13,impl_NodeAt_x),(51,impl_Scene_isParent_x),(42,impl_DepthOf_x),(41,impl_inRange_x)]) (E := E0) [] (tab_cons k_impl_NodeOk (tab_cons k_impl_NodeAt (tab_cons k_impl_Scene_isParent (tab_cons k_impl_DepthOf (tab_cons k_impl_inRange tab_nil))))) hm (by rw [hn]; decide +kernel) ?_
   try simp -implicitDefEqProofs (maxSteps := 999999) [-selQ_sel,impl_SceneOk_l0_S]
   refine Hid.brV (fun h_3 => ?_) (fun h_3 => ?_)
   ·replace H := HS.cnd_t h_3 H
    try simp -implicitDefEqProofs (maxSteps := 999999) [-selQ_sel,h_3]
    have hr := (HS.some H).symm; subst hr
    exact Hid.mk ⟨(impl_SceneOk_l0_X a0 (.inl ())).2,Wk.ofk [] hk (by rfl) (by simp -implicitDefEqProofs [impl_SceneOk_l0_X,h_3]) (by simp -implicitDefEqProofs [impl_SceneOk_l0_X,h_3]),hR⟩
   ·replace H := HS.cnd_f h_3 H
    try simp -implicitDefEqProofs (maxSteps := 999999) [-selQ_sel,h_3]
    obtain ⟨v8,h_4,H⟩ := HS.bnd H
    try simp -implicitDefEqProofs (maxSteps := 999999) [-selQ_sel,h_3,h_4]
    obtain ⟨v9,h_5,H⟩ := HS.bnd H
    try simp -implicitDefEqProofs (maxSteps := 999999) [-selQ_sel,h_3,h_4,h_5]
    refine Hid.selQ (fun h_6 => ?_) (fun h_6 => ?_)
    ·replace H := HS.cnd_t h_6 H
     try simp -implicitDefEqProofs (maxSteps := 999999) [-selQ_sel,h_3,h_4,h_5,h_6]
     obtain ⟨v10,h_7,H⟩ := HS.bnd H
     try simp -implicitDefEqProofs (maxSteps := 999999) [-selQ_sel,h_3,h_4,h_5,h_6,h_7]
     refine Hid.selQ (fun h_8 => ?_) (fun h_8 => ?_)
     ·replace H := HS.cnd_t h_8 H
      try simp -implicitDefEqProofs (maxSteps := 999999) [-selQ_sel,h_3,h_4,h_5,h_6,h_7,h_8]
      obtain ⟨v11,h_9,H⟩ := HS.bnd H
      try simp -implicitDefEqProofs (maxSteps := 999999) [-selQ_sel,h_3,h_4,h_5,h_6,h_7,h_8,h_9]
      refine Hid.selQ (fun h_10 => ?_) (fun h_10 => ?_)
      ·replace H := HS.cnd_t h_10 H
       try simp -implicitDefEqProofs (maxSteps := 999999) [-selQ_sel,h_3,h_4,h_5,h_6,h_7,h_8,h_9,h_10]
       obtain ⟨v12,h_11,H⟩ := HS.bnd H
       try simp -implicitDefEqProofs (maxSteps := 999999) [-selQ_sel,h_3,h_4,h_5,h_6,h_7,h_8,h_9,h_10,h_11]
       obtain ⟨v13,h_12,H⟩ := HS.bnd H
       try simp -implicitDefEqProofs (maxSteps := 999999) [-selQ_sel,h_3,h_4,h_5,h_6,h_7,h_8,h_9,h_10,h_11,h_12]
       refine Hid.brV (fun h_13 => ?_) (fun h_13 => ?_)
       ·replace H := HS.cnd_t h_13 H
        try simp -implicitDefEqProofs (maxSteps := 999999) [-selQ_sel,h_3,h_4,h_5,h_6,h_7,h_8,h_9,h_10,h_11,h_12,h_13]
        have hr := (HS.some H).symm; subst hr
        exact Hid.mk ⟨impl_SceneOk_l0_S a0 (IntKind.i64.wrap (x7 + 1)),Wk.ofk [0] hk (by rfl) (by simp -implicitDefEqProofs [impl_SceneOk_l0_S,h_3,h_4,h_5,h_6,h_7,h_8,h_9,h_10,h_11,h_12,h_13]) (by simp -implicitDefEqProofs [impl_SceneOk_l0_S,h_3,h_4,h_5,h_6,h_7,h_8,h_9,h_10,h_11,h_12,h_13]),hR⟩
       ·replace H := HS.cnd_f h_13 H
        try simp -implicitDefEqProofs (maxSteps := 999999) [-selQ_sel,h_3,h_4,h_5,h_6,h_7,h_8,h_9,h_10,h_11,h_12,h_13]
        have hr := (HS.some H).symm; subst hr
        exact Hid.mk ⟨(impl_SceneOk_l0_X a0 (.inr ())).2,Wk.ofk [] hk (by rfl) (by simp -implicitDefEqProofs [impl_SceneOk_l0_X,h_3,h_4,h_5,h_6,h_7,h_8,h_9,h_10,h_11,h_12,h_13]) (by simp -implicitDefEqProofs [impl_SceneOk_l0_X,h_3,h_4,h_5,h_6,h_7,h_8,h_9,h_10,h_11,h_12,h_13]),hR⟩
      ·replace H := HS.cnd_f h_10 H
       try simp -implicitDefEqProofs (maxSteps := 999999) [-selQ_sel,h_3,h_4,h_5,h_6,h_7,h_8,h_9,h_10]
       have hr := (HS.some H).symm; subst hr
       exact Hid.mk ⟨(impl_SceneOk_l0_X a0 (.inr ())).2,Wk.ofk [] hk (by rfl) (by simp -implicitDefEqProofs [impl_SceneOk_l0_X,h_3,h_4,h_5,h_6,h_7,h_8,h_9,h_10]) (by simp -implicitDefEqProofs [impl_SceneOk_l0_X,h_3,h_4,h_5,h_6,h_7,h_8,h_9,h_10]),hR⟩
     ·replace H := HS.cnd_f h_8 H
      try simp -implicitDefEqProofs (maxSteps := 999999) [-selQ_sel,h_3,h_4,h_5,h_6,h_7,h_8]
      have hr := (HS.some H).symm; subst hr
      exact Hid.mk ⟨(impl_SceneOk_l0_X a0 (.inr ())).2,Wk.ofk [] hk (by rfl) (by simp -implicitDefEqProofs [impl_SceneOk_l0_X,h_3,h_4,h_5,h_6,h_7,h_8]) (by simp -implicitDefEqProofs [impl_SceneOk_l0_X,h_3,h_4,h_5,h_6,h_7,h_8]),hR⟩
    ·replace H := HS.cnd_f h_6 H
     try simp -implicitDefEqProofs (maxSteps := 999999) [-selQ_sel,h_3,h_4,h_5,h_6]
     have hr := (HS.some H).symm; subst hr
     exact Hid.mk ⟨(impl_SceneOk_l0_X a0 (.inr ())).2,Wk.ofk [] hk (by rfl) (by simp -implicitDefEqProofs [impl_SceneOk_l0_X,h_3,h_4,h_5,h_6]) (by simp -implicitDefEqProofs [impl_SceneOk_l0_X,h_3,h_4,h_5,h_6]),hR⟩
  ·rcases q with ⟨⟩ | ⟨⟩
   ·dsimp only at H
    try simp -implicitDefEqProofs (maxSteps := 999999) [-selQ_sel,h_1,impl_SceneOk_l0_X]
    have hr := (HS.some H).symm; subst hr
    refine Hid.mk ⟨_,Wk.refl _,?_⟩
    try simp -implicitDefEqProofs (maxSteps := 999999) [-selQ_sel,h_1]
   ·dsimp only at H
    try simp -implicitDefEqProofs (maxSteps := 999999) [-selQ_sel,h_1,impl_SceneOk_l0_X]
    have hr := (HS.some H).symm; subst hr
    refine Hid.mk ⟨_,Wk.refl _,?_⟩
    try simp -implicitDefEqProofs (maxSteps := 999999) [-selQ_sel,h_1]
 ·replace H := HS.cnd_f h_1 H
  try simp -implicitDefEqProofs (maxSteps := 999999) [-selQ_sel,h_1]
  have hr := (HS.some H).symm; subst hr
  refine Hid.mk ⟨_,Wk.refl _,?_⟩
  try simp -implicitDefEqProofs (maxSteps := 999999) [-selQ_sel,h_1]
theorem impl_PaintOk_ok0 (hm : Try.prog.follows .mixedOrders = true) (k_impl_ColorOk : Sound Try.prog 122 impl_ColorOk_x) (k_impl_PointOk : Sound Try.prog 123 impl_PointOk_x) : Sound Try.prog 95 impl_PaintOk_x := by
 refine xOf_sound fun q r h => ?_
 revert h; revert r; revert q; intro a0 r h
 refine fn_ok E0 hm Try.func95 rfl (by decide +kernel) (by rfl) fun Γ hn hk => ?_
 dsimp only [impl_PaintOk_e,impl_PaintOk_v]
 replace hn : Γ.n = 44 := hn
 replace hk : Γ.k = 0 := hk
 have H : HS (impl_PaintOk a0) r := h
 clear h; unfold impl_PaintOk at H
 try simp -implicitDefEqProofs at H
 refine Tr.of_vc (cl := tabC [(122,impl_ColorOk_x),(123,impl_PointOk_x)]) (E := E0) [] (tab_cons k_impl_ColorOk (tab_cons k_impl_PointOk tab_nil)) hm (by rw [hn]; decide +kernel) ?_
 try simp -implicitDefEqProofs (maxSteps := 999999) [-selQ_sel]
 refine Hid.brV (fun h_1 => ?_) (fun h_1 => ?_)
 ·replace H := HS.cnd_t h_1 H
  try simp -implicitDefEqProofs (maxSteps := 999999) [-selQ_sel,h_1]
  obtain ⟨v1,h_2,H⟩ := HS.bnd H
  try simp -implicitDefEqProofs (maxSteps := 999999) [-selQ_sel,h_1,h_2]
  refine Hid.selQ (fun h_3 => ?_) (fun h_3 => ?_)
  ·replace H := HS.cnd_t h_3 H
   try simp -implicitDefEqProofs (maxSteps := 999999) [-selQ_sel,h_1,h_2,h_3]
   have hr := (HS.some H).symm; subst hr
   refine Hid.mk ⟨_,Wk.refl _,?_⟩
   try simp -implicitDefEqProofs (maxSteps := 999999) [-selQ_sel,h_1,h_2,h_3]
  ·replace H := HS.cnd_f h_3 H
   try simp -implicitDefEqProofs (maxSteps := 999999) [-selQ_sel,h_1,h_2,h_3]
   have hr := (HS.some H).symm; subst hr
   refine Hid.mk ⟨_,Wk.refl _,?_⟩
   try simp -implicitDefEqProofs (maxSteps := 999999) [-selQ_sel,h_1,h_2,h_3]
 ·replace H := HS.cnd_f h_1 H
  try simp -implicitDefEqProofs (maxSteps := 999999) [-selQ_sel,h_1]
  refine Hid.brV (fun h_4 => ?_) (fun h_4 => ?_)
  ·replace H := HS.cnd_t h_4 H
   try simp -implicitDefEqProofs (maxSteps := 999999) [-selQ_sel,h_1,h_4]
   obtain ⟨v2,h_5,H⟩ := HS.bnd H
   try simp -implicitDefEqProofs (maxSteps := 999999) [-selQ_sel,h_1,h_4,h_5]
   refine Hid.selQ (fun h_6 => ?_) (fun h_6 => ?_)
   ·replace H := HS.cnd_t h_6 H
    try simp -implicitDefEqProofs (maxSteps := 999999) [-selQ_sel,h_1,h_4,h_5,h_6]
    obtain ⟨v3,h_7,H⟩ := HS.bnd H
    try simp -implicitDefEqProofs (maxSteps := 999999) [-selQ_sel,h_1,h_4,h_5,h_6,h_7]
    refine Hid.selQ (fun h_8 => ?_) (fun h_8 => ?_)
    ·replace H := HS.cnd_t h_8 H
     try simp -implicitDefEqProofs (maxSteps := 999999) [-selQ_sel,h_1,h_4,h_5,h_6,h_7,h_8]
     obtain ⟨v4,h_9,H⟩ := HS.bnd H
     try simp -implicitDefEqProofs (maxSteps := 999999) [-selQ_sel,h_1,h_4,h_5,h_6,h_7,h_8,h_9]
     refine Hid.selQ (fun h_10 => ?_) (fun h_10 => ?_)
     ·replace H := HS.cnd_t h_10 H
      try simp -implicitDefEqProofs (maxSteps := 999999) [-selQ_sel,h_1,h_4,h_5,h_6,h_7,h_8,h_9,h_10]
      obtain ⟨v5,h_11,H⟩ := HS.bnd H
      try simp -implicitDefEqProofs (maxSteps := 999999) [-selQ_sel,h_1,h_4,h_5,h_6,h_7,h_8,h_9,h_10,h_11]
      refine Hid.selQ (fun h_12 => ?_) (fun h_12 => ?_)
      ·replace H := HS.cnd_t h_12 H
       try simp -implicitDefEqProofs (maxSteps := 999999) [-selQ_sel,h_1,h_4,h_5,h_6,h_7,h_8,h_9,h_10,h_11,h_12]
       have hr := (HS.some H).symm; subst hr
       refine Hid.mk ⟨_,Wk.refl _,?_⟩
       try simp -implicitDefEqProofs (maxSteps := 999999) [-selQ_sel,h_1,h_4,h_5,h_6,h_7,h_8,h_9,h_10,h_11,h_12]
      ·replace H := HS.cnd_f h_12 H
       try simp -implicitDefEqProofs (maxSteps := 999999) [-selQ_sel,h_1,h_4,h_5,h_6,h_7,h_8,h_9,h_10,h_11,h_12]
       have hr := (HS.some H).symm; subst hr
       refine Hid.mk ⟨_,Wk.refl _,?_⟩
       try simp -implicitDefEqProofs (maxSteps := 999999) [-selQ_sel,h_1,h_4,h_5,h_6,h_7,h_8,h_9,h_10,h_11,h_12]
     ·replace H := HS.cnd_f h_10 H
      try simp -implicitDefEqProofs (maxSteps := 999999) [-selQ_sel,h_1,h_4,h_5,h_6,h_7,h_8,h_9,h_10]
      have hr := (HS.some H).symm; subst hr
      refine Hid.mk ⟨_,Wk.refl _,?_⟩
      try simp -implicitDefEqProofs (maxSteps := 999999) [-selQ_sel,h_1,h_4,h_5,h_6,h_7,h_8,h_9,h_10]
    ·replace H := HS.cnd_f h_8 H
     try simp -implicitDefEqProofs (maxSteps := 999999) [-selQ_sel,h_1,h_4,h_5,h_6,h_7,h_8]
     have hr := (HS.some H).symm; subst hr
     refine Hid.mk ⟨_,Wk.refl _,?_⟩
     try simp -implicitDefEqProofs (maxSteps := 999999) [-selQ_sel,h_1,h_4,h_5,h_6,h_7,h_8]
   ·replace H := HS.cnd_f h_6 H
    try simp -implicitDefEqProofs (maxSteps := 999999) [-selQ_sel,h_1,h_4,h_5,h_6]
    have hr := (HS.some H).symm; subst hr
    refine Hid.mk ⟨_,Wk.refl _,?_⟩
    try simp -implicitDefEqProofs (maxSteps := 999999) [-selQ_sel,h_1,h_4,h_5,h_6]
  ·replace H := HS.cnd_f h_4 H
   try simp -implicitDefEqProofs (maxSteps := 999999) [-selQ_sel,h_1,h_4]
   have hr := (HS.some H).symm; subst hr
   refine Hid.mk ⟨_,Wk.refl _,?_⟩
   try simp -implicitDefEqProofs (maxSteps := 999999) [-selQ_sel,h_1,h_4]
theorem spec_l15Copy_ok0 (hm : Try.prog.follows .mixedOrders = true) (k_spec_l15CopyNode : Sound Try.prog 47 spec_l15CopyNode_x) : Sound Try.prog 43 spec_l15Copy_x := by
 refine xOf_sound fun q r h => ?_
 revert h; revert r; revert q; intro a0 r h
 refine fn_ok E0 hm Try.func43 rfl (by decide +kernel) (by rfl) fun Γ hn hk => ?_
 dsimp only [spec_l15Copy_e,spec_l15Copy_v]
 replace hn : Γ.n = 25 := hn
 replace hk : Γ.k = 0 := hk
 have H : HS (spec_l15Copy a0) r := h
 clear h; unfold spec_l15Copy at H
 try simp -implicitDefEqProofs at H
 refine Tr.of_vc (cl := tabC [(47,spec_l15CopyNode_x)]) (E := E0) [] (tab_cons k_spec_l15CopyNode tab_nil) hm (by rw [hn]; decide +kernel) ?_
 try simp -implicitDefEqProofs +decide (maxSteps := 999999) [-selQ_sel,hokQ_of]
 obtain ⟨q,h_1,H⟩ := HS.bnd H
 refine Hid.mk (Tr.weak (s' := (spec_l15Copy_l0_S a0) (0,[])) (Wk.ofk [0,1,2,3] hk (by rfl) (by simp -implicitDefEqProofs [spec_l15Copy_l0_S]) (by simp -implicitDefEqProofs [spec_l15Copy_l0_S])) ?_)
 refine wp_loop_of (S := (spec_l15Copy_l0_S a0)) (f := (spec_l15Copy_l0 a0)) (xt := (spec_l15Copy_l0_X a0)) ?_ ?_ h_1 ?_
 ·intro q; simp [spec_l15Copy_l0_X]
 ·clear H h_1 q
  rintro ⟨x17,x18⟩ o R hf hR
  have H : HS (spec_l15Copy_l0 a0 (x17,x18)) o := hf
  clear hf; unfold spec_l15Copy_l0 at H
  try simp -implicitDefEqProofs at H
  refine Tr.of_vc (cl := tabC [(47,spec_l15CopyNode_x)]) (E := E0) [] (tab_cons k_spec_l15CopyNode tab_nil) hm (by rw [hn]; decide +kernel) ?_
  try simp -implicitDefEqProofs +decide (maxSteps := 999999) [-selQ_sel,hokQ_of,spec_l15Copy_l0_S]
  refine Hid.brV (fun h_2 => ?_) (fun h_2 => ?_)
  ·replace H := HS.cnd_t h_2 H
   try simp -implicitDefEqProofs +decide (maxSteps := 999999) [-selQ_sel,hokQ_of,h_2]
   have hr := (HS.some H).symm; subst hr
   exact Hid.mk ⟨(spec_l15Copy_l0_X a0 x18).2,Wk.ofk [1,2,3] hk (by rfl) (by simp -implicitDefEqProofs [spec_l15Copy_l0_X,h_2]) (by simp -implicitDefEqProofs [spec_l15Copy_l0_X,h_2]),hR⟩
  ·replace H := HS.cnd_f h_2 H
   try simp -implicitDefEqProofs +decide (maxSteps := 999999) [-selQ_sel,hokQ_of,h_2]
   obtain ⟨v19,h_3,H⟩ := HS.bnd H
   try simp -implicitDefEqProofs +decide (maxSteps := 999999) [-selQ_sel,hokQ_of,h_2,h_3]
   obtain ⟨⟨w21,w22,w23,w24,w25,w26,w27,w28,w29,w30,w31,w32,w33,w34⟩,h_4,H⟩ := HS.bnd H
   dsimp only at H
   try simp -implicitDefEqProofs +decide (maxSteps := 999999) [-selQ_sel,hokQ_of,h_2,h_3,h_4]
   obtain ⟨h_5,H⟩ := HS.chkP H
   try simp -implicitDefEqProofs +decide (maxSteps := 999999) [-selQ_sel,hokQ_of,h_2,h_3,h_4,h_5]
   have hr := (HS.some H).symm; subst hr
   exact Hid.mk ⟨spec_l15Copy_l0_S a0 ((IntKind.i64.wrap (x17 + 1)),(x18 ++ [(TNode.mk w21 w22 w23 w24 (TPath.mk w30 w31) w25 w26 w32 w27 w28 w29 (TPath.mk w33 w34))])),Wk.trans (Wk.abs (id := 3) (j := 4) (js := [5,6,7,8]) (by rfl) (by rfl) (by decide) (by simp -implicitDefEqProofs [spec_l15Copy_l0_S,h_2,h_3,h_4,h_5]) (by rfl) (by simp -implicitDefEqProofs [spec_l15Copy_l0_S,h_2,h_3,h_4,h_5]) (by simp -implicitDefEqProofs [spec_l15Copy_l0_S,h_2,h_3,h_4,h_5])) (Wk.trans (Wk.abs (id := 3) (j := 5) (js := [6,7,8]) (by rfl) (by rfl) (by decide) (by simp -implicitDefEqProofs [spec_l15Copy_l0_S,h_2,h_3,h_4,h_5]) (by rfl) (by simp -implicitDefEqProofs [spec_l15Copy_l0_S,h_2,h_3,h_4,h_5]) (by simp -implicitDefEqProofs [spec_l15Copy_l0_S,h_2,h_3,h_4,h_5])) (Wk.trans (Wk.abs (id := 3) (j := 6) (js := [7,8]) (by rfl) (by rfl) (by decide) (by simp -implicitDefEqProofs [spec_l15Copy_l0_S,h_2,h_3,h_4,h_5]) (by rfl) (by simp -implicitDefEqProofs [spec_l15Copy_l0_S,h_2,h_3,h_4,h_5]) (by simp -implicitDefEqProofs [spec_l15Copy_l0_S,h_2,h_3,h_4,h_5])) (Wk.trans (Wk.abs (id := 3) (j := 7) (js := [8]) (by rfl) (by rfl) (by decide) (by simp -implicitDefEqProofs [spec_l15Copy_l0_S,h_2,h_3,h_4,h_5]) (by rfl) (by simp -implicitDefEqProofs [spec_l15Copy_l0_S,h_2,h_3,h_4,h_5]) (by simp -implicitDefEqProofs [spec_l15Copy_l0_S,h_2,h_3,h_4,h_5])) (Wk.trans (Wk.abs (id := 3) (j := 8) (js := []) (by rfl) (by rfl) (by decide) (by simp -implicitDefEqProofs [spec_l15Copy_l0_S,h_2,h_3,h_4,h_5]) (by rfl) (by simp -implicitDefEqProofs [spec_l15Copy_l0_S,h_2,h_3,h_4,h_5]) (by simp -implicitDefEqProofs [spec_l15Copy_l0_S,h_2,h_3,h_4,h_5])) (Wk.ofk [0,1,2,3] hk (by rfl) (by simp -implicitDefEqProofs [spec_l15Copy_l0_S,h_2,h_3,h_4,h_5]) (by simp -implicitDefEqProofs [spec_l15Copy_l0_S,h_2,h_3,h_4,h_5])))))),hR⟩
 ·revert H h_1; revert q; intro y35 h_1 H
  try dsimp only at H
  try simp -implicitDefEqProofs +decide (maxSteps := 999999) [-selQ_sel,hokQ_of,spec_l15Copy_l0_X]
  have hr := (HS.some H).symm; subst hr
  refine Hid.mk ⟨⟨[(2,AV.optr 0 0 1)],[(0,Ob.box [AV.osl 1 0 (List.length y35) (List.length y35)]),(1,Ob.nar 31 (List.map eNode y35) [0,0,0,0,0,0,0,0,0,1,2,0,0,1,0,0,0,0,0,0,0,0,0,0,0,0,0,0,0,1,2])],2⟩,Wk.ofk [0,2] hk (by rfl) (by simp -implicitDefEqProofs []) (by simp -implicitDefEqProofs []),?_⟩
  try simp -implicitDefEqProofs +decide (maxSteps := 999999) [-selQ_sel,hokQ_of]
theorem laws_eqPointS_ok0 (hm : Try.prog.follows .mixedOrders = true) (k_laws_eqPoint : Sound Try.prog 111 laws_eqPoint_x) : Sound Try.prog 109 laws_eqPointS_x := by
 refine xOf_sound fun q r h => ?_
 obtain ⟨a0,a1⟩ := q
 refine fn_ok E0 hm Try.func109 rfl (by decide +kernel) (by rfl) fun Γ hn hk => ?_
 dsimp only [laws_eqPointS_e,laws_eqPointS_v]
 replace hn : Γ.n = 27 := hn
 replace hk : Γ.k = 0 := hk
 have H : HS (laws_eqPointS a0 a1) r := h
 clear h; unfold laws_eqPointS at H
 try simp -implicitDefEqProofs at H
 refine Tr.of_vc (cl := tabC [(111,laws_eqPoint_x)]) (E := E0) [] (tab_cons k_laws_eqPoint tab_nil) hm (by rw [hn]; decide +kernel) ?_
 try simp -implicitDefEqProofs +decide (maxSteps := 999999) [-selQ_sel,hokQ_of]
 refine Hid.brV (fun h_1 => ?_) (fun h_1 => ?_)
 ·replace H := HS.cnd_t h_1 H
  try simp -implicitDefEqProofs +decide (maxSteps := 999999) [-selQ_sel,hokQ_of,h_1]
  obtain ⟨q,h_2,H⟩ := HS.bnd H
  refine Hid.mk (Tr.weak (s' := (laws_eqPointS_l0_S a0 a1) 0) (Wk.ofk [] hk (by rfl) (by simp -implicitDefEqProofs [laws_eqPointS_l0_S,h_1]) (by simp -implicitDefEqProofs [laws_eqPointS_l0_S,h_1])) ?_)
  refine wp_loop_of (S := (laws_eqPointS_l0_S a0 a1)) (f := (laws_eqPointS_l0 a0 a1)) (xt := (laws_eqPointS_l0_X a0 a1)) ?_ ?_ h_2 ?_
  ·intro q; rcases q with ⟨⟩ | ⟨⟩ <;> simp [laws_eqPointS_l0_X]
  ·clear H h_2 q
   rintro x4 o R hf hR
   have H : HS (laws_eqPointS_l0 a0 a1 x4) o := hf
   clear hf; unfold laws_eqPointS_l0 at H
   try simp -implicitDefEqProofs at H
   refine Tr.of_vc (cl := tabC [(111,laws_eqPoint_x)]) (E := E0) [] (tab_cons k_laws_eqPoint tab_nil) hm (by rw [hn]; decide +kernel) ?_
   try simp -implicitDefEqProofs +decide (maxSteps := 999999) [-selQ_sel,hokQ_of,laws_eqPointS_l0_S]
   refine Hid.brV (fun h_3 => ?_) (fun h_3 => ?_)
   ·replace H := HS.cnd_t h_3 H
    try simp -implicitDefEqProofs +decide (maxSteps := 999999) [-selQ_sel,hokQ_of,h_3]
    have hr := (HS.some H).symm; subst hr
    exact Hid.mk ⟨(laws_eqPointS_l0_X a0 a1 (.inl ())).2,Wk.ofk [] hk (by rfl) (by simp -implicitDefEqProofs [laws_eqPointS_l0_X,h_3]) (by simp -implicitDefEqProofs [laws_eqPointS_l0_X,h_3]),hR⟩
   ·replace H := HS.cnd_f h_3 H
    try simp -implicitDefEqProofs +decide (maxSteps := 999999) [-selQ_sel,hokQ_of,h_3]
    obtain ⟨v5,h_4,H⟩ := HS.bnd H
    try simp -implicitDefEqProofs +decide (maxSteps := 999999) [-selQ_sel,hokQ_of,h_3,h_4]
    obtain ⟨v6,h_5,H⟩ := HS.bnd H
    try simp -implicitDefEqProofs +decide (maxSteps := 999999) [-selQ_sel,hokQ_of,h_3,h_4,h_5]
    obtain ⟨v7,h_6,H⟩ := HS.bnd H
    try simp -implicitDefEqProofs +decide (maxSteps := 999999) [-selQ_sel,hokQ_of,h_3,h_4,h_5,h_6]
    refine Hid.brV (fun h_7 => ?_) (fun h_7 => ?_)
    ·replace H := HS.cnd_t h_7 H
     try simp -implicitDefEqProofs +decide (maxSteps := 999999) [-selQ_sel,hokQ_of,h_3,h_4,h_5,h_6,h_7]
     have hr := (HS.some H).symm; subst hr
     exact Hid.mk ⟨laws_eqPointS_l0_S a0 a1 (IntKind.i64.wrap (x4 + 1)),Wk.ofk [] hk (by rfl) (by simp -implicitDefEqProofs [laws_eqPointS_l0_S,h_3,h_4,h_5,h_6,h_7]) (by simp -implicitDefEqProofs [laws_eqPointS_l0_S,h_3,h_4,h_5,h_6,h_7]),hR⟩
    ·replace H := HS.cnd_f h_7 H
     try simp -implicitDefEqProofs +decide (maxSteps := 999999) [-selQ_sel,hokQ_of,h_3,h_4,h_5,h_6,h_7]
     have hr := (HS.some H).symm; subst hr
     exact Hid.mk ⟨(laws_eqPointS_l0_X a0 a1 (.inr ())).2,Wk.ofk [] hk (by rfl) (by simp -implicitDefEqProofs [laws_eqPointS_l0_X,h_3,h_4,h_5,h_6,h_7]) (by simp -implicitDefEqProofs [laws_eqPointS_l0_X,h_3,h_4,h_5,h_6,h_7]),hR⟩
  ·rcases q with ⟨⟩ | ⟨⟩
   ·dsimp only at H
    try simp -implicitDefEqProofs +decide (maxSteps := 999999) [-selQ_sel,hokQ_of,h_1,laws_eqPointS_l0_X]
    have hr := (HS.some H).symm; subst hr
    refine Hid.mk ⟨_,Wk.refl _,?_⟩
    try simp -implicitDefEqProofs +decide (maxSteps := 999999) [-selQ_sel,hokQ_of,h_1]
   ·dsimp only at H
    try simp -implicitDefEqProofs +decide (maxSteps := 999999) [-selQ_sel,hokQ_of,h_1,laws_eqPointS_l0_X]
    have hr := (HS.some H).symm; subst hr
    refine Hid.mk ⟨_,Wk.refl _,?_⟩
    try simp -implicitDefEqProofs +decide (maxSteps := 999999) [-selQ_sel,hokQ_of,h_1]
 ·replace H := HS.cnd_f h_1 H
  try simp -implicitDefEqProofs +decide (maxSteps := 999999) [-selQ_sel,hokQ_of,h_1]
  have hr := (HS.some H).symm; subst hr
  refine Hid.mk ⟨_,Wk.refl _,?_⟩
  try simp -implicitDefEqProofs +decide (maxSteps := 999999) [-selQ_sel,hokQ_of,h_1]
theorem spec_MatOk_ok0 (hm : Try.prog.follows .mixedOrders = true) (k_spec_l01In : Sound Try.prog 87 spec_l01In_x) : Sound Try.prog 98 spec_MatOk_x := by
 refine xOf_sound fun q r h => ?_
 revert h; revert r; revert q; intro a0 r h
 refine fn_ok E0 hm Try.func98 rfl (by decide +kernel) (by rfl) fun Γ hn hk => ?_
 dsimp only [spec_MatOk_e,spec_MatOk_v]
 replace hn : Γ.n = 44 := hn
 replace hk : Γ.k = 0 := hk
 have H : HS (spec_MatOk a0) r := h
 clear h; unfold spec_MatOk at H
 try simp -implicitDefEqProofs at H
 refine Tr.of_vc (cl := tabC [(87,spec_l01In_x)]) (E := E0) [] (tab_cons k_spec_l01In tab_nil) hm (by rw [hn]; decide +kernel) ?_
 try simp -implicitDefEqProofs (maxSteps := 999999) [-selQ_sel]
 obtain ⟨v1,h_1,H⟩ := HS.bnd H
 try simp -implicitDefEqProofs (maxSteps := 999999) [-selQ_sel,h_1]
 refine Hid.selQ (fun h_2 => ?_) (fun h_2 => ?_)
 ·replace H := HS.cnd_t h_2 H
  try simp -implicitDefEqProofs (maxSteps := 999999) [-selQ_sel,h_1,h_2]
  obtain ⟨v2,h_3,H⟩ := HS.bnd H
  try simp -implicitDefEqProofs (maxSteps := 999999) [-selQ_sel,h_1,h_2,h_3]
  refine Hid.selQ (fun h_4 => ?_) (fun h_4 => ?_)
  ·replace H := HS.cnd_t h_4 H
   try simp -implicitDefEqProofs (maxSteps := 999999) [-selQ_sel,h_1,h_2,h_3,h_4]
   obtain ⟨v3,h_5,H⟩ := HS.bnd H
   try simp -implicitDefEqProofs (maxSteps := 999999) [-selQ_sel,h_1,h_2,h_3,h_4,h_5]
   refine Hid.selQ (fun h_6 => ?_) (fun h_6 => ?_)
   ·replace H := HS.cnd_t h_6 H
    try simp -implicitDefEqProofs (maxSteps := 999999) [-selQ_sel,h_1,h_2,h_3,h_4,h_5,h_6]
    obtain ⟨v4,h_7,H⟩ := HS.bnd H
    try simp -implicitDefEqProofs (maxSteps := 999999) [-selQ_sel,h_1,h_2,h_3,h_4,h_5,h_6,h_7]
    refine Hid.selQ (fun h_8 => ?_) (fun h_8 => ?_)
    ·replace H := HS.cnd_t h_8 H
     try simp -implicitDefEqProofs (maxSteps := 999999) [-selQ_sel,h_1,h_2,h_3,h_4,h_5,h_6,h_7,h_8]
     obtain ⟨v5,h_9,H⟩ := HS.bnd H
     try simp -implicitDefEqProofs (maxSteps := 999999) [-selQ_sel,h_1,h_2,h_3,h_4,h_5,h_6,h_7,h_8,h_9]
     refine Hid.selQ (fun h_10 => ?_) (fun h_10 => ?_)
     ·replace H := HS.cnd_t h_10 H
      try simp -implicitDefEqProofs (maxSteps := 999999) [-selQ_sel,h_1,h_2,h_3,h_4,h_5,h_6,h_7,h_8,h_9,h_10]
      obtain ⟨v6,h_11,H⟩ := HS.bnd H
      try simp -implicitDefEqProofs (maxSteps := 999999) [-selQ_sel,h_1,h_2,h_3,h_4,h_5,h_6,h_7,h_8,h_9,h_10,h_11]
      have hr := (HS.some H).symm; subst hr
      refine Hid.mk ⟨_,Wk.refl _,?_⟩
      try simp -implicitDefEqProofs (maxSteps := 999999) [-selQ_sel,h_1,h_2,h_3,h_4,h_5,h_6,h_7,h_8,h_9,h_10,h_11]
     ·replace H := HS.cnd_f h_10 H
      try simp -implicitDefEqProofs (maxSteps := 999999) [-selQ_sel,h_1,h_2,h_3,h_4,h_5,h_6,h_7,h_8,h_9,h_10]
      have hr := (HS.some H).symm; subst hr
      refine Hid.mk ⟨_,Wk.refl _,?_⟩
      try simp -implicitDefEqProofs (maxSteps := 999999) [-selQ_sel,h_1,h_2,h_3,h_4,h_5,h_6,h_7,h_8,h_9,h_10]
    ·replace H := HS.cnd_f h_8 H
     try simp -implicitDefEqProofs (maxSteps := 999999) [-selQ_sel,h_1,h_2,h_3,h_4,h_5,h_6,h_7,h_8]
     have hr := (HS.some H).symm; subst hr
     refine Hid.mk ⟨_,Wk.refl _,?_⟩
     try simp -implicitDefEqProofs (maxSteps := 999999) [-selQ_sel,h_1,h_2,h_3,h_4,h_5,h_6,h_7,h_8]
   ·replace H := HS.cnd_f h_6 H
    try simp -implicitDefEqProofs (maxSteps := 999999) [-selQ_sel,h_1,h_2,h_3,h_4,h_5,h_6]
    have hr := (HS.some H).symm; subst hr
    refine Hid.mk ⟨_,Wk.refl _,?_⟩
    try simp -implicitDefEqProofs (maxSteps := 999999) [-selQ_sel,h_1,h_2,h_3,h_4,h_5,h_6]
  ·replace H := HS.cnd_f h_4 H
   try simp -implicitDefEqProofs (maxSteps := 999999) [-selQ_sel,h_1,h_2,h_3,h_4]
   have hr := (HS.some H).symm; subst hr
   refine Hid.mk ⟨_,Wk.refl _,?_⟩
   try simp -implicitDefEqProofs (maxSteps := 999999) [-selQ_sel,h_1,h_2,h_3,h_4]
 ·replace H := HS.cnd_f h_2 H
  try simp -implicitDefEqProofs (maxSteps := 999999) [-selQ_sel,h_1,h_2]
  have hr := (HS.some H).symm; subst hr
  refine Hid.mk ⟨_,Wk.refl _,?_⟩
  try simp -implicitDefEqProofs (maxSteps := 999999) [-selQ_sel,h_1,h_2]
theorem slices_IndexFunc_Node_DropNode_1R_ok0 (hm : Try.prog.follows .mixedOrders = true) (k_impl_DropNode_1R : Sound Try.prog 77 impl_DropNode_1R_x) : Sound Try.prog 48 slices_IndexFunc_Node_DropNode_1R_x := by
 refine xOf_sound fun q r h => ?_
 obtain ⟨a0,a1⟩ := q
 refine fn_ok E0 hm Try.func48 rfl (by decide +kernel) (by rfl) fun Γ hn hk => ?_
 dsimp only [slices_IndexFunc_Node_DropNode_1R_e,slices_IndexFunc_Node_DropNode_1R_v]
 replace hn : Γ.n = 19 := hn
 replace hk : Γ.k = 0 := hk
 have H : HS (slices_IndexFunc_Node_DropNode_1R a0 a1) r := h
 clear h; unfold slices_IndexFunc_Node_DropNode_1R at H
 try simp -implicitDefEqProofs at H
 refine Tr.of_vc (cl := tabC [(77,impl_DropNode_1R_x)]) (E := E0) [] (tab_cons k_impl_DropNode_1R tab_nil) hm (by rw [hn]; decide +kernel) ?_
 try simp -implicitDefEqProofs (maxSteps := 999999) [-selQ_sel]
 obtain ⟨q,h_1,H⟩ := HS.bnd H
 refine Hid.mk (Tr.weak (s' := (slices_IndexFunc_Node_DropNode_1R_l0_S a0 a1) 0) (Wk.ofk [] hk (by rfl) (by simp -implicitDefEqProofs [slices_IndexFunc_Node_DropNode_1R_l0_S]) (by simp -implicitDefEqProofs [slices_IndexFunc_Node_DropNode_1R_l0_S])) ?_)
 refine wp_loop_of (S := (slices_IndexFunc_Node_DropNode_1R_l0_S a0 a1)) (f := (slices_IndexFunc_Node_DropNode_1R_l0 a0 a1)) (xt := (slices_IndexFunc_Node_DropNode_1R_l0_X a0 a1)) ?_ ?_ h_1 ?_
 ·intro q; rcases q with ⟨⟩ | y6 <;> simp [slices_IndexFunc_Node_DropNode_1R_l0_X]
 ·clear H h_1 q
  rintro x3 o R hf hR
  have H : HS (slices_IndexFunc_Node_DropNode_1R_l0 a0 a1 x3) o := hf
  clear hf; unfold slices_IndexFunc_Node_DropNode_1R_l0 at H
  try simp -implicitDefEqProofs at H
  refine Tr.of_vc (cl := tabC [(77,impl_DropNode_1R_x)]) (E := E0) [] (tab_cons k_impl_DropNode_1R tab_nil) hm (by rw [hn]; decide +kernel) ?_
  try simp -implicitDefEqProofs (maxSteps := 999999) [-selQ_sel,slices_IndexFunc_Node_DropNode_1R_l0_S]
  refine Hid.brV (fun h_2 => ?_) (fun h_2 => ?_)
  ·replace H := HS.cnd_t h_2 H
   try simp -implicitDefEqProofs (maxSteps := 999999) [-selQ_sel,h_2]
   have hr := (HS.some H).symm; subst hr
   exact Hid.mk ⟨(slices_IndexFunc_Node_DropNode_1R_l0_X a0 a1 (.inl ())).2,Wk.ofk [] hk (by rfl) (by simp -implicitDefEqProofs [slices_IndexFunc_Node_DropNode_1R_l0_X,h_2]) (by simp -implicitDefEqProofs [slices_IndexFunc_Node_DropNode_1R_l0_X,h_2]),hR⟩
  ·replace H := HS.cnd_f h_2 H
   try simp -implicitDefEqProofs (maxSteps := 999999) [-selQ_sel,h_2]
   obtain ⟨v4,h_3,H⟩ := HS.bnd H
   try simp -implicitDefEqProofs (maxSteps := 999999) [-selQ_sel,h_2,h_3]
   obtain ⟨v5,h_4,H⟩ := HS.bnd H
   try simp -implicitDefEqProofs (maxSteps := 999999) [-selQ_sel,h_2,h_3,h_4]
   refine Hid.brV (fun h_5 => ?_) (fun h_5 => ?_)
   ·replace H := HS.cnd_t h_5 H
    try simp -implicitDefEqProofs (maxSteps := 999999) [-selQ_sel,h_2,h_3,h_4,h_5]
    have hr := (HS.some H).symm; subst hr
    exact Hid.mk ⟨(slices_IndexFunc_Node_DropNode_1R_l0_X a0 a1 (.inr x3)).2,Wk.ofk [] hk (by rfl) (by simp -implicitDefEqProofs [slices_IndexFunc_Node_DropNode_1R_l0_X,h_2,h_3,h_4,h_5]) (by simp -implicitDefEqProofs [slices_IndexFunc_Node_DropNode_1R_l0_X,h_2,h_3,h_4,h_5]),hR⟩
   ·replace H := HS.cnd_f h_5 H
    try simp -implicitDefEqProofs (maxSteps := 999999) [-selQ_sel,h_2,h_3,h_4,h_5]
    have hr := (HS.some H).symm; subst hr
    exact Hid.mk ⟨slices_IndexFunc_Node_DropNode_1R_l0_S a0 a1 (IntKind.i64.wrap (x3 + 1)),Wk.ofk [] hk (by rfl) (by simp -implicitDefEqProofs [slices_IndexFunc_Node_DropNode_1R_l0_S,h_2,h_3,h_4,h_5]) (by simp -implicitDefEqProofs [slices_IndexFunc_Node_DropNode_1R_l0_S,h_2,h_3,h_4,h_5]),hR⟩
 ·rcases q with ⟨⟩ | y6
  ·dsimp only at H
   try simp -implicitDefEqProofs (maxSteps := 999999) [-selQ_sel,slices_IndexFunc_Node_DropNode_1R_l0_X]
   have hr := (HS.some H).symm; subst hr
   refine Hid.mk ⟨_,Wk.refl _,?_⟩
   try simp -implicitDefEqProofs (maxSteps := 999999) [-selQ_sel]
  ·dsimp only at H
   try simp -implicitDefEqProofs (maxSteps := 999999) [-selQ_sel,slices_IndexFunc_Node_DropNode_1R_l0_X]
   have hr := (HS.some H).symm; subst hr
   refine Hid.mk ⟨_,Wk.refl _,?_⟩
   try simp -implicitDefEqProofs (maxSteps := 999999) [-selQ_sel]
theorem impl_Scene_comesTo_ok0 (hm : Try.prog.follows .mixedOrders = true) (k_impl_NodeAt : Sound Try.prog 13 impl_NodeAt_x) : Sound Try.prog 84 impl_Scene_comesTo_x := by
 refine xOf_sound fun q r h => ?_
 obtain ⟨a0,a1,a2⟩ := q
 refine fn_ok E0 hm Try.func84 rfl (by decide +kernel) (by rfl) fun Γ hn hk => ?_
 dsimp only [impl_Scene_comesTo_e,impl_Scene_comesTo_v]
 replace hn : Γ.n = 34 := hn
 replace hk : Γ.k = 0 := hk
 have H : HS (impl_Scene_comesTo a0 a1 a2) r := h
 clear h; unfold impl_Scene_comesTo at H
 try simp -implicitDefEqProofs at H
 refine Tr.of_vc (cl := tabC [(13,impl_NodeAt_x)]) (E := E0) [] (tab_cons k_impl_NodeAt tab_nil) hm (by rw [hn]; decide +kernel) ?_
 try simp -implicitDefEqProofs (maxSteps := 999999) [-selQ_sel]
 obtain ⟨q,h_1,H⟩ := HS.bnd H
 refine Hid.mk (Tr.weak (s' := (impl_Scene_comesTo_l0_S a0 a2) (a1,0)) (Wk.ofk [] hk (by rfl) (by simp -implicitDefEqProofs [impl_Scene_comesTo_l0_S]) (by simp -implicitDefEqProofs [impl_Scene_comesTo_l0_S])) ?_)
 refine wp_loop_of (S := (impl_Scene_comesTo_l0_S a0 a2)) (f := (impl_Scene_comesTo_l0 a0 a2)) (xt := (impl_Scene_comesTo_l0_X a0 a2)) ?_ ?_ h_1 ?_
 ·intro q; simp [impl_Scene_comesTo_l0_X]
 ·clear H h_1 q
  rintro ⟨x3,x4⟩ o R hf hR
  have H : HS (impl_Scene_comesTo_l0 a0 a2 (x3,x4)) o := hf
  clear hf; unfold impl_Scene_comesTo_l0 at H
  try simp -implicitDefEqProofs at H
  refine Tr.of_vc (cl := tabC [(13,impl_NodeAt_x)]) (E := E0) [] (tab_cons k_impl_NodeAt tab_nil) hm (by rw [hn]; decide +kernel) ?_
  try simp -implicitDefEqProofs (maxSteps := 999999) [-selQ_sel,impl_Scene_comesTo_l0_S]
  refine Hid.brV (fun h_2 => ?_) (fun h_2 => ?_)
  ·replace H := HS.cnd_t h_2 H
   try simp -implicitDefEqProofs (maxSteps := 999999) [-selQ_sel,h_2]
   have hr := (HS.some H).symm; subst hr
   exact Hid.mk ⟨(impl_Scene_comesTo_l0_X a0 a2 x3).2,Wk.ofk [] hk (by rfl) (by simp -implicitDefEqProofs [impl_Scene_comesTo_l0_X,h_2]) (by simp -implicitDefEqProofs [impl_Scene_comesTo_l0_X,h_2]),hR⟩
  ·replace H := HS.cnd_f h_2 H
   try simp -implicitDefEqProofs (maxSteps := 999999) [-selQ_sel,h_2]
   obtain ⟨v5,h_3,H⟩ := HS.bnd H
   try simp -implicitDefEqProofs (maxSteps := 999999) [-selQ_sel,h_2,h_3]
   refine Hid.selQ (fun h_4 => ?_) (fun h_4 => ?_)
   ·replace H := HS.cnd_t h_4 H
    try simp -implicitDefEqProofs (maxSteps := 999999) [-selQ_sel,h_2,h_3,h_4]
    have hr := (HS.some H).symm; subst hr
    exact Hid.mk ⟨(impl_Scene_comesTo_l0_X a0 a2 x3).2,Wk.ofk [] hk (by rfl) (by simp -implicitDefEqProofs [impl_Scene_comesTo_l0_X,h_2,h_3,h_4]) (by simp -implicitDefEqProofs [impl_Scene_comesTo_l0_X,h_2,h_3,h_4]),hR⟩
   ·replace H := HS.cnd_f h_4 H
    try simp -implicitDefEqProofs (maxSteps := 999999) [-selQ_sel,h_2,h_3,h_4]
    refine Hid.brV (fun h_5 => ?_) (fun h_5 => ?_)
    ·replace H := HS.cnd_t h_5 H
     try simp -implicitDefEqProofs (maxSteps := 999999) [-selQ_sel,h_2,h_3,h_4,h_5]
     obtain ⟨v6,h_6,H⟩ := HS.bnd H
     try simp -implicitDefEqProofs (maxSteps := 999999) [-selQ_sel,h_2,h_3,h_4,h_5,h_6]
     have hr := (HS.some H).symm; subst hr
     exact Hid.mk ⟨impl_Scene_comesTo_l0_S a0 a2 (v6.parent,(IntKind.i64.wrap (x4 + 1))),Wk.ofk [] hk (by rfl) (by simp -implicitDefEqProofs [impl_Scene_comesTo_l0_S,h_2,h_3,h_4,h_5,h_6]) (by simp -implicitDefEqProofs [impl_Scene_comesTo_l0_S,h_2,h_3,h_4,h_5,h_6]),hR⟩
    ·replace H := HS.cnd_f h_5 H
     try simp -implicitDefEqProofs (maxSteps := 999999) [-selQ_sel,h_2,h_3,h_4,h_5]
     have hr := (HS.some H).symm; subst hr
     exact Hid.mk ⟨(impl_Scene_comesTo_l0_X a0 a2 x3).2,Wk.ofk [] hk (by rfl) (by simp -implicitDefEqProofs [impl_Scene_comesTo_l0_X,h_2,h_3,h_4,h_5]) (by simp -implicitDefEqProofs [impl_Scene_comesTo_l0_X,h_2,h_3,h_4,h_5]),hR⟩
 ·revert H h_1; revert q; intro y7 h_1 H
  try dsimp only at H
  try simp -implicitDefEqProofs (maxSteps := 999999) [-selQ_sel,impl_Scene_comesTo_l0_X]
  have hr := (HS.some H).symm; subst hr
  refine Hid.mk ⟨_,Wk.refl _,?_⟩
  try simp -implicitDefEqProofs (maxSteps := 999999) [-selQ_sel]
theorem spec_DashOk_ok0 (hm : Try.prog.follows .mixedOrders = true) (k_spec_l01In : Sound Try.prog 87 spec_l01In_x) : Sound Try.prog 100 spec_DashOk_x := by
 refine xOf_sound fun q r h => ?_
 revert h; revert r; revert q; intro a0 r h
 refine fn_ok E0 hm Try.func100 rfl (by decide +kernel) (by rfl) fun Γ hn hk => ?_
 dsimp only [spec_DashOk_e,spec_DashOk_v]
 replace hn : Γ.n = 25 := hn
 replace hk : Γ.k = 0 := hk
 have H : HS (spec_DashOk a0) r := h
 clear h; unfold spec_DashOk at H
 try simp -implicitDefEqProofs at H
 refine Tr.of_vc (cl := tabC [(87,spec_l01In_x)]) (E := E0) [] (tab_cons k_spec_l01In tab_nil) hm (by rw [hn]; decide +kernel) ?_
 try simp -implicitDefEqProofs (maxSteps := 999999) [-selQ_sel]
 obtain ⟨q,h_1,H⟩ := HS.bnd H
 refine Hid.mk (Tr.weak (s' := (spec_DashOk_l0_S a0) 0) (Wk.ofk [] hk (by rfl) (by simp -implicitDefEqProofs [spec_DashOk_l0_S]) (by simp -implicitDefEqProofs [spec_DashOk_l0_S])) ?_)
 refine wp_loop_of (S := (spec_DashOk_l0_S a0)) (f := (spec_DashOk_l0 a0)) (xt := (spec_DashOk_l0_X a0)) ?_ ?_ h_1 ?_
 ·intro q; rcases q with ⟨⟩ | ⟨⟩ <;> simp [spec_DashOk_l0_X]
 ·clear H h_1 q
  rintro x3 o R hf hR
  have H : HS (spec_DashOk_l0 a0 x3) o := hf
  clear hf; unfold spec_DashOk_l0 at H
  try simp -implicitDefEqProofs at H
  refine Tr.of_vc (cl := tabC [(87,spec_l01In_x)]) (E := E0) [] (tab_cons k_spec_l01In tab_nil) hm (by rw [hn]; decide +kernel) ?_
  try simp -implicitDefEqProofs (maxSteps := 999999) [-selQ_sel,spec_DashOk_l0_S]
  refine Hid.brV (fun h_2 => ?_) (fun h_2 => ?_)
  ·replace H := HS.cnd_t h_2 H
   try simp -implicitDefEqProofs (maxSteps := 999999) [-selQ_sel,h_2]
   have hr := (HS.some H).symm; subst hr
   exact Hid.mk ⟨(spec_DashOk_l0_X a0 (.inl ())).2,Wk.ofk [] hk (by rfl) (by simp -implicitDefEqProofs [spec_DashOk_l0_X,h_2]) (by simp -implicitDefEqProofs [spec_DashOk_l0_X,h_2]),hR⟩
  ·replace H := HS.cnd_f h_2 H
   try simp -implicitDefEqProofs (maxSteps := 999999) [-selQ_sel,h_2]
   obtain ⟨v4,h_3,H⟩ := HS.bnd H
   try simp -implicitDefEqProofs (maxSteps := 999999) [-selQ_sel,h_2,h_3]
   obtain ⟨v5,h_4,H⟩ := HS.bnd H
   try simp -implicitDefEqProofs (maxSteps := 999999) [-selQ_sel,h_2,h_3,h_4]
   refine Hid.brV (fun h_5 => ?_) (fun h_5 => ?_)
   ·replace H := HS.cnd_t h_5 H
    try simp -implicitDefEqProofs (maxSteps := 999999) [-selQ_sel,h_2,h_3,h_4,h_5]
    have hr := (HS.some H).symm; subst hr
    exact Hid.mk ⟨spec_DashOk_l0_S a0 (IntKind.i64.wrap (x3 + 1)),Wk.ofk [] hk (by rfl) (by simp -implicitDefEqProofs [spec_DashOk_l0_S,h_2,h_3,h_4,h_5]) (by simp -implicitDefEqProofs [spec_DashOk_l0_S,h_2,h_3,h_4,h_5]),hR⟩
   ·replace H := HS.cnd_f h_5 H
    try simp -implicitDefEqProofs (maxSteps := 999999) [-selQ_sel,h_2,h_3,h_4,h_5]
    have hr := (HS.some H).symm; subst hr
    exact Hid.mk ⟨(spec_DashOk_l0_X a0 (.inr ())).2,Wk.ofk [] hk (by rfl) (by simp -implicitDefEqProofs [spec_DashOk_l0_X,h_2,h_3,h_4,h_5]) (by simp -implicitDefEqProofs [spec_DashOk_l0_X,h_2,h_3,h_4,h_5]),hR⟩
 ·rcases q with ⟨⟩ | ⟨⟩
  ·dsimp only at H
   try simp -implicitDefEqProofs (maxSteps := 999999) [-selQ_sel,spec_DashOk_l0_X]
   refine Hid.selQ (fun h_6 => ?_) (fun h_6 => ?_)
   ·replace H := HS.cnd_t h_6 H
    try simp -implicitDefEqProofs (maxSteps := 999999) [-selQ_sel,h_6]
    have hr := (HS.some H).symm; subst hr
    refine Hid.mk ⟨_,Wk.refl _,?_⟩
    try simp -implicitDefEqProofs (maxSteps := 999999) [-selQ_sel,h_6]
   ·replace H := HS.cnd_f h_6 H
    try simp -implicitDefEqProofs (maxSteps := 999999) [-selQ_sel,h_6]
    have hr := (HS.some H).symm; subst hr
    refine Hid.mk ⟨_,Wk.refl _,?_⟩
    try simp -implicitDefEqProofs (maxSteps := 999999) [-selQ_sel,h_6]
  ·dsimp only at H
   try simp -implicitDefEqProofs (maxSteps := 999999) [-selQ_sel,spec_DashOk_l0_X]
   have hr := (HS.some H).symm; subst hr
   refine Hid.mk ⟨_,Wk.refl _,?_⟩
   try simp -implicitDefEqProofs (maxSteps := 999999) [-selQ_sel]
theorem impl_DropNode_ok0 (hm : Try.prog.follows .mixedOrders = true) (k_impl_copyScene : Sound Try.prog 35 impl_copyScene_x) (k_impl_SceneOk : Sound Try.prog 14 impl_SceneOk_x) (k_impl_NodeAt : Sound Try.prog 13 impl_NodeAt_x) (k_impl_UnderOf : Sound Try.prog 38 impl_UnderOf_x) (k_slices_DeleteFunc_Node_DropNode_1_n : Sound Try.prog 76 slices_DeleteFunc_Node_DropNode_1_n_x) : Sound Try.prog 30 impl_DropNode_x := by
 refine xOf_sound fun q r h => ?_
 obtain ⟨a0,a1⟩ := q
 refine fn_ok E0 hm Try.func30 rfl (by decide +kernel) (by rfl) fun Γ hn hk => ?_
 dsimp only [impl_DropNode_e,impl_DropNode_v]
 replace hn : Γ.n = 30 := hn
 replace hk : Γ.k = 0 := hk
 have H : HS (impl_DropNode a0 a1) r := h
 clear h; unfold impl_DropNode at H
 try simp -implicitDefEqProofs at H
 refine Tr.of_vc (cl := tabC [(35,impl_copyScene_x),(14,impl_SceneOk_x),(13,impl_NodeAt_x),(38,impl_UnderOf_x),(76,slices_DeleteFunc_Node_DropNode_1_n_x)]) (E := E0) [] (tab_cons k_impl_copyScene (tab_cons k_impl_SceneOk (tab_cons k_impl_NodeAt (tab_cons k_impl_UnderOf (tab_cons k_slices_DeleteFunc_Node_DropNode_1_n tab_nil))))) hm (by rw [hn]; decide +kernel) ?_
 try simp -implicitDefEqProofs (maxSteps := 999999) [-selQ_sel]
 obtain ⟨v1,h_1,H⟩ := HS.bnd H
 try simp -implicitDefEqProofs (maxSteps := 999999) [-selQ_sel,h_1]
 obtain ⟨v2,h_2,H⟩ := HS.bnd H
 try simp -implicitDefEqProofs (maxSteps := 999999) [-selQ_sel,h_1,h_2]
 refine Hid.brV (fun h_3 => ?_) (fun h_3 => ?_)
 ·replace H := HS.cnd_t h_3 H
  try simp -implicitDefEqProofs (maxSteps := 999999) [-selQ_sel,h_1,h_2,h_3]
  obtain ⟨v3,h_4,H⟩ := HS.bnd H
  try simp -implicitDefEqProofs (maxSteps := 999999) [-selQ_sel,h_1,h_2,h_3,h_4]
  refine Hid.brV (fun h_5 => ?_) (fun h_5 => ?_)
  ·replace H := HS.cnd_t h_5 H
   try simp -implicitDefEqProofs (maxSteps := 999999) [-selQ_sel,h_1,h_2,h_3,h_4,h_5]
   obtain ⟨v4,h_6,H⟩ := HS.bnd H
   try simp -implicitDefEqProofs (maxSteps := 999999) [-selQ_sel,h_1,h_2,h_3,h_4,h_5,h_6]
   obtain ⟨v5,h_7,H⟩ := HS.bnd H
   try simp -implicitDefEqProofs (maxSteps := 999999) [-selQ_sel,h_1,h_2,h_3,h_4,h_5,h_6,h_7]
   have hr := (HS.some H).symm; subst hr
   refine Hid.mk ⟨⟨[(4,AV.optr 0 0 1),(5,AV.int .i64 0)],[(0,Ob.box [AV.osl 1 0 (List.length v5) (List.length v5)]),(1,Ob.nar 31 (List.map eNode v5) [0,0,0,0,0,0,0,0,0,1,2,0,0,1,0,0,0,0,0,0,0,0,0,0,0,0,0,0,0,1,2])],2⟩,Wk.ofk [1,5] hk (by rfl) (by simp -implicitDefEqProofs [h_1,h_2,h_3,h_4,h_5,h_6,h_7]) (by simp -implicitDefEqProofs [h_1,h_2,h_3,h_4,h_5,h_6,h_7]),?_⟩
   try simp -implicitDefEqProofs (maxSteps := 999999) [-selQ_sel,h_1,h_2,h_3,h_4,h_5,h_6,h_7]
  ·replace H := HS.cnd_f h_5 H
   try simp -implicitDefEqProofs (maxSteps := 999999) [-selQ_sel,h_1,h_2,h_3,h_4,h_5]
   have hr := (HS.some H).symm; subst hr
   refine Hid.mk ⟨⟨[(4,AV.optr 0 0 1),(5,AV.int .i64 2)],[(0,Ob.box [AV.osl 1 0 (List.length v1) (List.length v1)]),(1,Ob.nar 31 (List.map eNode v1) [0,0,0,0,0,0,0,0,0,1,2,0,0,1,0,0,0,0,0,0,0,0,0,0,0,0,0,0,0,1,2])],2⟩,Wk.ofk [1,2] hk (by rfl) (by simp -implicitDefEqProofs [h_1,h_2,h_3,h_4,h_5]) (by simp -implicitDefEqProofs [h_1,h_2,h_3,h_4,h_5]),?_⟩
   try simp -implicitDefEqProofs (maxSteps := 999999) [-selQ_sel,h_1,h_2,h_3,h_4,h_5]
 ·replace H := HS.cnd_f h_3 H
  try simp -implicitDefEqProofs (maxSteps := 999999) [-selQ_sel,h_1,h_2,h_3]
  have hr := (HS.some H).symm; subst hr
  refine Hid.mk ⟨⟨[(4,AV.optr 0 0 1),(5,AV.int .i64 1)],[(0,Ob.box [AV.osl 1 0 (List.length v1) (List.length v1)]),(1,Ob.nar 31 (List.map eNode v1) [0,0,0,0,0,0,0,0,0,1,2,0,0,1,0,0,0,0,0,0,0,0,0,0,0,0,0,0,0,1,2])],2⟩,Wk.ofk [1,2] hk (by rfl) (by simp -implicitDefEqProofs [h_1,h_2,h_3]) (by simp -implicitDefEqProofs [h_1,h_2,h_3]),?_⟩
  try simp -implicitDefEqProofs (maxSteps := 999999) [-selQ_sel,h_1,h_2,h_3]
theorem laws_toIntS_ok0 (hm : Try.prog.follows .mixedOrders = true) : Sound Try.prog 62 laws_toIntS_x := by
 refine xOf_sound fun q r h => ?_
 revert h; revert r; revert q; intro a0 r h
 refine fn_ok E0 hm Try.func62 rfl (by decide +kernel) (by rfl) fun Γ hn hk => ?_
 dsimp only [laws_toIntS_e,laws_toIntS_v]
 replace hn : Γ.n = 22 := hn
 replace hk : Γ.k = 0 := hk
 have H : HS (laws_toIntS a0) r := h
 clear h; unfold laws_toIntS at H
 try simp -implicitDefEqProofs at H
 refine Tr.of_vc (cl := tabC []) (E := E0) [] tab_nil hm (by rw [hn]; decide +kernel) ?_
 try simp -implicitDefEqProofs (maxSteps := 999999) [-selQ_sel]
 obtain ⟨h_1,H⟩ := HS.chkP H
 try simp -implicitDefEqProofs (maxSteps := 999999) [-selQ_sel,h_1]
 obtain ⟨l1,h_2,H⟩ := HS.nam H
 have m_3 := congrArg (List.map (AV.int .i64)) h_2
 have q_4 := congrArg List.length h_2
 simp -implicitDefEqProofs at m_3 q_4
 try simp only [q_4] at m_3
 try simp only [q_4] at h_1
 try simp -implicitDefEqProofs (maxSteps := 999999) [-selQ_sel,h_1,m_3,q_4]
 obtain ⟨q,h_5,H⟩ := HS.bnd H
 refine Hid.mk (Tr.weak (s' := (laws_toIntS_l0_S a0) (0,l1)) (Wk.ofk [0] hk (by rfl) (by simp -implicitDefEqProofs [laws_toIntS_l0_S,h_1,m_3,q_4]) (by simp -implicitDefEqProofs [laws_toIntS_l0_S,h_1,m_3,q_4])) ?_)
 refine wp_loop_of (S := (laws_toIntS_l0_S a0)) (f := (laws_toIntS_l0 a0)) (xt := (laws_toIntS_l0_X a0)) ?_ ?_ h_5 ?_
 ·intro q; simp [laws_toIntS_l0_X]
 ·clear H h_5 q
  rintro ⟨x5,x6⟩ o R hf hR
  have H : HS (laws_toIntS_l0 a0 (x5,x6)) o := hf
  clear hf; unfold laws_toIntS_l0 at H
  try simp -implicitDefEqProofs at H
  refine Tr.of_vc (cl := tabC []) (E := E0) [] tab_nil hm (by rw [hn]; decide +kernel) ?_
  try simp -implicitDefEqProofs (maxSteps := 999999) [-selQ_sel,laws_toIntS_l0_S]
  refine Hid.brV (fun h_6 => ?_) (fun h_6 => ?_)
  ·replace H := HS.cnd_t h_6 H
   try simp -implicitDefEqProofs (maxSteps := 999999) [-selQ_sel,h_6]
   have hr := (HS.some H).symm; subst hr
   exact Hid.mk ⟨(laws_toIntS_l0_X a0 x6).2,Wk.ofk [0] hk (by rfl) (by simp -implicitDefEqProofs [laws_toIntS_l0_X,h_6]) (by simp -implicitDefEqProofs [laws_toIntS_l0_X,h_6]),hR⟩
  ·replace H := HS.cnd_f h_6 H
   try simp -implicitDefEqProofs (maxSteps := 999999) [-selQ_sel,h_6]
   obtain ⟨v7,h_7,H⟩ := HS.bnd H
   try simp -implicitDefEqProofs (maxSteps := 999999) [-selQ_sel,h_6,h_7]
   obtain ⟨v8,h_8,H⟩ := HS.bnd H
   have g_9 := idx_get h_8
   try simp -implicitDefEqProofs (maxSteps := 999999) [-selQ_sel,h_6,h_7,h_8,g_9]
   obtain ⟨l9,h_10,H⟩ := HS.nam H
   have m_11 := congrArg (List.map (AV.int .i64)) h_10
   have q_12 := congrArg List.length h_10
   simp -implicitDefEqProofs at m_11 q_12
   try simp only [q_12] at m_11
   try simp only [q_12] at g_9
   try simp -implicitDefEqProofs (maxSteps := 999999) [-selQ_sel,h_6,h_7,h_8,g_9,m_11,q_12]
   have hr := (HS.some H).symm; subst hr
   exact Hid.mk ⟨laws_toIntS_l0_S a0 ((IntKind.i64.wrap (x5 + 1)),l9),Wk.ofk [0] hk (by rfl) (by simp -implicitDefEqProofs [laws_toIntS_l0_S,h_6,h_7,h_8,g_9,m_11,q_12]) (by simp -implicitDefEqProofs [laws_toIntS_l0_S,h_6,h_7,h_8,g_9,m_11,q_12]),hR⟩
 ·revert H h_5; revert q; intro y10 h_5 H
  try dsimp only at H
  try simp -implicitDefEqProofs (maxSteps := 999999) [-selQ_sel,h_1,m_3,q_4,laws_toIntS_l0_X]
  have hr := (HS.some H).symm; subst hr
  refine Hid.mk ⟨⟨[(2,AV.osl 0 0 (List.length y10) (List.length y10))],[(0,Ob.arr 1 (List.map (AV.int .i64) y10) false)],1⟩,Wk.ofk [0] hk (by rfl) (by simp -implicitDefEqProofs [h_1,m_3,q_4]) (by simp -implicitDefEqProofs [h_1,m_3,q_4]),?_⟩
  try simp -implicitDefEqProofs (maxSteps := 999999) [-selQ_sel,h_1,m_3,q_4]
theorem slices_Index_int_ok0 (hm : Try.prog.follows .mixedOrders = true) : Sound Try.prog 83 slices_Index_int_x := by
 refine xOf_sound fun q r h => ?_
 obtain ⟨a0,a1⟩ := q
 refine fn_ok E0 hm Try.func83 rfl (by decide +kernel) (by rfl) fun Γ hn hk => ?_
 dsimp only [slices_Index_int_e,slices_Index_int_v]
 replace hn : Γ.n = 19 := hn
 replace hk : Γ.k = 0 := hk
 have H : HS (slices_Index_int a0 a1) r := h
 clear h; unfold slices_Index_int at H
 try simp -implicitDefEqProofs at H
 refine Tr.of_vc (cl := tabC []) (E := E0) [] tab_nil hm (by rw [hn]; decide +kernel) ?_
 try simp -implicitDefEqProofs (maxSteps := 999999) [-selQ_sel]
 obtain ⟨q,h_1,H⟩ := HS.bnd H
 refine Hid.mk (Tr.weak (s' := (slices_Index_int_l0_S a0 a1) 0) (Wk.ofk [] hk (by rfl) (by simp -implicitDefEqProofs [slices_Index_int_l0_S]) (by simp -implicitDefEqProofs [slices_Index_int_l0_S])) ?_)
 refine wp_loop_of (S := (slices_Index_int_l0_S a0 a1)) (f := (slices_Index_int_l0 a0 a1)) (xt := (slices_Index_int_l0_X a0 a1)) ?_ ?_ h_1 ?_
 ·intro q; rcases q with ⟨⟩ | y4 <;> simp [slices_Index_int_l0_X]
 ·clear H h_1 q
  rintro x2 o R hf hR
  have H : HS (slices_Index_int_l0 a0 a1 x2) o := hf
  clear hf; unfold slices_Index_int_l0 at H
  try simp -implicitDefEqProofs at H
  refine Tr.of_vc (cl := tabC []) (E := E0) [] tab_nil hm (by rw [hn]; decide +kernel) ?_
  try simp -implicitDefEqProofs (maxSteps := 999999) [-selQ_sel,slices_Index_int_l0_S]
  refine Hid.brV (fun h_2 => ?_) (fun h_2 => ?_)
  ·replace H := HS.cnd_t h_2 H
   try simp -implicitDefEqProofs (maxSteps := 999999) [-selQ_sel,h_2]
   have hr := (HS.some H).symm; subst hr
   exact Hid.mk ⟨(slices_Index_int_l0_X a0 a1 (.inl ())).2,Wk.ofk [] hk (by rfl) (by simp -implicitDefEqProofs [slices_Index_int_l0_X,h_2]) (by simp -implicitDefEqProofs [slices_Index_int_l0_X,h_2]),hR⟩
  ·replace H := HS.cnd_f h_2 H
   try simp -implicitDefEqProofs (maxSteps := 999999) [-selQ_sel,h_2]
   obtain ⟨v3,h_3,H⟩ := HS.bnd H
   try simp -implicitDefEqProofs (maxSteps := 999999) [-selQ_sel,h_2,h_3]
   refine Hid.brV (fun h_4 => ?_) (fun h_4 => ?_)
   ·replace H := HS.cnd_t h_4 H
    try simp -implicitDefEqProofs (maxSteps := 999999) [-selQ_sel,h_2,h_3,h_4]
    have hr := (HS.some H).symm; subst hr
    exact Hid.mk ⟨(slices_Index_int_l0_X a0 a1 (.inr x2)).2,Wk.ofk [] hk (by rfl) (by simp -implicitDefEqProofs [slices_Index_int_l0_X,h_2,h_3,h_4]) (by simp -implicitDefEqProofs [slices_Index_int_l0_X,h_2,h_3,h_4]),hR⟩
   ·replace H := HS.cnd_f h_4 H
    try simp -implicitDefEqProofs (maxSteps := 999999) [-selQ_sel,h_2,h_3,h_4]
    have hr := (HS.some H).symm; subst hr
    exact Hid.mk ⟨slices_Index_int_l0_S a0 a1 (IntKind.i64.wrap (x2 + 1)),Wk.ofk [] hk (by rfl) (by simp -implicitDefEqProofs [slices_Index_int_l0_S,h_2,h_3,h_4]) (by simp -implicitDefEqProofs [slices_Index_int_l0_S,h_2,h_3,h_4]),hR⟩
 ·rcases q with ⟨⟩ | y4
  ·dsimp only at H
   try simp -implicitDefEqProofs (maxSteps := 999999) [-selQ_sel,slices_Index_int_l0_X]
   have hr := (HS.some H).symm; subst hr
   refine Hid.mk ⟨_,Wk.refl _,?_⟩
   try simp -implicitDefEqProofs (maxSteps := 999999) [-selQ_sel]
  ·dsimp only at H
   try simp -implicitDefEqProofs (maxSteps := 999999) [-selQ_sel,slices_Index_int_l0_X]
   have hr := (HS.some H).symm; subst hr
   refine Hid.mk ⟨_,Wk.refl _,?_⟩
   try simp -implicitDefEqProofs (maxSteps := 999999) [-selQ_sel]
theorem spec_NodeAt_ok0 (hm : Try.prog.follows .mixedOrders = true) : Sound Try.prog 45 spec_NodeAt_x := by
 refine xOf_sound fun q r h => ?_
 obtain ⟨a0,a1⟩ := q
 refine fn_ok E0 hm Try.func45 rfl (by decide +kernel) (by rfl) fun Γ hn hk => ?_
 dsimp only [spec_NodeAt_e,spec_NodeAt_v]
 replace hn : Γ.n = 22 := hn
 replace hk : Γ.k = 0 := hk
 have H : HS (spec_NodeAt a0 a1) r := h
 clear h; unfold spec_NodeAt at H
 try simp -implicitDefEqProofs at H
 refine Tr.of_vc (cl := tabC []) (E := E0) [] tab_nil hm (by rw [hn]; decide +kernel) ?_
 try simp -implicitDefEqProofs (maxSteps := 999999) [-selQ_sel]
 obtain ⟨q,h_1,H⟩ := HS.bnd H
 refine Hid.mk (Tr.weak (s' := (spec_NodeAt_l0_S a0 a1) 0) (Wk.ofk [0] hk (by rfl) (by simp -implicitDefEqProofs [spec_NodeAt_l0_S]) (by simp -implicitDefEqProofs [spec_NodeAt_l0_S])) ?_)
 refine wp_loop_of (S := (spec_NodeAt_l0_S a0 a1)) (f := (spec_NodeAt_l0 a0 a1)) (xt := (spec_NodeAt_l0_X a0 a1)) ?_ ?_ h_1 ?_
 ·intro q; rcases q with ⟨⟩ | y4 <;> simp [spec_NodeAt_l0_X]
 ·clear H h_1 q
  rintro x2 o R hf hR
  have H : HS (spec_NodeAt_l0 a0 a1 x2) o := hf
  clear hf; unfold spec_NodeAt_l0 at H
  try simp -implicitDefEqProofs at H
  refine Tr.of_vc (cl := tabC []) (E := E0) [] tab_nil hm (by rw [hn]; decide +kernel) ?_
  try simp -implicitDefEqProofs (maxSteps := 999999) [-selQ_sel,spec_NodeAt_l0_S]
  refine Hid.brV (fun h_2 => ?_) (fun h_2 => ?_)
  ·replace H := HS.cnd_t h_2 H
   try simp -implicitDefEqProofs (maxSteps := 999999) [-selQ_sel,h_2]
   have hr := (HS.some H).symm; subst hr
   exact Hid.mk ⟨(spec_NodeAt_l0_X a0 a1 (.inl ())).2,Wk.ofk [] hk (by rfl) (by simp -implicitDefEqProofs [spec_NodeAt_l0_X,h_2]) (by simp -implicitDefEqProofs [spec_NodeAt_l0_X,h_2]),hR⟩
  ·replace H := HS.cnd_f h_2 H
   try simp -implicitDefEqProofs (maxSteps := 999999) [-selQ_sel,h_2]
   obtain ⟨v3,h_3,H⟩ := HS.bnd H
   try simp -implicitDefEqProofs (maxSteps := 999999) [-selQ_sel,h_2,h_3]
   refine Hid.brV (fun h_4 => ?_) (fun h_4 => ?_)
   ·replace H := HS.cnd_t h_4 H
    try simp -implicitDefEqProofs (maxSteps := 999999) [-selQ_sel,h_2,h_3,h_4]
    have hr := (HS.some H).symm; subst hr
    exact Hid.mk ⟨(spec_NodeAt_l0_X a0 a1 (.inr x2)).2,Wk.ofk [] hk (by rfl) (by simp -implicitDefEqProofs [spec_NodeAt_l0_X,h_2,h_3,h_4]) (by simp -implicitDefEqProofs [spec_NodeAt_l0_X,h_2,h_3,h_4]),hR⟩
   ·replace H := HS.cnd_f h_4 H
    try simp -implicitDefEqProofs (maxSteps := 999999) [-selQ_sel,h_2,h_3,h_4]
    have hr := (HS.some H).symm; subst hr
    exact Hid.mk ⟨spec_NodeAt_l0_S a0 a1 (IntKind.i64.wrap (x2 + 1)),Wk.ofk [0] hk (by rfl) (by simp -implicitDefEqProofs [spec_NodeAt_l0_S,h_2,h_3,h_4]) (by simp -implicitDefEqProofs [spec_NodeAt_l0_S,h_2,h_3,h_4]),hR⟩
 ·rcases q with ⟨⟩ | y4
  ·dsimp only at H
   try simp -implicitDefEqProofs (maxSteps := 999999) [-selQ_sel,spec_NodeAt_l0_X]
   have hr := (HS.some H).symm; subst hr
   refine Hid.mk ⟨_,Wk.refl _,?_⟩
   try simp -implicitDefEqProofs (maxSteps := 999999) [-selQ_sel]
  ·dsimp only at H
   try simp -implicitDefEqProofs (maxSteps := 999999) [-selQ_sel,spec_NodeAt_l0_X]
   have hr := (HS.some H).symm; subst hr
   refine Hid.mk ⟨_,Wk.refl _,?_⟩
   try simp -implicitDefEqProofs (maxSteps := 999999) [-selQ_sel]
theorem spec_l15CopyNode_ok0 (hm : Try.prog.follows .mixedOrders = true) (k_spec_l15CopyPath : Sound Try.prog 88 spec_l15CopyPath_x) : Sound Try.prog 47 spec_l15CopyNode_x := by
 refine xOf_sound fun q r h => ?_
 revert h; revert r; revert q; intro a0 r h
 refine fn_ok E0 hm Try.func47 rfl (by decide +kernel) (by rfl) fun Γ hn hk => ?_
 dsimp only [spec_l15CopyNode_e,spec_l15CopyNode_v]
 replace hn : Γ.n = 17 := hn
 replace hk : Γ.k = 0 := hk
 have H : HS (spec_l15CopyNode a0) r := h
 clear h; unfold spec_l15CopyNode at H
 try simp -implicitDefEqProofs at H
 refine Tr.of_vc (cl := tabC [(88,spec_l15CopyPath_x)]) (E := E0) [] (tab_cons k_spec_l15CopyPath tab_nil) hm (by rw [hn]; decide +kernel) ?_
 try simp -implicitDefEqProofs (maxSteps := 999999) [-selQ_sel]
 obtain ⟨⟨w2,w3⟩,h_1,H⟩ := HS.bnd H
 dsimp only at H
 try simp -implicitDefEqProofs (maxSteps := 999999) [-selQ_sel,h_1]
 obtain ⟨⟨w5,w6⟩,h_2,H⟩ := HS.bnd H
 dsimp only at H
 try simp -implicitDefEqProofs (maxSteps := 999999) [-selQ_sel,h_1,h_2]
 obtain ⟨h_3,H⟩ := HS.chkP H
 try simp -implicitDefEqProofs (maxSteps := 999999) [-selQ_sel,h_1,h_2,h_3]
 obtain ⟨l7,h_4,H⟩ := HS.nam H
 have m_5 := congrArg (List.map (AV.int .i64)) h_4
 have q_6 := congrArg List.length h_4
 simp -implicitDefEqProofs at m_5 q_6
 try simp only [q_6] at m_5
 try simp only [q_6] at h_3
 try simp -implicitDefEqProofs (maxSteps := 999999) [-selQ_sel,h_1,h_2,h_3,m_5,q_6]
 have hr := (HS.some H).symm; subst hr
 refine Hid.mk ⟨⟨[(2,AV.optr 0 0 31)],[(0,Ob.box [AV.int .i64 a0.id,AV.int .i64 a0.parent,AV.bool a0.group,AV.int .i64 a0.mat.a,AV.int .i64 a0.mat.b,AV.int .i64 a0.mat.c,AV.int .i64 a0.mat.d,AV.int .i64 a0.mat.e,AV.int .i64 a0.mat.f,AV.osl 1 0 (List.length w2) (List.length w2),AV.osl 2 0 (List.length w3) (List.length w3),AV.bool a0.even,AV.int .i64 a0.width,AV.osl 3 0 (List.length l7) (List.length l7),AV.int .i64 a0.paint.kind,AV.int .i64 a0.paint.first.r,AV.int .i64 a0.paint.first.g,AV.int .i64 a0.paint.first.b,AV.int .i64 a0.paint.first.a,AV.int .i64 a0.paint.last.r,AV.int .i64 a0.paint.last.g,AV.int .i64 a0.paint.last.b,AV.int .i64 a0.paint.last.a,AV.int .i64 a0.paint.from_.x,AV.int .i64 a0.paint.from_.y,AV.int .i64 a0.paint.to.x,AV.int .i64 a0.paint.to.y,AV.int .i64 a0.mode,AV.int .i64 a0.fade,AV.osl 4 0 (List.length w5) (List.length w5),AV.osl 5 0 (List.length w6) (List.length w6)]),(1,Ob.arr 1 (List.map (AV.int .i64) w2) false),(2,Ob.arr 2 (List.map ePoint w3) false),(3,Ob.arr 1 (List.map (AV.int .i64) l7) false),(4,Ob.arr 1 (List.map (AV.int .i64) w5) false),(5,Ob.arr 2 (List.map ePoint w6) false)],6⟩,Wk.ofk [1,2,3,6,4,5] hk (by rfl) (by simp -implicitDefEqProofs [h_1,h_2,h_3,m_5,q_6]) (by simp -implicitDefEqProofs [h_1,h_2,h_3,m_5,q_6]),?_⟩
 try simp -implicitDefEqProofs (maxSteps := 999999) [-selQ_sel,h_1,h_2,h_3,m_5,q_6]
theorem impl_copyNode_ok0 (hm : Try.prog.follows .mixedOrders = true) (k_impl_copyPath : Sound Try.prog 107 impl_copyPath_x) (k_slices_Clone_int : Sound Try.prog 108 slices_Clone_int_x) : Sound Try.prog 64 impl_copyNode_x := by
 refine xOf_sound fun q r h => ?_
 revert h; revert r; revert q; intro a0 r h
 refine fn_ok E0 hm Try.func64 rfl (by decide +kernel) (by rfl) fun Γ hn hk => ?_
 dsimp only [impl_copyNode_e,impl_copyNode_v]
 replace hn : Γ.n = 16 := hn
 replace hk : Γ.k = 0 := hk
 have H : HS (impl_copyNode a0) r := h
 clear h; unfold impl_copyNode at H
 try simp -implicitDefEqProofs at H
 refine Tr.of_vc (cl := tabC [(107,impl_copyPath_x),(108,slices_Clone_int_x)]) (E := E0) [] (tab_cons k_impl_copyPath (tab_cons k_slices_Clone_int tab_nil)) hm (by rw [hn]; decide +kernel) ?_
 try simp -implicitDefEqProofs +decide (maxSteps := 999999) [-selQ_sel,hokQ_of]
 obtain ⟨⟨w2,w3⟩,h_1,H⟩ := HS.bnd H
 dsimp only at H
 try simp -implicitDefEqProofs +decide (maxSteps := 999999) [-selQ_sel,hokQ_of,h_1]
 obtain ⟨⟨w5,w6⟩,h_2,H⟩ := HS.bnd H
 dsimp only at H
 try simp -implicitDefEqProofs +decide (maxSteps := 999999) [-selQ_sel,hokQ_of,h_1,h_2]
 obtain ⟨v7,h_3,H⟩ := HS.bnd H
 try simp -implicitDefEqProofs +decide (maxSteps := 999999) [-selQ_sel,hokQ_of,h_1,h_2,h_3]
 have hr := (HS.some H).symm; subst hr
 refine Hid.mk ⟨⟨[(2,AV.optr 0 0 31)],[(0,Ob.box [AV.int .i64 a0.id,AV.int .i64 a0.parent,AV.bool a0.group,AV.int .i64 a0.mat.a,AV.int .i64 a0.mat.b,AV.int .i64 a0.mat.c,AV.int .i64 a0.mat.d,AV.int .i64 a0.mat.e,AV.int .i64 a0.mat.f,AV.osl 1 0 (List.length w2) (List.length w2),AV.osl 2 0 (List.length w3) (List.length w3),AV.bool a0.even,AV.int .i64 a0.width,AV.osl 3 0 (List.length v7) (List.length v7),AV.int .i64 a0.paint.kind,AV.int .i64 a0.paint.first.r,AV.int .i64 a0.paint.first.g,AV.int .i64 a0.paint.first.b,AV.int .i64 a0.paint.first.a,AV.int .i64 a0.paint.last.r,AV.int .i64 a0.paint.last.g,AV.int .i64 a0.paint.last.b,AV.int .i64 a0.paint.last.a,AV.int .i64 a0.paint.from_.x,AV.int .i64 a0.paint.from_.y,AV.int .i64 a0.paint.to.x,AV.int .i64 a0.paint.to.y,AV.int .i64 a0.mode,AV.int .i64 a0.fade,AV.osl 4 0 (List.length w5) (List.length w5),AV.osl 5 0 (List.length w6) (List.length w6)]),(1,Ob.arr 1 (List.map (AV.int .i64) w2) false),(2,Ob.arr 2 (List.map ePoint w3) false),(3,Ob.arr 1 (List.map (AV.int .i64) v7) false),(4,Ob.arr 1 (List.map (AV.int .i64) w5) false),(5,Ob.arr 2 (List.map ePoint w6) false)],6⟩,Wk.ofk [1,2,3,6,4,5] hk (by rfl) (by simp -implicitDefEqProofs [h_1,h_2,h_3]) (by simp -implicitDefEqProofs [h_1,h_2,h_3]),?_⟩
 try simp -implicitDefEqProofs +decide (maxSteps := 999999) [-selQ_sel,hokQ_of,h_1,h_2,h_3]
theorem laws_eqColor_ok0 (hm : Try.prog.follows .mixedOrders = true) : Sound Try.prog 110 laws_eqColor_x := by
 refine xOf_sound fun q r h => ?_
 obtain ⟨a0,a1⟩ := q
 refine fn_ok E0 hm Try.func110 rfl (by decide +kernel) (by rfl) fun Γ hn hk => ?_
 dsimp only [laws_eqColor_e,laws_eqColor_v]
 replace hn : Γ.n = 25 := hn
 replace hk : Γ.k = 0 := hk
 have H : HS (laws_eqColor a0 a1) r := h
 clear h; unfold laws_eqColor at H
 try simp -implicitDefEqProofs at H
 refine Tr.of_vc (cl := tabC []) (E := E0) [] tab_nil hm (by rw [hn]; decide +kernel) ?_
 try simp -implicitDefEqProofs (maxSteps := 999999) [-selQ_sel]
 refine Hid.brV (fun h_1 => ?_) (fun h_1 => ?_)
 ·replace H := HS.cnd_t h_1 H
  try simp -implicitDefEqProofs (maxSteps := 999999) [-selQ_sel,h_1]
  refine Hid.brV (fun h_2 => ?_) (fun h_2 => ?_)
  ·replace H := HS.cnd_t h_2 H
   try simp -implicitDefEqProofs (maxSteps := 999999) [-selQ_sel,h_1,h_2]
   refine Hid.brV (fun h_3 => ?_) (fun h_3 => ?_)
   ·replace H := HS.cnd_t h_3 H
    try simp -implicitDefEqProofs (maxSteps := 999999) [-selQ_sel,h_1,h_2,h_3]
    refine Hid.brV (fun h_4 => ?_) (fun h_4 => ?_)
    ·replace H := HS.cnd_t h_4 H
     try simp -implicitDefEqProofs (maxSteps := 999999) [-selQ_sel,h_1,h_2,h_3,h_4]
     have hr := (HS.some H).symm; subst hr
     refine Hid.mk ⟨_,Wk.refl _,?_⟩
     try simp -implicitDefEqProofs (maxSteps := 999999) [-selQ_sel,h_1,h_2,h_3,h_4]
    ·replace H := HS.cnd_f h_4 H
     try simp -implicitDefEqProofs (maxSteps := 999999) [-selQ_sel,h_1,h_2,h_3,h_4]
     have hr := (HS.some H).symm; subst hr
     refine Hid.mk ⟨_,Wk.refl _,?_⟩
     try simp -implicitDefEqProofs (maxSteps := 999999) [-selQ_sel,h_1,h_2,h_3,h_4]
   ·replace H := HS.cnd_f h_3 H
    try simp -implicitDefEqProofs (maxSteps := 999999) [-selQ_sel,h_1,h_2,h_3]
    have hr := (HS.some H).symm; subst hr
    refine Hid.mk ⟨_,Wk.refl _,?_⟩
    try simp -implicitDefEqProofs (maxSteps := 999999) [-selQ_sel,h_1,h_2,h_3]
  ·replace H := HS.cnd_f h_2 H
   try simp -implicitDefEqProofs (maxSteps := 999999) [-selQ_sel,h_1,h_2]
   have hr := (HS.some H).symm; subst hr
   refine Hid.mk ⟨_,Wk.refl _,?_⟩
   try simp -implicitDefEqProofs (maxSteps := 999999) [-selQ_sel,h_1,h_2]
 ·replace H := HS.cnd_f h_1 H
  try simp -implicitDefEqProofs (maxSteps := 999999) [-selQ_sel,h_1]
  have hr := (HS.some H).symm; subst hr
  refine Hid.mk ⟨_,Wk.refl _,?_⟩
  try simp -implicitDefEqProofs (maxSteps := 999999) [-selQ_sel,h_1]
theorem impl_Scene_isParent_ok0 (hm : Try.prog.follows .mixedOrders = true) (k_impl_NodeAt : Sound Try.prog 13 impl_NodeAt_x) : Sound Try.prog 51 impl_Scene_isParent_x := by
 refine xOf_sound fun q r h => ?_
 obtain ⟨a0,a1⟩ := q
 refine fn_ok E0 hm Try.func51 rfl (by decide +kernel) (by rfl) fun Γ hn hk => ?_
 dsimp only [impl_Scene_isParent_e,impl_Scene_isParent_v]
 replace hn : Γ.n = 27 := hn
 replace hk : Γ.k = 0 := hk
 have H : HS (impl_Scene_isParent a0 a1) r := h
 clear h; unfold impl_Scene_isParent at H
 try simp -implicitDefEqProofs at H
 refine Tr.of_vc (cl := tabC [(13,impl_NodeAt_x)]) (E := E0) [] (tab_cons k_impl_NodeAt tab_nil) hm (by rw [hn]; decide +kernel) ?_
 try simp -implicitDefEqProofs (maxSteps := 999999) [-selQ_sel]
 obtain ⟨v1,h_1,H⟩ := HS.bnd H
 try simp -implicitDefEqProofs (maxSteps := 999999) [-selQ_sel,h_1]
 refine Hid.selQ (fun h_2 => ?_) (fun h_2 => ?_)
 ·replace H := HS.cnd_t h_2 H
  try simp -implicitDefEqProofs (maxSteps := 999999) [-selQ_sel,h_1,h_2]
  have hr := (HS.some H).symm; subst hr
  refine Hid.mk ⟨_,Wk.refl _,?_⟩
  try simp -implicitDefEqProofs (maxSteps := 999999) [-selQ_sel,h_1,h_2]
 ·replace H := HS.cnd_f h_2 H
  try simp -implicitDefEqProofs (maxSteps := 999999) [-selQ_sel,h_1,h_2]
  refine Hid.selQ (fun h_3 => ?_) (fun h_3 => ?_)
  ·replace H := HS.cnd_t h_3 H
   try simp -implicitDefEqProofs (maxSteps := 999999) [-selQ_sel,h_1,h_2,h_3]
   obtain ⟨v2,h_4,H⟩ := HS.bnd H
   try simp -implicitDefEqProofs (maxSteps := 999999) [-selQ_sel,h_1,h_2,h_3,h_4]
   have hr := (HS.some H).symm; subst hr
   refine Hid.mk ⟨_,Wk.refl _,?_⟩
   try simp -implicitDefEqProofs (maxSteps := 999999) [-selQ_sel,h_1,h_2,h_3,h_4]
  ·replace H := HS.cnd_f h_3 H
   try simp -implicitDefEqProofs (maxSteps := 999999) [-selQ_sel,h_1,h_2,h_3]
   have hr := (HS.some H).symm; subst hr
   refine Hid.mk ⟨_,Wk.refl _,?_⟩
   try simp -implicitDefEqProofs (maxSteps := 999999) [-selQ_sel,h_1,h_2,h_3]
theorem slices_Clone_Point_ok0 (hm : Try.prog.follows .mixedOrders = true) : Sound Try.prog 127 slices_Clone_Point_x := by
 refine xOf_sound fun q r h => ?_
 revert h; revert r; revert q; intro a0 r h
 refine fn_ok E0 hm Try.func127 rfl (by decide +kernel) (by rfl) fun Γ hn hk => ?_
 dsimp only [slices_Clone_Point_e,slices_Clone_Point_v]
 replace hn : Γ.n = 8 := hn
 replace hk : Γ.k = 0 := hk
 have H : HS (slices_Clone_Point a0) r := h
 clear h; unfold slices_Clone_Point at H
 obtain ⟨h_1,H⟩ := HS.chkP H
 have hr := (HS.some H).symm; subst hr
 refine Tr.of_vc (cl := tabC []) (E := E0) [1] tab_nil hm (by rw [hn]; decide +kernel) ?_
 simp -implicitDefEqProofs [-selQ_sel]
 refine Hid.mk (Tr_nil (E := E0) tab_nil (h1 := rfl) (hd1 := fun d h => by cases h; rw [hn]; decide) (ho := rfl) (hg := rfl) (hd := rfl) (hdn := by rw [hn]; decide) (hu := elt_37) (hx := rfl) fun b hb => ?_)
 refine Tr.of_vc (cl := tabC []) (E := E0) [] tab_nil hm (by rw [hn]; decide +kernel) ?_
 simp -implicitDefEqProofs [-selQ_sel,aft,putT]
 refine Hid.brV (fun h_2 => ?_) (fun h_2 => ?_)
 ·simp -implicitDefEqProofs [-selQ_sel]
  have h_3 := hb h_2; simp at h_3; subst h_3
  refine Hid.mk ⟨_,Wk.refl _,?_⟩
  simp -implicitDefEqProofs [-selQ_sel,h_1]
  refine ⟨⟨[(2,AV.osl 0 0 0 0)],[(0,Ob.arr 2 (List.map ePoint []) false)],1⟩,Wk.ofk [0] hk (by rfl) (by simp -implicitDefEqProofs) (by simp -implicitDefEqProofs),?_⟩
  simp -implicitDefEqProofs [-selQ_sel,h_1]
 ·simp -implicitDefEqProofs [-selQ_sel]
  refine Hid.mk ⟨_,Wk.refl _,?_⟩
  simp -implicitDefEqProofs [-selQ_sel,h_1]
  refine ⟨⟨[(2,AV.osl 0 0 (List.length a0) (List.length a0))],[(0,Ob.arr 2 (List.map ePoint a0) false)],1⟩,Wk.ofk [0] hk (by rfl) (by simp -implicitDefEqProofs) (by simp -implicitDefEqProofs),?_⟩
  simp -implicitDefEqProofs [-selQ_sel,h_1]
theorem impl_PointOk_ok0 (hm : Try.prog.follows .mixedOrders = true) (k_impl_isFar : Sound Try.prog 119 impl_isFar_x) : Sound Try.prog 123 impl_PointOk_x := by
 refine xOf_sound fun q r h => ?_
 revert h; revert r; revert q; intro a0 r h
 refine fn_ok E0 hm Try.func123 rfl (by decide +kernel) (by rfl) fun Γ hn hk => ?_
 dsimp only [impl_PointOk_e,impl_PointOk_v]
 replace hn : Γ.n = 11 := hn
 replace hk : Γ.k = 0 := hk
 have H : HS (impl_PointOk a0) r := h
 clear h; unfold impl_PointOk at H
 try simp -implicitDefEqProofs at H
 refine Tr.of_vc (cl := tabC [(119,impl_isFar_x)]) (E := E0) [] (tab_cons k_impl_isFar tab_nil) hm (by rw [hn]; decide +kernel) ?_
 try simp -implicitDefEqProofs (maxSteps := 999999) [-selQ_sel]
 obtain ⟨v1,h_1,H⟩ := HS.bnd H
 try simp -implicitDefEqProofs (maxSteps := 999999) [-selQ_sel,h_1]
 refine Hid.selQ (fun h_2 => ?_) (fun h_2 => ?_)
 ·replace H := HS.cnd_t h_2 H
  try simp -implicitDefEqProofs (maxSteps := 999999) [-selQ_sel,h_1,h_2]
  obtain ⟨v2,h_3,H⟩ := HS.bnd H
  try simp -implicitDefEqProofs (maxSteps := 999999) [-selQ_sel,h_1,h_2,h_3]
  have hr := (HS.some H).symm; subst hr
  refine Hid.mk ⟨_,Wk.refl _,?_⟩
  try simp -implicitDefEqProofs (maxSteps := 999999) [-selQ_sel,h_1,h_2,h_3]
 ·replace H := HS.cnd_f h_2 H
  try simp -implicitDefEqProofs (maxSteps := 999999) [-selQ_sel,h_1,h_2]
  have hr := (HS.some H).symm; subst hr
  refine Hid.mk ⟨_,Wk.refl _,?_⟩
  try simp -implicitDefEqProofs (maxSteps := 999999) [-selQ_sel,h_1,h_2]
theorem laws_toPaint_ok0 (hm : Try.prog.follows .mixedOrders = true) (k_laws_toColor : Sound Try.prog 105 laws_toColor_x) (k_laws_toPoint : Sound Try.prog 106 laws_toPoint_x) : Sound Try.prog 63 laws_toPaint_x := by
 refine xOf_sound fun q r h => ?_
 revert h; revert r; revert q; intro a0 r h
 refine fn_ok E0 hm Try.func63 rfl (by decide +kernel) (by rfl) fun Γ hn hk => ?_
 dsimp only [laws_toPaint_e,laws_toPaint_v]
 replace hn : Γ.n = 24 := hn
 replace hk : Γ.k = 0 := hk
 have H : HS (laws_toPaint a0) r := h
 clear h; unfold laws_toPaint at H
 try simp -implicitDefEqProofs at H
 refine Tr.of_vc (cl := tabC [(105,laws_toColor_x),(106,laws_toPoint_x)]) (E := E0) [] (tab_cons k_laws_toColor (tab_cons k_laws_toPoint tab_nil)) hm (by rw [hn]; decide +kernel) ?_
 try simp -implicitDefEqProofs (maxSteps := 999999) [-selQ_sel]
 obtain ⟨v1,h_1,H⟩ := HS.bnd H
 try simp -implicitDefEqProofs (maxSteps := 999999) [-selQ_sel,h_1]
 obtain ⟨v2,h_2,H⟩ := HS.bnd H
 try simp -implicitDefEqProofs (maxSteps := 999999) [-selQ_sel,h_1,h_2]
 obtain ⟨v3,h_3,H⟩ := HS.bnd H
 try simp -implicitDefEqProofs (maxSteps := 999999) [-selQ_sel,h_1,h_2,h_3]
 obtain ⟨v4,h_4,H⟩ := HS.bnd H
 try simp -implicitDefEqProofs (maxSteps := 999999) [-selQ_sel,h_1,h_2,h_3,h_4]
 have hr := (HS.some H).symm; subst hr
 refine Hid.mk ⟨_,Wk.refl _,?_⟩
 try simp -implicitDefEqProofs (maxSteps := 999999) [-selQ_sel,h_1,h_2,h_3,h_4]
theorem laws_szScene_ok0 (hm : Try.prog.follows .mixedOrders = true) (k_laws_szNodeS : Sound Try.prog 54 laws_szNodeS_x) : Sound Try.prog 16 laws_szScene_x := by
 refine xOf_sound fun q r h => ?_
 obtain ⟨a0,a1⟩ := q
 refine fn_ok E0 hm Try.func16 rfl (by decide +kernel) (by rfl) fun Γ hn hk => ?_
 dsimp only [laws_szScene_e,laws_szScene_v]
 replace hn : Γ.n = 12 := hn
 replace hk : Γ.k = 0 := hk
 have H : HS (laws_szScene a0 a1) r := h
 clear h; unfold laws_szScene at H
 try simp -implicitDefEqProofs at H
 refine Tr.of_vc (cl := tabC [(54,laws_szNodeS_x)]) (E := E0) [] (tab_cons k_laws_szNodeS tab_nil) hm (by rw [hn]; decide +kernel) ?_
 try simp -implicitDefEqProofs (maxSteps := 999999) [-selQ_sel]
 obtain ⟨v1,h_1,H⟩ := HS.bnd H
 try simp -implicitDefEqProofs (maxSteps := 999999) [-selQ_sel,h_1]
 refine Hid.brV (fun h_2 => ?_) (fun h_2 => ?_)
 ·replace H := HS.cnd_t h_2 H
  try simp -implicitDefEqProofs (maxSteps := 999999) [-selQ_sel,h_1,h_2]
  have hr := (HS.some H).symm; subst hr
  refine Hid.mk ⟨_,Wk.refl _,?_⟩
  try simp -implicitDefEqProofs (maxSteps := 999999) [-selQ_sel,h_1,h_2]
 ·replace H := HS.cnd_f h_2 H
  try simp -implicitDefEqProofs (maxSteps := 999999) [-selQ_sel,h_1,h_2]
  have hr := (HS.some H).symm; subst hr
  refine Hid.mk ⟨_,Wk.refl _,?_⟩
  try simp -implicitDefEqProofs (maxSteps := 999999) [-selQ_sel,h_1,h_2]
theorem impl_Path_isNone_ok0 (hm : Try.prog.follows .mixedOrders = true) : Sound Try.prog 94 impl_Path_isNone_x := by
 refine xOf_sound fun q r h => ?_
 revert h; revert r; revert q; intro a0 r h
 refine fn_ok E0 hm Try.func94 rfl (by decide +kernel) (by rfl) fun Γ hn hk => ?_
 dsimp only [impl_Path_isNone_e,impl_Path_isNone_v]
 replace hn : Γ.n = 13 := hn
 replace hk : Γ.k = 0 := hk
 have H : HS (impl_Path_isNone a0) r := h
 clear h; unfold impl_Path_isNone at H
 try simp -implicitDefEqProofs at H
 refine Tr.of_vc (cl := tabC []) (E := E0) [] tab_nil hm (by rw [hn]; decide +kernel) ?_
 try simp -implicitDefEqProofs (maxSteps := 999999) [-selQ_sel]
 refine Hid.selQ (fun h_1 => ?_) (fun h_1 => ?_)
 ·replace H := HS.cnd_t h_1 H
  try simp -implicitDefEqProofs (maxSteps := 999999) [-selQ_sel,h_1]
  have hr := (HS.some H).symm; subst hr
  refine Hid.mk ⟨_,Wk.refl _,?_⟩
  try simp -implicitDefEqProofs (maxSteps := 999999) [-selQ_sel,h_1]
 ·replace H := HS.cnd_f h_1 H
  try simp -implicitDefEqProofs (maxSteps := 999999) [-selQ_sel,h_1]
  have hr := (HS.some H).symm; subst hr
  refine Hid.mk ⟨_,Wk.refl _,?_⟩
  try simp -implicitDefEqProofs (maxSteps := 999999) [-selQ_sel,h_1]
theorem laws_szPointS_ok0 (hm : Try.prog.follows .mixedOrders = true) : Sound Try.prog 97 laws_szPointS_x := by
 refine xOf_sound fun q r h => ?_
 obtain ⟨a0,a1⟩ := q
 refine fn_ok E0 hm Try.func97 rfl (by decide +kernel) (by rfl) fun Γ hn hk => ?_
 dsimp only [laws_szPointS_e,laws_szPointS_v]
 replace hn : Γ.n = 12 := hn
 replace hk : Γ.k = 0 := hk
 have H : HS (laws_szPointS a0 a1) r := h
 clear h; unfold laws_szPointS at H
 try simp -implicitDefEqProofs at H
 refine Tr.of_vc (cl := tabC []) (E := E0) [] tab_nil hm (by rw [hn]; decide +kernel) ?_
 try simp -implicitDefEqProofs (maxSteps := 999999) [-selQ_sel]
 refine Hid.brV (fun h_1 => ?_) (fun h_1 => ?_)
 ·replace H := HS.cnd_t h_1 H
  try simp -implicitDefEqProofs (maxSteps := 999999) [-selQ_sel,h_1]
  have hr := (HS.some H).symm; subst hr
  refine Hid.mk ⟨_,Wk.refl _,?_⟩
  try simp -implicitDefEqProofs (maxSteps := 999999) [-selQ_sel,h_1]
 ·replace H := HS.cnd_f h_1 H
  try simp -implicitDefEqProofs (maxSteps := 999999) [-selQ_sel,h_1]
  have hr := (HS.some H).symm; subst hr
  refine Hid.mk ⟨_,Wk.refl _,?_⟩
  try simp -implicitDefEqProofs (maxSteps := 999999) [-selQ_sel,h_1]
theorem laws_markScene_ok0 (hm : Try.prog.follows .mixedOrders = true) (k_laws_markNodeS : Sound Try.prog 70 laws_markNodeS_x) : Sound Try.prog 24 laws_markScene_x := by
 refine xOf_sound fun q r h => ?_
 obtain ⟨a0,a1⟩ := q
 refine fn_ok E0 hm Try.func24 rfl (by decide +kernel) (by rfl) fun Γ hn hk => ?_
 dsimp only [laws_markScene_e,laws_markScene_v]
 replace hn : Γ.n = 10 := hn
 replace hk : Γ.k = 1 := hk
 have H : HS (laws_markScene a0 a1) r := h
 clear h; unfold laws_markScene at H
 try simp -implicitDefEqProofs at H
 refine Tr.of_vc (cl := tabC [(70,laws_markNodeS_x)]) (E := E0) [] (tab_cons k_laws_markNodeS tab_nil) hm (by rw [hn]; decide +kernel) ?_
 try simp -implicitDefEqProofs (maxSteps := 999999) [-selQ_sel]
 obtain ⟨⟨w2,w3⟩,h_1,H⟩ := HS.bnd H
 dsimp only at H
 have g_2 := laws_markNodeS_n h_1
 try simp -implicitDefEqProofs (maxSteps := 999999) [-selQ_sel,h_1,g_2]
 have hr := (HS.some H).symm; subst hr
 refine Hid.mk ⟨_,Wk.refl _,?_⟩
 try simp -implicitDefEqProofs (maxSteps := 999999) [-selQ_sel,h_1,g_2]
theorem slices_Contains_int_ok0 (hm : Try.prog.follows .mixedOrders = true) (k_slices_Index_int : Sound Try.prog 83 slices_Index_int_x) : Sound Try.prog 37 slices_Contains_int_x := by
 refine xOf_sound fun q r h => ?_
 obtain ⟨a0,a1⟩ := q
 refine fn_ok E0 hm Try.func37 rfl (by decide +kernel) (by rfl) fun Γ hn hk => ?_
 dsimp only [slices_Contains_int_e,slices_Contains_int_v]
 replace hn : Γ.n = 9 := hn
 replace hk : Γ.k = 0 := hk
 have H : HS (slices_Contains_int a0 a1) r := h
 clear h; unfold slices_Contains_int at H
 try simp -implicitDefEqProofs at H
 refine Tr.of_vc (cl := tabC [(83,slices_Index_int_x)]) (E := E0) [] (tab_cons k_slices_Index_int tab_nil) hm (by rw [hn]; decide +kernel) ?_
 try simp -implicitDefEqProofs (maxSteps := 999999) [-selQ_sel]
 obtain ⟨v1,h_1,H⟩ := HS.bnd H
 try simp -implicitDefEqProofs (maxSteps := 999999) [-selQ_sel,h_1]
 have hr := (HS.some H).symm; subst hr
 refine Hid.mk ⟨_,Wk.refl _,?_⟩
 try simp -implicitDefEqProofs (maxSteps := 999999) [-selQ_sel,h_1]
theorem impl_isFar_ok0 (hm : Try.prog.follows .mixedOrders = true) (k_impl_inRange : Sound Try.prog 41 impl_inRange_x) : Sound Try.prog 119 impl_isFar_x := by
 refine xOf_sound fun q r h => ?_
 revert h; revert r; revert q; intro a0 r h
 refine fn_ok E0 hm Try.func119 rfl (by decide +kernel) (by rfl) fun Γ hn hk => ?_
 dsimp only [impl_isFar_e,impl_isFar_v]
 replace hn : Γ.n = 5 := hn
 replace hk : Γ.k = 0 := hk
 have H : HS (impl_isFar a0) r := h
 clear h; unfold impl_isFar at H
 try simp -implicitDefEqProofs at H
 refine Tr.of_vc (cl := tabC [(41,impl_inRange_x)]) (E := E0) [] (tab_cons k_impl_inRange tab_nil) hm (by rw [hn]; decide +kernel) ?_
 try simp -implicitDefEqProofs (maxSteps := 999999) [-selQ_sel]
 obtain ⟨v1,h_1,H⟩ := HS.bnd H
 try simp -implicitDefEqProofs (maxSteps := 999999) [-selQ_sel,h_1]
 have hr := (HS.some H).symm; subst hr
 refine Hid.mk ⟨_,Wk.refl _,?_⟩
 try simp -implicitDefEqProofs (maxSteps := 999999) [-selQ_sel,h_1]
theorem laws_toMat_ok0 (hm : Try.prog.follows .mixedOrders = true) : Sound Try.prog 60 laws_toMat_x := by
 refine xOf_sound fun q r h => ?_
 revert h; revert r; revert q; intro a0 r h
 refine fn_ok E0 hm Try.func60 rfl (by decide +kernel) (by rfl) fun Γ hn hk => ?_
 dsimp only [laws_toMat_e,laws_toMat_v]
 replace hn : Γ.n = 23 := hn
 replace hk : Γ.k = 0 := hk
 have H : HS (laws_toMat a0) r := h
 clear h; unfold laws_toMat at H
 try simp -implicitDefEqProofs at H
 refine Tr.of_vc (cl := tabC []) (E := E0) [] tab_nil hm (by rw [hn]; decide +kernel) ?_
 try simp -implicitDefEqProofs (maxSteps := 999999) [-selQ_sel]
 have hr := (HS.some H).symm; subst hr
 refine Hid.mk ⟨_,Wk.refl _,?_⟩
 try simp -implicitDefEqProofs (maxSteps := 999999) [-selQ_sel]
end Go.Proofs.Ytapchldnmkfkoab.Am
