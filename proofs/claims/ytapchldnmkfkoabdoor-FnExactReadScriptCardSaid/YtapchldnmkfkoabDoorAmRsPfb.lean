import Derived.Test.YtapchldnmkfkoabDoorAmRsMo
set_option linter.unusedVariables false
set_option linter.unusedSimpArgs false
set_option linter.unusedSectionVars false
namespace Go.Proofs.YtapchldnmkfkoabDoor.Am
open Go Go.Proofs
set_option maxRecDepth 100000
set_option linter.unusedSimpArgs false
set_option linter.unusedVariables false
set_option maxHeartbeats 4000000
theorem impl_lineReader_deed_ok0 (hm : Tryd.prog.follows .mixedOrders = true) (k_impl_lineReader_next : Sound Tryd.prog 39 impl_lineReader_next_x) (k_impl_lineReader_created : Sound Tryd.prog 40 impl_lineReader_created_x) (k_impl_lineReader_number : Sound Tryd.prog 41 impl_lineReader_number_x) : Sound Tryd.prog 28 impl_lineReader_deed_x := by
 refine xOf_sound fun q r h => ?_
 revert h; revert r; revert q; intro a0 r h
 refine fn_ok E0 hm Tryd.func28 rfl (by decide +kernel) (by rfl) fun Γ hn hk => ?_
 dsimp only [impl_lineReader_deed_e,impl_lineReader_deed_v]
 replace hn : Γ.n = 55 := hn
 replace hk : Γ.k = 1 := hk
 have H : HS (impl_lineReader_deed a0) r := h
 clear h; unfold impl_lineReader_deed at H
 try simp -implicitDefEqProofs at H
 refine Tr.of_vc (cl := tabC [(39,impl_lineReader_next_x),(40,impl_lineReader_created_x),(41,impl_lineReader_number_x)]) (E := E0) [] (tab_cons k_impl_lineReader_next (tab_cons k_impl_lineReader_created (tab_cons k_impl_lineReader_number tab_nil))) hm (by rw [hn]; decide +kernel) ?_
 try simp -implicitDefEqProofs (maxSteps := 999999) [-selQ_sel]
 obtain ⟨⟨w2,w3⟩,h_1,H⟩ := HS.bnd H
 try dsimp only at H
 try simp -implicitDefEqProofs (maxSteps := 999999) [-selQ_sel,h_1]
 refine Hid.brV (fun h_2 => ?_) (fun h_2 => ?_)
 ·replace H := HS.cnd_t h_2 H
  try simp -implicitDefEqProofs (maxSteps := 999999) [-selQ_sel,h_1,h_2]
  obtain ⟨⟨w5,w6,w7,w8,w9,w10,w11,w12,w13,w14,w15,w16⟩,h_3,H⟩ := HS.bnd H
  try dsimp only at H
  try simp -implicitDefEqProofs (maxSteps := 999999) [-selQ_sel,h_1,h_2,h_3]
  have hr := (HS.some H).symm; subst hr
  refine Hid.mk ⟨⟨[(2,AV.optr 1 0 37)],[(0,Ob.box [AV.fsl (List.map eS w14.parts),AV.bool w14.bad]),(1,Ob.box [AV.int .i64 1,AV.int .i64 w5,AV.int .i64 w6,AV.bool w7,AV.int .i64 w8.a,AV.int .i64 w8.b,AV.int .i64 w8.c,AV.int .i64 w8.d,AV.int .i64 w8.e,AV.int .i64 w8.f,AV.osl 2 0 (List.length w15) (List.length w15),AV.osl 3 0 (List.length w16) (List.length w16),AV.bool w9,AV.int .i64 w10,AV.nilsl,AV.int .i64 w11.kind,AV.int .i64 w11.first.r,AV.int .i64 w11.first.g,AV.int .i64 w11.first.b,AV.int .i64 w11.first.a,AV.int .i64 w11.last.r,AV.int .i64 w11.last.g,AV.int .i64 w11.last.b,AV.int .i64 w11.last.a,AV.int .i64 w11.from_.x,AV.int .i64 w11.from_.y,AV.int .i64 w11.to.x,AV.int .i64 w11.to.y,AV.int .i64 w12,AV.int .i64 w13,AV.nilsl,AV.nilsl,AV.int .i64 0,AV.int .i64 0,AV.int .i64 0,AV.int .i64 0,AV.int .i64 0]),(2,Ob.arr 1 (List.map (AV.int .i64) w15) false),(3,Ob.arr 2 (List.map ePoint w16) false)],4⟩,Wk.ofk [0,1,3,4] hk (by rfl) (by simp -implicitDefEqProofs [h_1,h_2,h_3]) (by simp -implicitDefEqProofs [h_1,h_2,h_3]),?_⟩
  try simp -implicitDefEqProofs (maxSteps := 999999) [-selQ_sel,h_1,h_2,h_3]
 ·replace H := HS.cnd_f h_2 H
  try simp -implicitDefEqProofs (maxSteps := 999999) [-selQ_sel,h_1,h_2]
  refine Hid.brV (fun h_4 => ?_) (fun h_4 => ?_)
  ·replace H := HS.cnd_t h_4 H
   try simp -implicitDefEqProofs (maxSteps := 999999) [-selQ_sel,h_1,h_2,h_4]
   obtain ⟨⟨w18,w19,w20,w21,w22,w23,w24,w25,w26,w27,w28,w29⟩,h_5,H⟩ := HS.bnd H
   try dsimp only at H
   try simp -implicitDefEqProofs (maxSteps := 999999) [-selQ_sel,h_1,h_2,h_4,h_5]
   have hr := (HS.some H).symm; subst hr
   refine Hid.mk ⟨⟨[(2,AV.optr 1 0 37)],[(0,Ob.box [AV.fsl (List.map eS w27.parts),AV.bool w27.bad]),(1,Ob.box [AV.int .i64 1,AV.int .i64 w18,AV.int .i64 w19,AV.bool w20,AV.int .i64 w21.a,AV.int .i64 w21.b,AV.int .i64 w21.c,AV.int .i64 w21.d,AV.int .i64 w21.e,AV.int .i64 w21.f,AV.osl 2 0 (List.length w28) (List.length w28),AV.osl 3 0 (List.length w29) (List.length w29),AV.bool w22,AV.int .i64 w23,AV.nilsl,AV.int .i64 w24.kind,AV.int .i64 w24.first.r,AV.int .i64 w24.first.g,AV.int .i64 w24.first.b,AV.int .i64 w24.first.a,AV.int .i64 w24.last.r,AV.int .i64 w24.last.g,AV.int .i64 w24.last.b,AV.int .i64 w24.last.a,AV.int .i64 w24.from_.x,AV.int .i64 w24.from_.y,AV.int .i64 w24.to.x,AV.int .i64 w24.to.y,AV.int .i64 w25,AV.int .i64 w26,AV.nilsl,AV.nilsl,AV.int .i64 0,AV.int .i64 0,AV.int .i64 0,AV.int .i64 0,AV.int .i64 0]),(2,Ob.arr 1 (List.map (AV.int .i64) w28) false),(3,Ob.arr 2 (List.map ePoint w29) false)],4⟩,Wk.ofk [0,1,3,4] hk (by rfl) (by simp -implicitDefEqProofs [h_1,h_2,h_4,h_5]) (by simp -implicitDefEqProofs [h_1,h_2,h_4,h_5]),?_⟩
   try simp -implicitDefEqProofs (maxSteps := 999999) [-selQ_sel,h_1,h_2,h_4,h_5]
  ·replace H := HS.cnd_f h_4 H
   try simp -implicitDefEqProofs (maxSteps := 999999) [-selQ_sel,h_1,h_2,h_4]
   refine Hid.brV (fun h_6 => ?_) (fun h_6 => ?_)
   ·replace H := HS.cnd_t h_6 H
    try simp -implicitDefEqProofs (maxSteps := 999999) [-selQ_sel,h_1,h_2,h_4,h_6]
    obtain ⟨⟨w31,w32,w33,w34,w35,w36,w37,w38,w39,w40,w41,w42⟩,h_7,H⟩ := HS.bnd H
    try dsimp only at H
    try simp -implicitDefEqProofs (maxSteps := 999999) [-selQ_sel,h_1,h_2,h_4,h_6,h_7]
    have hr := (HS.some H).symm; subst hr
    refine Hid.mk ⟨⟨[(2,AV.optr 1 0 37)],[(0,Ob.box [AV.fsl (List.map eS w40.parts),AV.bool w40.bad]),(1,Ob.box [AV.int .i64 1,AV.int .i64 w31,AV.int .i64 w32,AV.bool w33,AV.int .i64 w34.a,AV.int .i64 w34.b,AV.int .i64 w34.c,AV.int .i64 w34.d,AV.int .i64 w34.e,AV.int .i64 w34.f,AV.osl 2 0 (List.length w41) (List.length w41),AV.osl 3 0 (List.length w42) (List.length w42),AV.bool w35,AV.int .i64 w36,AV.nilsl,AV.int .i64 w37.kind,AV.int .i64 w37.first.r,AV.int .i64 w37.first.g,AV.int .i64 w37.first.b,AV.int .i64 w37.first.a,AV.int .i64 w37.last.r,AV.int .i64 w37.last.g,AV.int .i64 w37.last.b,AV.int .i64 w37.last.a,AV.int .i64 w37.from_.x,AV.int .i64 w37.from_.y,AV.int .i64 w37.to.x,AV.int .i64 w37.to.y,AV.int .i64 w38,AV.int .i64 w39,AV.nilsl,AV.nilsl,AV.int .i64 0,AV.int .i64 0,AV.int .i64 0,AV.int .i64 0,AV.int .i64 0]),(2,Ob.arr 1 (List.map (AV.int .i64) w41) false),(3,Ob.arr 2 (List.map ePoint w42) false)],4⟩,Wk.ofk [0,1,3,4] hk (by rfl) (by simp -implicitDefEqProofs [h_1,h_2,h_4,h_6,h_7]) (by simp -implicitDefEqProofs [h_1,h_2,h_4,h_6,h_7]),?_⟩
    try simp -implicitDefEqProofs (maxSteps := 999999) [-selQ_sel,h_1,h_2,h_4,h_6,h_7]
   ·replace H := HS.cnd_f h_6 H
    try simp -implicitDefEqProofs (maxSteps := 999999) [-selQ_sel,h_1,h_2,h_4,h_6]
    refine Hid.brV (fun h_8 => ?_) (fun h_8 => ?_)
    ·replace H := HS.cnd_t h_8 H
     try simp -implicitDefEqProofs (maxSteps := 999999) [-selQ_sel,h_1,h_2,h_4,h_6,h_8]
     obtain ⟨⟨w44,w45⟩,h_9,H⟩ := HS.bnd H
     try dsimp only at H
     try simp -implicitDefEqProofs (maxSteps := 999999) [-selQ_sel,h_1,h_2,h_4,h_6,h_8,h_9]
     have hr := (HS.some H).symm; subst hr
     refine Hid.mk ⟨⟨[(2,AV.optr 1 0 37)],[(0,Ob.box [AV.fsl (List.map eS w45.parts),AV.bool w45.bad]),(1,Ob.box [AV.int .i64 2,AV.int .i64 0,AV.int .i64 0,AV.bool false,AV.int .i64 0,AV.int .i64 0,AV.int .i64 0,AV.int .i64 0,AV.int .i64 0,AV.int .i64 0,AV.osl 2 0 0 0,AV.osl 3 0 0 0,AV.bool false,AV.int .i64 0,AV.nilsl,AV.int .i64 0,AV.int .i64 0,AV.int .i64 0,AV.int .i64 0,AV.int .i64 0,AV.int .i64 0,AV.int .i64 0,AV.int .i64 0,AV.int .i64 0,AV.int .i64 0,AV.int .i64 0,AV.int .i64 0,AV.int .i64 0,AV.int .i64 0,AV.int .i64 0,AV.nilsl,AV.nilsl,AV.int .i64 w44,AV.int .i64 0,AV.int .i64 0,AV.int .i64 0,AV.int .i64 0]),(2,Ob.arr 1 (List.map (AV.int .i64) []) false),(3,Ob.arr 2 (List.map ePoint []) false)],4⟩,Wk.ofk [0,1,3,4] hk (by rfl) (by simp -implicitDefEqProofs [h_1,h_2,h_4,h_6,h_8,h_9]) (by simp -implicitDefEqProofs [h_1,h_2,h_4,h_6,h_8,h_9]),?_⟩
     try simp -implicitDefEqProofs (maxSteps := 999999) [-selQ_sel,h_1,h_2,h_4,h_6,h_8,h_9]
    ·replace H := HS.cnd_f h_8 H
     try simp -implicitDefEqProofs (maxSteps := 999999) [-selQ_sel,h_1,h_2,h_4,h_6,h_8]
     refine Hid.brV (fun h_10 => ?_) (fun h_10 => ?_)
     ·replace H := HS.cnd_t h_10 H
      try simp -implicitDefEqProofs (maxSteps := 999999) [-selQ_sel,h_1,h_2,h_4,h_6,h_8,h_10]
      obtain ⟨⟨w47,w48⟩,h_11,H⟩ := HS.bnd H
      try dsimp only at H
      try simp -implicitDefEqProofs (maxSteps := 999999) [-selQ_sel,h_1,h_2,h_4,h_6,h_8,h_10,h_11]
      obtain ⟨⟨w50,w51⟩,h_12,H⟩ := HS.bnd H
      try dsimp only at H
      try simp -implicitDefEqProofs (maxSteps := 999999) [-selQ_sel,h_1,h_2,h_4,h_6,h_8,h_10,h_11,h_12]
      obtain ⟨⟨w53,w54⟩,h_13,H⟩ := HS.bnd H
      try dsimp only at H
      try simp -implicitDefEqProofs (maxSteps := 999999) [-selQ_sel,h_1,h_2,h_4,h_6,h_8,h_10,h_11,h_12,h_13]
      have hr := (HS.some H).symm; subst hr
      refine Hid.mk ⟨⟨[(2,AV.optr 1 0 37)],[(0,Ob.box [AV.fsl (List.map eS w54.parts),AV.bool w54.bad]),(1,Ob.box [AV.int .i64 3,AV.int .i64 0,AV.int .i64 0,AV.bool false,AV.int .i64 0,AV.int .i64 0,AV.int .i64 0,AV.int .i64 0,AV.int .i64 0,AV.int .i64 0,AV.osl 2 0 0 0,AV.osl 3 0 0 0,AV.bool false,AV.int .i64 0,AV.nilsl,AV.int .i64 0,AV.int .i64 0,AV.int .i64 0,AV.int .i64 0,AV.int .i64 0,AV.int .i64 0,AV.int .i64 0,AV.int .i64 0,AV.int .i64 0,AV.int .i64 0,AV.int .i64 0,AV.int .i64 0,AV.int .i64 0,AV.int .i64 0,AV.int .i64 0,AV.nilsl,AV.nilsl,AV.int .i64 w47,AV.int .i64 w50,AV.int .i64 w53,AV.int .i64 0,AV.int .i64 0]),(2,Ob.arr 1 (List.map (AV.int .i64) []) false),(3,Ob.arr 2 (List.map ePoint []) false)],4⟩,Wk.ofk [0,1,3,4] hk (by rfl) (by simp -implicitDefEqProofs [h_1,h_2,h_4,h_6,h_8,h_10,h_11,h_12,h_13]) (by simp -implicitDefEqProofs [h_1,h_2,h_4,h_6,h_8,h_10,h_11,h_12,h_13]),?_⟩
      try simp -implicitDefEqProofs (maxSteps := 999999) [-selQ_sel,h_1,h_2,h_4,h_6,h_8,h_10,h_11,h_12,h_13]
     ·replace H := HS.cnd_f h_10 H
      try simp -implicitDefEqProofs (maxSteps := 999999) [-selQ_sel,h_1,h_2,h_4,h_6,h_8,h_10]
      refine Hid.brV (fun h_14 => ?_) (fun h_14 => ?_)
      ·replace H := HS.cnd_t h_14 H
       try simp -implicitDefEqProofs (maxSteps := 999999) [-selQ_sel,h_1,h_2,h_4,h_6,h_8,h_10,h_14]
       have hr := (HS.some H).symm; subst hr
       refine Hid.mk ⟨⟨[(2,AV.optr 1 0 37)],[(0,Ob.box [AV.fsl (List.map eS w3.parts),AV.bool w3.bad]),(1,Ob.box [AV.int .i64 5,AV.int .i64 0,AV.int .i64 0,AV.bool false,AV.int .i64 0,AV.int .i64 0,AV.int .i64 0,AV.int .i64 0,AV.int .i64 0,AV.int .i64 0,AV.osl 2 0 0 0,AV.osl 3 0 0 0,AV.bool false,AV.int .i64 0,AV.nilsl,AV.int .i64 0,AV.int .i64 0,AV.int .i64 0,AV.int .i64 0,AV.int .i64 0,AV.int .i64 0,AV.int .i64 0,AV.int .i64 0,AV.int .i64 0,AV.int .i64 0,AV.int .i64 0,AV.int .i64 0,AV.int .i64 0,AV.int .i64 0,AV.int .i64 0,AV.nilsl,AV.nilsl,AV.int .i64 0,AV.int .i64 0,AV.int .i64 0,AV.int .i64 0,AV.int .i64 0]),(2,Ob.arr 1 (List.map (AV.int .i64) []) false),(3,Ob.arr 2 (List.map ePoint []) false)],4⟩,Wk.ofk [0,1,3,4] hk (by rfl) (by simp -implicitDefEqProofs [h_1,h_2,h_4,h_6,h_8,h_10,h_14]) (by simp -implicitDefEqProofs [h_1,h_2,h_4,h_6,h_8,h_10,h_14]),?_⟩
       try simp -implicitDefEqProofs (maxSteps := 999999) [-selQ_sel,h_1,h_2,h_4,h_6,h_8,h_10,h_14]
      ·replace H := HS.cnd_f h_14 H
       try simp -implicitDefEqProofs (maxSteps := 999999) [-selQ_sel,h_1,h_2,h_4,h_6,h_8,h_10,h_14]
       refine Hid.brV (fun h_15 => ?_) (fun h_15 => ?_)
       ·replace H := HS.cnd_t h_15 H
        try simp -implicitDefEqProofs (maxSteps := 999999) [-selQ_sel,h_1,h_2,h_4,h_6,h_8,h_10,h_14,h_15]
        refine Hid.brV (fun h_16 => ?_) (fun h_16 => ?_)
        ·replace H := HS.cnd_t h_16 H
         try simp -implicitDefEqProofs (maxSteps := 999999) [-selQ_sel,h_1,h_2,h_4,h_6,h_8,h_10,h_14,h_15,h_16]
         obtain ⟨⟨w56,w57⟩,h_17,H⟩ := HS.bnd H
         try dsimp only at H
         try simp -implicitDefEqProofs (maxSteps := 999999) [-selQ_sel,h_1,h_2,h_4,h_6,h_8,h_10,h_14,h_15,h_16,h_17]
         obtain ⟨⟨w59,w60⟩,h_18,H⟩ := HS.bnd H
         try dsimp only at H
         try simp -implicitDefEqProofs (maxSteps := 999999) [-selQ_sel,h_1,h_2,h_4,h_6,h_8,h_10,h_14,h_15,h_16,h_17,h_18]
         have hr := (HS.some H).symm; subst hr
         refine Hid.mk ⟨⟨[(2,AV.optr 1 0 37)],[(0,Ob.box [AV.fsl (List.map eS w60.parts),AV.bool w60.bad]),(1,Ob.box [AV.int .i64 7,AV.int .i64 0,AV.int .i64 0,AV.bool false,AV.int .i64 0,AV.int .i64 0,AV.int .i64 0,AV.int .i64 0,AV.int .i64 0,AV.int .i64 0,AV.osl 2 0 0 0,AV.osl 3 0 0 0,AV.bool false,AV.int .i64 0,AV.nilsl,AV.int .i64 0,AV.int .i64 0,AV.int .i64 0,AV.int .i64 0,AV.int .i64 0,AV.int .i64 0,AV.int .i64 0,AV.int .i64 0,AV.int .i64 0,AV.int .i64 0,AV.int .i64 0,AV.int .i64 0,AV.int .i64 0,AV.int .i64 0,AV.int .i64 0,AV.nilsl,AV.nilsl,AV.int .i64 0,AV.int .i64 0,AV.int .i64 0,AV.int .i64 w56,AV.int .i64 w59]),(2,Ob.arr 1 (List.map (AV.int .i64) []) false),(3,Ob.arr 2 (List.map ePoint []) false)],4⟩,Wk.ofk [0,1,3,4] hk (by rfl) (by simp -implicitDefEqProofs [h_1,h_2,h_4,h_6,h_8,h_10,h_14,h_15,h_16,h_17,h_18]) (by simp -implicitDefEqProofs [h_1,h_2,h_4,h_6,h_8,h_10,h_14,h_15,h_16,h_17,h_18]),?_⟩
         try simp -implicitDefEqProofs (maxSteps := 999999) [-selQ_sel,h_1,h_2,h_4,h_6,h_8,h_10,h_14,h_15,h_16,h_17,h_18]
        ·replace H := HS.cnd_f h_16 H
         try simp -implicitDefEqProofs (maxSteps := 999999) [-selQ_sel,h_1,h_2,h_4,h_6,h_8,h_10,h_14,h_15,h_16]
         obtain ⟨⟨w62,w63⟩,h_19,H⟩ := HS.bnd H
         try dsimp only at H
         try simp -implicitDefEqProofs (maxSteps := 999999) [-selQ_sel,h_1,h_2,h_4,h_6,h_8,h_10,h_14,h_15,h_16,h_19]
         obtain ⟨⟨w65,w66⟩,h_20,H⟩ := HS.bnd H
         try dsimp only at H
         try simp -implicitDefEqProofs (maxSteps := 999999) [-selQ_sel,h_1,h_2,h_4,h_6,h_8,h_10,h_14,h_15,h_16,h_19,h_20]
         have hr := (HS.some H).symm; subst hr
         refine Hid.mk ⟨⟨[(2,AV.optr 1 0 37)],[(0,Ob.box [AV.fsl (List.map eS w66.parts),AV.bool w66.bad]),(1,Ob.box [AV.int .i64 6,AV.int .i64 0,AV.int .i64 0,AV.bool false,AV.int .i64 0,AV.int .i64 0,AV.int .i64 0,AV.int .i64 0,AV.int .i64 0,AV.int .i64 0,AV.osl 2 0 0 0,AV.osl 3 0 0 0,AV.bool false,AV.int .i64 0,AV.nilsl,AV.int .i64 0,AV.int .i64 0,AV.int .i64 0,AV.int .i64 0,AV.int .i64 0,AV.int .i64 0,AV.int .i64 0,AV.int .i64 0,AV.int .i64 0,AV.int .i64 0,AV.int .i64 0,AV.int .i64 0,AV.int .i64 0,AV.int .i64 0,AV.int .i64 0,AV.nilsl,AV.nilsl,AV.int .i64 0,AV.int .i64 0,AV.int .i64 0,AV.int .i64 w62,AV.int .i64 w65]),(2,Ob.arr 1 (List.map (AV.int .i64) []) false),(3,Ob.arr 2 (List.map ePoint []) false)],4⟩,Wk.ofk [0,1,3,4] hk (by rfl) (by simp -implicitDefEqProofs [h_1,h_2,h_4,h_6,h_8,h_10,h_14,h_15,h_16,h_19,h_20]) (by simp -implicitDefEqProofs [h_1,h_2,h_4,h_6,h_8,h_10,h_14,h_15,h_16,h_19,h_20]),?_⟩
         try simp -implicitDefEqProofs (maxSteps := 999999) [-selQ_sel,h_1,h_2,h_4,h_6,h_8,h_10,h_14,h_15,h_16,h_19,h_20]
       ·replace H := HS.cnd_f h_15 H
        try simp -implicitDefEqProofs (maxSteps := 999999) [-selQ_sel,h_1,h_2,h_4,h_6,h_8,h_10,h_14,h_15]
        refine Hid.brV (fun h_21 => ?_) (fun h_21 => ?_)
        ·replace H := HS.cnd_t h_21 H
         try simp -implicitDefEqProofs (maxSteps := 999999) [-selQ_sel,h_1,h_2,h_4,h_6,h_8,h_10,h_14,h_15,h_21]
         obtain ⟨⟨w68,w69⟩,h_22,H⟩ := HS.bnd H
         try dsimp only at H
         try simp -implicitDefEqProofs (maxSteps := 999999) [-selQ_sel,h_1,h_2,h_4,h_6,h_8,h_10,h_14,h_15,h_21,h_22]
         obtain ⟨⟨w71,w72⟩,h_23,H⟩ := HS.bnd H
         try dsimp only at H
         try simp -implicitDefEqProofs (maxSteps := 999999) [-selQ_sel,h_1,h_2,h_4,h_6,h_8,h_10,h_14,h_15,h_21,h_22,h_23]
         have hr := (HS.some H).symm; subst hr
         refine Hid.mk ⟨⟨[(2,AV.optr 1 0 37)],[(0,Ob.box [AV.fsl (List.map eS w72.parts),AV.bool w72.bad]),(1,Ob.box [AV.int .i64 7,AV.int .i64 0,AV.int .i64 0,AV.bool false,AV.int .i64 0,AV.int .i64 0,AV.int .i64 0,AV.int .i64 0,AV.int .i64 0,AV.int .i64 0,AV.osl 2 0 0 0,AV.osl 3 0 0 0,AV.bool false,AV.int .i64 0,AV.nilsl,AV.int .i64 0,AV.int .i64 0,AV.int .i64 0,AV.int .i64 0,AV.int .i64 0,AV.int .i64 0,AV.int .i64 0,AV.int .i64 0,AV.int .i64 0,AV.int .i64 0,AV.int .i64 0,AV.int .i64 0,AV.int .i64 0,AV.int .i64 0,AV.int .i64 0,AV.nilsl,AV.nilsl,AV.int .i64 0,AV.int .i64 0,AV.int .i64 0,AV.int .i64 w68,AV.int .i64 w71]),(2,Ob.arr 1 (List.map (AV.int .i64) []) false),(3,Ob.arr 2 (List.map ePoint []) false)],4⟩,Wk.ofk [0,1,3,4] hk (by rfl) (by simp -implicitDefEqProofs [h_1,h_2,h_4,h_6,h_8,h_10,h_14,h_15,h_21,h_22,h_23]) (by simp -implicitDefEqProofs [h_1,h_2,h_4,h_6,h_8,h_10,h_14,h_15,h_21,h_22,h_23]),?_⟩
         try simp -implicitDefEqProofs (maxSteps := 999999) [-selQ_sel,h_1,h_2,h_4,h_6,h_8,h_10,h_14,h_15,h_21,h_22,h_23]
        ·replace H := HS.cnd_f h_21 H
         try simp -implicitDefEqProofs (maxSteps := 999999) [-selQ_sel,h_1,h_2,h_4,h_6,h_8,h_10,h_14,h_15,h_21]
         have hr := (HS.some H).symm; subst hr
         refine Hid.mk ⟨⟨[(2,AV.optr 1 0 37)],[(0,Ob.box [AV.fsl (List.map eS w3.parts),AV.bool true]),(1,Ob.box [AV.int .i64 0,AV.int .i64 0,AV.int .i64 0,AV.bool false,AV.int .i64 0,AV.int .i64 0,AV.int .i64 0,AV.int .i64 0,AV.int .i64 0,AV.int .i64 0,AV.osl 2 0 0 0,AV.osl 3 0 0 0,AV.bool false,AV.int .i64 0,AV.nilsl,AV.int .i64 0,AV.int .i64 0,AV.int .i64 0,AV.int .i64 0,AV.int .i64 0,AV.int .i64 0,AV.int .i64 0,AV.int .i64 0,AV.int .i64 0,AV.int .i64 0,AV.int .i64 0,AV.int .i64 0,AV.int .i64 0,AV.int .i64 0,AV.int .i64 0,AV.nilsl,AV.nilsl,AV.int .i64 0,AV.int .i64 0,AV.int .i64 0,AV.int .i64 0,AV.int .i64 0]),(2,Ob.arr 1 (List.map (AV.int .i64) []) false),(3,Ob.arr 2 (List.map ePoint []) false)],4⟩,Wk.ofk [0,1,3,4] hk (by rfl) (by simp -implicitDefEqProofs [h_1,h_2,h_4,h_6,h_8,h_10,h_14,h_15,h_21]) (by simp -implicitDefEqProofs [h_1,h_2,h_4,h_6,h_8,h_10,h_14,h_15,h_21]),?_⟩
         try simp -implicitDefEqProofs (maxSteps := 999999) [-selQ_sel,h_1,h_2,h_4,h_6,h_8,h_10,h_14,h_15,h_21]
theorem spec_l24Create_ok0 (hm : Tryd.prog.follows .mixedOrders = true) (k_spec_l24Nums : Sound Tryd.prog 23 spec_l24Nums_x) (k_spec_Still : Sound Tryd.prog 31 spec_Still_x) (k_spec_Shift : Sound Tryd.prog 32 spec_Shift_x) (k_spec_l24Plain : Sound Tryd.prog 33 spec_l24Plain_x) (k_spec_RectPath : Sound Tryd.prog 34 spec_RectPath_x) : Sound Tryd.prog 22 spec_l24Create_x := by
 refine xOf_sound fun q r h => ?_
 revert h; revert r; revert q; intro a0 r h
 refine fn_ok E0 hm Tryd.func22 rfl (by decide +kernel) (by rfl) fun Γ hn hk => ?_
 dsimp only [spec_l24Create_e,spec_l24Create_v]
 replace hn : Γ.n = 131 := hn
 replace hk : Γ.k = 0 := hk
 have H : HS (spec_l24Create a0) r := h
 clear h; unfold spec_l24Create at H
 try simp -implicitDefEqProofs at H
 refine Tr.of_vc (cl := tabC [(23,spec_l24Nums_x),(31,spec_Still_x),(32,spec_Shift_x),(33,spec_l24Plain_x),(34,spec_RectPath_x)]) (E := E0) [] (tab_cons k_spec_l24Nums (tab_cons k_spec_Still (tab_cons k_spec_Shift (tab_cons k_spec_l24Plain (tab_cons k_spec_RectPath tab_nil))))) hm (by rw [hn]; decide +kernel) ?_
 try simp -implicitDefEqProofs +decide (maxSteps := 999999) [-selQ_sel,hokQ_of]
 obtain ⟨q,h_1,H⟩ := HS.bnd H
 refine Hid.mk (Tr.weak (s' := (spec_l24Create_l0_S a0) 0) (Wk.ofk [0,1,2,3] hk (by rfl) (by simp -implicitDefEqProofs [spec_l24Create_l0_S]) (by simp -implicitDefEqProofs [spec_l24Create_l0_S])) ?_)
 refine wp_loop_of (S := (spec_l24Create_l0_S a0)) (f := (spec_l24Create_l0 a0)) (xt := (spec_l24Create_l0_X a0)) ?_ ?_ h_1 ?_
 ·intro q; rcases q with ⟨⟩ | ⟨y43,y44,y45,y46,y47,y48,y49,y50,y51,y52,y53,y54,y55,y56,y57,y58,y59,y60,y61,y62,y63,y64,y65,y66,y67,y68,y69,y70,y71⟩ <;> simp [spec_l24Create_l0_X]
 ·clear H h_1 q
  rintro x12 o R hf hR
  have H : HS (spec_l24Create_l0 a0 x12) o := hf
  clear hf; unfold spec_l24Create_l0 at H
  try simp -implicitDefEqProofs at H
  refine Tr.of_vc (cl := tabC [(23,spec_l24Nums_x),(31,spec_Still_x),(32,spec_Shift_x),(33,spec_l24Plain_x),(34,spec_RectPath_x)]) (E := E0) [] (tab_cons k_spec_l24Nums (tab_cons k_spec_Still (tab_cons k_spec_Shift (tab_cons k_spec_l24Plain (tab_cons k_spec_RectPath tab_nil))))) hm (by rw [hn]; decide +kernel) ?_
  try simp -implicitDefEqProofs +decide (maxSteps := 999999) [-selQ_sel,hokQ_of,spec_l24Create_l0_S]
  refine Hid.brV (fun h_2 => ?_) (fun h_2 => ?_)
  ·replace H := HS.cnd_t h_2 H
   try simp -implicitDefEqProofs +decide (maxSteps := 999999) [-selQ_sel,hokQ_of,h_2]
   have hr := (HS.some H).symm; subst hr
   exact Hid.mk ⟨(spec_l24Create_l0_X a0 (.inl ())).2,Wk.ofk [0] hk (by rfl) (by simp -implicitDefEqProofs [spec_l24Create_l0_X,h_2]) (by simp -implicitDefEqProofs [spec_l24Create_l0_X,h_2]),hR⟩
  ·replace H := HS.cnd_f h_2 H
   try simp -implicitDefEqProofs +decide (maxSteps := 999999) [-selQ_sel,hokQ_of,h_2]
   obtain ⟨v13,h_3,H⟩ := HS.bnd H
   try simp -implicitDefEqProofs +decide (maxSteps := 999999) [-selQ_sel,hokQ_of,h_2,h_3]
   obtain ⟨v14,h_4,H⟩ := HS.bnd H
   have g_5 := idx_get h_4
   have g_6 := idx_map (e := eS) h_4
   have g_7 := idx_get g_6
   simp -implicitDefEqProofs at g_6 g_7
   try simp -implicitDefEqProofs +decide (maxSteps := 999999) [-selQ_sel,hokQ_of,h_2,h_3,h_4,g_5,g_6,g_7]
   refine Hid.selQ (fun h_8 => ?_) (fun h_8 => ?_)
   ·replace H := HS.cnd_t h_8 H
    try simp -implicitDefEqProofs +decide (maxSteps := 999999) [-selQ_sel,hokQ_of,h_2,h_3,h_4,g_5,g_6,g_7,h_8]
    obtain ⟨v15,h_9,H⟩ := HS.bnd H
    have g_10 := idx_get h_9
    have g_11 := idx_map (e := (AV.int .i64)) h_9
    have g_12 := idx_get g_11
    simp -implicitDefEqProofs at g_11 g_12
    try simp -implicitDefEqProofs +decide (maxSteps := 999999) [-selQ_sel,hokQ_of,h_2,h_3,h_4,g_5,g_6,g_7,h_8,h_9,g_10,g_11,g_12]
    refine Hid.brV (fun h_13 => ?_) (fun h_13 => ?_)
    ·replace H := HS.cnd_t h_13 H
     try simp -implicitDefEqProofs +decide (maxSteps := 999999) [-selQ_sel,hokQ_of,h_2,h_3,h_4,g_5,g_6,g_7,h_8,h_9,g_10,g_11,g_12,h_13]
     obtain ⟨v16,h_14,H⟩ := HS.bnd H
     have g_15 := idx_get h_14
     have g_16 := idx_map (e := (AV.int .i64)) h_14
     have g_17 := idx_get g_16
     simp -implicitDefEqProofs at g_16 g_17
     try simp -implicitDefEqProofs +decide (maxSteps := 999999) [-selQ_sel,hokQ_of,h_2,h_3,h_4,g_5,g_6,g_7,h_8,h_9,g_10,g_11,g_12,h_13,h_14,g_15,g_16,g_17]
     obtain ⟨⟨w18,w19⟩,h_18,H⟩ := HS.bnd H
     try dsimp only at H
     try simp -implicitDefEqProofs +decide (maxSteps := 999999) [-selQ_sel,hokQ_of,h_2,h_3,h_4,g_5,g_6,g_7,h_8,h_9,g_10,g_11,g_12,h_13,h_14,g_15,g_16,g_17,h_18]
     refine Hid.brV (fun h_19 => ?_) (fun h_19 => ?_)
     ·replace H := HS.cnd_t h_19 H
      try simp -implicitDefEqProofs +decide (maxSteps := 999999) [-selQ_sel,hokQ_of,h_2,h_3,h_4,g_5,g_6,g_7,h_8,h_9,g_10,g_11,g_12,h_13,h_14,g_15,g_16,g_17,h_18,h_19]
      obtain ⟨v20,h_20,H⟩ := HS.bnd H
      try simp -implicitDefEqProofs +decide (maxSteps := 999999) [-selQ_sel,hokQ_of,h_2,h_3,h_4,g_5,g_6,g_7,h_8,h_9,g_10,g_11,g_12,h_13,h_14,g_15,g_16,g_17,h_18,h_19,h_20]
      obtain ⟨v21,h_21,H⟩ := HS.bnd H
      try simp -implicitDefEqProofs +decide (maxSteps := 999999) [-selQ_sel,hokQ_of,h_2,h_3,h_4,g_5,g_6,g_7,h_8,h_9,g_10,g_11,g_12,h_13,h_14,g_15,g_16,g_17,h_18,h_19,h_20,h_21]
      obtain ⟨v22,h_22,H⟩ := HS.bnd H
      try simp -implicitDefEqProofs +decide (maxSteps := 999999) [-selQ_sel,hokQ_of,h_2,h_3,h_4,g_5,g_6,g_7,h_8,h_9,g_10,g_11,g_12,h_13,h_14,g_15,g_16,g_17,h_18,h_19,h_20,h_21,h_22]
      refine Hid.brV (fun h_23 => ?_) (fun h_23 => ?_)
      ·replace H := HS.cnd_t h_23 H
       try simp -implicitDefEqProofs +decide (maxSteps := 999999) [-selQ_sel,hokQ_of,h_2,h_3,h_4,g_5,g_6,g_7,h_8,h_9,g_10,g_11,g_12,h_13,h_14,g_15,g_16,g_17,h_18,h_19,h_20,h_21,h_22,h_23]
       obtain ⟨v23,h_24,H⟩ := HS.bnd H
       try simp -implicitDefEqProofs +decide (maxSteps := 999999) [-selQ_sel,hokQ_of,h_2,h_3,h_4,g_5,g_6,g_7,h_8,h_9,g_10,g_11,g_12,h_13,h_14,g_15,g_16,g_17,h_18,h_19,h_20,h_21,h_22,h_23,h_24]
       obtain ⟨v24,h_25,H⟩ := HS.bnd H
       try simp -implicitDefEqProofs +decide (maxSteps := 999999) [-selQ_sel,hokQ_of,h_2,h_3,h_4,g_5,g_6,g_7,h_8,h_9,g_10,g_11,g_12,h_13,h_14,g_15,g_16,g_17,h_18,h_19,h_20,h_21,h_22,h_23,h_24,h_25]
       obtain ⟨v25,h_26,H⟩ := HS.bnd H
       try simp -implicitDefEqProofs +decide (maxSteps := 999999) [-selQ_sel,hokQ_of,h_2,h_3,h_4,g_5,g_6,g_7,h_8,h_9,g_10,g_11,g_12,h_13,h_14,g_15,g_16,g_17,h_18,h_19,h_20,h_21,h_22,h_23,h_24,h_25,h_26]
       obtain ⟨v26,h_27,H⟩ := HS.bnd H
       try simp -implicitDefEqProofs +decide (maxSteps := 999999) [-selQ_sel,hokQ_of,h_2,h_3,h_4,g_5,g_6,g_7,h_8,h_9,g_10,g_11,g_12,h_13,h_14,g_15,g_16,g_17,h_18,h_19,h_20,h_21,h_22,h_23,h_24,h_25,h_26,h_27]
       have hr := (HS.some H).symm; subst hr
       exact Hid.mk ⟨(spec_l24Create_l0_X a0 (.inr (v20,v21,v25.a,v25.b,v25.c,v25.d,v25.e,v25.f,v26,true,true,[],[],0,0,0,0,0,0,0,0,0,0,0,0,0,0,1,1))).2,Wk.ofk [0,5,6] hk (by rfl) (by simp -implicitDefEqProofs [spec_l24Create_l0_X,h_2,h_3,h_4,g_5,g_6,g_7,h_8,h_9,g_10,g_11,g_12,h_13,h_14,g_15,g_16,g_17,h_18,h_19,h_20,h_21,h_22,h_23,h_24,h_25,h_26,h_27]) (by simp -implicitDefEqProofs [spec_l24Create_l0_X,h_2,h_3,h_4,g_5,g_6,g_7,h_8,h_9,g_10,g_11,g_12,h_13,h_14,g_15,g_16,g_17,h_18,h_19,h_20,h_21,h_22,h_23,h_24,h_25,h_26,h_27]),hR⟩
      ·replace H := HS.cnd_f h_23 H
       try simp -implicitDefEqProofs +decide (maxSteps := 999999) [-selQ_sel,hokQ_of,h_2,h_3,h_4,g_5,g_6,g_7,h_8,h_9,g_10,g_11,g_12,h_13,h_14,g_15,g_16,g_17,h_18,h_19,h_20,h_21,h_22,h_23]
       obtain ⟨v27,h_28,H⟩ := HS.bnd H
       try simp -implicitDefEqProofs +decide (maxSteps := 999999) [-selQ_sel,hokQ_of,h_2,h_3,h_4,g_5,g_6,g_7,h_8,h_9,g_10,g_11,g_12,h_13,h_14,g_15,g_16,g_17,h_18,h_19,h_20,h_21,h_22,h_23,h_28]
       obtain ⟨⟨w29,w30⟩,h_29,H⟩ := HS.bnd H
       try dsimp only at H
       try simp -implicitDefEqProofs +decide (maxSteps := 999999) [-selQ_sel,hokQ_of,h_2,h_3,h_4,g_5,g_6,g_7,h_8,h_9,g_10,g_11,g_12,h_13,h_14,g_15,g_16,g_17,h_18,h_19,h_20,h_21,h_22,h_23,h_28,h_29]
       refine Hid.brV (fun h_30 => ?_) (fun h_30 => ?_)
       ·replace H := HS.cnd_t h_30 H
        try simp -implicitDefEqProofs +decide (maxSteps := 999999) [-selQ_sel,hokQ_of,h_2,h_3,h_4,g_5,g_6,g_7,h_8,h_9,g_10,g_11,g_12,h_13,h_14,g_15,g_16,g_17,h_18,h_19,h_20,h_21,h_22,h_23,h_28,h_29,h_30]
        obtain ⟨v31,h_31,H⟩ := HS.bnd H
        try simp -implicitDefEqProofs +decide (maxSteps := 999999) [-selQ_sel,hokQ_of,h_2,h_3,h_4,g_5,g_6,g_7,h_8,h_9,g_10,g_11,g_12,h_13,h_14,g_15,g_16,g_17,h_18,h_19,h_20,h_21,h_22,h_23,h_28,h_29,h_30,h_31]
        obtain ⟨v32,h_32,H⟩ := HS.bnd H
        try simp -implicitDefEqProofs +decide (maxSteps := 999999) [-selQ_sel,hokQ_of,h_2,h_3,h_4,g_5,g_6,g_7,h_8,h_9,g_10,g_11,g_12,h_13,h_14,g_15,g_16,g_17,h_18,h_19,h_20,h_21,h_22,h_23,h_28,h_29,h_30,h_31,h_32]
        obtain ⟨v33,h_33,H⟩ := HS.bnd H
        try simp -implicitDefEqProofs +decide (maxSteps := 999999) [-selQ_sel,hokQ_of,h_2,h_3,h_4,g_5,g_6,g_7,h_8,h_9,g_10,g_11,g_12,h_13,h_14,g_15,g_16,g_17,h_18,h_19,h_20,h_21,h_22,h_23,h_28,h_29,h_30,h_31,h_32,h_33]
        obtain ⟨v34,h_34,H⟩ := HS.bnd H
        try simp -implicitDefEqProofs +decide (maxSteps := 999999) [-selQ_sel,hokQ_of,h_2,h_3,h_4,g_5,g_6,g_7,h_8,h_9,g_10,g_11,g_12,h_13,h_14,g_15,g_16,g_17,h_18,h_19,h_20,h_21,h_22,h_23,h_28,h_29,h_30,h_31,h_32,h_33,h_34]
        obtain ⟨⟨w36,w37⟩,h_35,H⟩ := HS.bnd H
        try dsimp only at H
        try simp -implicitDefEqProofs +decide (maxSteps := 999999) [-selQ_sel,hokQ_of,h_2,h_3,h_4,g_5,g_6,g_7,h_8,h_9,g_10,g_11,g_12,h_13,h_14,g_15,g_16,g_17,h_18,h_19,h_20,h_21,h_22,h_23,h_28,h_29,h_30,h_31,h_32,h_33,h_34,h_35]
        have hr := (HS.some H).symm; subst hr
        exact Hid.mk ⟨(spec_l24Create_l0_X a0 (.inr (v20,v21,v22.a,v22.b,v22.c,v22.d,v22.e,v22.f,255,w30,false,w36,w37,w29.kind,w29.first.r,w29.first.g,w29.first.b,w29.first.a,w29.last.r,w29.last.g,w29.last.b,w29.last.a,w29.from_.x,w29.from_.y,w29.to.x,w29.to.y,0,1,1))).2,Wk.ofk [0,6,7] hk (by rfl) (by simp -implicitDefEqProofs [spec_l24Create_l0_X,h_2,h_3,h_4,g_5,g_6,g_7,h_8,h_9,g_10,g_11,g_12,h_13,h_14,g_15,g_16,g_17,h_18,h_19,h_20,h_21,h_22,h_23,h_28,h_29,h_30,h_31,h_32,h_33,h_34,h_35]) (by simp -implicitDefEqProofs [spec_l24Create_l0_X,h_2,h_3,h_4,g_5,g_6,g_7,h_8,h_9,g_10,g_11,g_12,h_13,h_14,g_15,g_16,g_17,h_18,h_19,h_20,h_21,h_22,h_23,h_28,h_29,h_30,h_31,h_32,h_33,h_34,h_35]),hR⟩
       ·replace H := HS.cnd_f h_30 H
        try simp -implicitDefEqProofs +decide (maxSteps := 999999) [-selQ_sel,hokQ_of,h_2,h_3,h_4,g_5,g_6,g_7,h_8,h_9,g_10,g_11,g_12,h_13,h_14,g_15,g_16,g_17,h_18,h_19,h_20,h_21,h_22,h_23,h_28,h_29,h_30]
        obtain ⟨v38,h_36,H⟩ := HS.bnd H
        try simp -implicitDefEqProofs +decide (maxSteps := 999999) [-selQ_sel,hokQ_of,h_2,h_3,h_4,g_5,g_6,g_7,h_8,h_9,g_10,g_11,g_12,h_13,h_14,g_15,g_16,g_17,h_18,h_19,h_20,h_21,h_22,h_23,h_28,h_29,h_30,h_36]
        obtain ⟨v39,h_37,H⟩ := HS.bnd H
        try simp -implicitDefEqProofs +decide (maxSteps := 999999) [-selQ_sel,hokQ_of,h_2,h_3,h_4,g_5,g_6,g_7,h_8,h_9,g_10,g_11,g_12,h_13,h_14,g_15,g_16,g_17,h_18,h_19,h_20,h_21,h_22,h_23,h_28,h_29,h_30,h_36,h_37]
        obtain ⟨v40,h_38,H⟩ := HS.bnd H
        try simp -implicitDefEqProofs +decide (maxSteps := 999999) [-selQ_sel,hokQ_of,h_2,h_3,h_4,g_5,g_6,g_7,h_8,h_9,g_10,g_11,g_12,h_13,h_14,g_15,g_16,g_17,h_18,h_19,h_20,h_21,h_22,h_23,h_28,h_29,h_30,h_36,h_37,h_38]
        obtain ⟨v41,h_39,H⟩ := HS.bnd H
        try simp -implicitDefEqProofs +decide (maxSteps := 999999) [-selQ_sel,hokQ_of,h_2,h_3,h_4,g_5,g_6,g_7,h_8,h_9,g_10,g_11,g_12,h_13,h_14,g_15,g_16,g_17,h_18,h_19,h_20,h_21,h_22,h_23,h_28,h_29,h_30,h_36,h_37,h_38,h_39]
        obtain ⟨v42,h_40,H⟩ := HS.bnd H
        try simp -implicitDefEqProofs +decide (maxSteps := 999999) [-selQ_sel,hokQ_of,h_2,h_3,h_4,g_5,g_6,g_7,h_8,h_9,g_10,g_11,g_12,h_13,h_14,g_15,g_16,g_17,h_18,h_19,h_20,h_21,h_22,h_23,h_28,h_29,h_30,h_36,h_37,h_38,h_39,h_40]
        have hr := (HS.some H).symm; subst hr
        exact Hid.mk ⟨(spec_l24Create_l0_X a0 (.inr (v20,v21,v22.a,v22.b,v22.c,v22.d,v22.e,v22.f,255,w30,false,[1,2],[(TPoint.mk v38 v39),(TPoint.mk v40 v41)],w29.kind,w29.first.r,w29.first.g,w29.first.b,w29.first.a,w29.last.r,w29.last.g,w29.last.b,w29.last.a,w29.from_.x,w29.from_.y,w29.to.x,w29.to.y,v42,1,1))).2,Wk.ofk [0,6,7] hk (by rfl) (by simp -implicitDefEqProofs [spec_l24Create_l0_X,h_2,h_3,h_4,g_5,g_6,g_7,h_8,h_9,g_10,g_11,g_12,h_13,h_14,g_15,g_16,g_17,h_18,h_19,h_20,h_21,h_22,h_23,h_28,h_29,h_30,h_36,h_37,h_38,h_39,h_40]) (by simp -implicitDefEqProofs [spec_l24Create_l0_X,h_2,h_3,h_4,g_5,g_6,g_7,h_8,h_9,g_10,g_11,g_12,h_13,h_14,g_15,g_16,g_17,h_18,h_19,h_20,h_21,h_22,h_23,h_28,h_29,h_30,h_36,h_37,h_38,h_39,h_40]),hR⟩
     ·replace H := HS.cnd_f h_19 H
      try simp -implicitDefEqProofs +decide (maxSteps := 999999) [-selQ_sel,hokQ_of,h_2,h_3,h_4,g_5,g_6,g_7,h_8,h_9,g_10,g_11,g_12,h_13,h_14,g_15,g_16,g_17,h_18,h_19]
      have hr := (HS.some H).symm; subst hr
      exact Hid.mk ⟨(spec_l24Create_l0_X a0 (.inr (0,0,0,0,0,0,0,0,0,false,false,[],[],0,0,0,0,0,0,0,0,0,0,0,0,0,0,0,0))).2,Wk.ofk [0,4,5] hk (by rfl) (by simp -implicitDefEqProofs [spec_l24Create_l0_X,h_2,h_3,h_4,g_5,g_6,g_7,h_8,h_9,g_10,g_11,g_12,h_13,h_14,g_15,g_16,g_17,h_18,h_19]) (by simp -implicitDefEqProofs [spec_l24Create_l0_X,h_2,h_3,h_4,g_5,g_6,g_7,h_8,h_9,g_10,g_11,g_12,h_13,h_14,g_15,g_16,g_17,h_18,h_19]),hR⟩
    ·replace H := HS.cnd_f h_13 H
     try simp -implicitDefEqProofs +decide (maxSteps := 999999) [-selQ_sel,hokQ_of,h_2,h_3,h_4,g_5,g_6,g_7,h_8,h_9,g_10,g_11,g_12,h_13]
     have hr := (HS.some H).symm; subst hr
     exact Hid.mk ⟨spec_l24Create_l0_S a0 (IntKind.i64.wrap (x12 + 1)),Wk.ofk [0,1,2,3] hk (by rfl) (by simp -implicitDefEqProofs [spec_l24Create_l0_S,h_2,h_3,h_4,g_5,g_6,g_7,h_8,h_9,g_10,g_11,g_12,h_13]) (by simp -implicitDefEqProofs [spec_l24Create_l0_S,h_2,h_3,h_4,g_5,g_6,g_7,h_8,h_9,g_10,g_11,g_12,h_13]),hR⟩
   ·replace H := HS.cnd_f h_8 H
    try simp -implicitDefEqProofs +decide (maxSteps := 999999) [-selQ_sel,hokQ_of,h_2,h_3,h_4,g_5,g_6,g_7,h_8]
    have hr := (HS.some H).symm; subst hr
    exact Hid.mk ⟨spec_l24Create_l0_S a0 (IntKind.i64.wrap (x12 + 1)),Wk.ofk [0,1,2,3] hk (by rfl) (by simp -implicitDefEqProofs [spec_l24Create_l0_S,h_2,h_3,h_4,g_5,g_6,g_7,h_8]) (by simp -implicitDefEqProofs [spec_l24Create_l0_S,h_2,h_3,h_4,g_5,g_6,g_7,h_8]),hR⟩
 ·rcases q with ⟨⟩ | ⟨y43,y44,y45,y46,y47,y48,y49,y50,y51,y52,y53,y54,y55,y56,y57,y58,y59,y60,y61,y62,y63,y64,y65,y66,y67,y68,y69,y70,y71⟩
  ·dsimp only at H
   try simp -implicitDefEqProofs +decide (maxSteps := 999999) [-selQ_sel,hokQ_of,spec_l24Create_l0_X]
   have hr := (HS.some H).symm; subst hr
   refine Hid.mk ⟨_,Wk.refl _,?_⟩
   try simp -implicitDefEqProofs +decide (maxSteps := 999999) [-selQ_sel,hokQ_of]
  ·dsimp only at H
   try simp -implicitDefEqProofs +decide (maxSteps := 999999) [-selQ_sel,hokQ_of,spec_l24Create_l0_X]
   have hr := (HS.some H).symm; subst hr
   refine Hid.mk ⟨_,Wk.refl _,?_⟩
   try simp -implicitDefEqProofs +decide (maxSteps := 999999) [-selQ_sel,hokQ_of]
theorem spec_ReadScript_ok0 (hm : Tryd.prog.follows .mixedOrders = true) (k_spec_l24Lines : Sound Tryd.prog 9 spec_l24Lines_x) (k_spec_PartsOf : Sound Tryd.prog 10 spec_PartsOf_x) (k_spec_l24Deed : Sound Tryd.prog 11 spec_l24Deed_x) (k_spec_EngineNew : Sound Tryd.prog 12 spec_EngineNew_x) : Sound Tryd.prog 4 spec_ReadScript_x := by
 refine xOf_sound fun q r h => ?_
 revert h; revert r; revert q; intro a0 r h
 refine fn_ok E0 hm Tryd.func4 rfl (by decide +kernel) (by rfl) fun Γ hn hk => ?_
 dsimp only [spec_ReadScript_e,spec_ReadScript_v]
 replace hn : Γ.n = 117 := hn
 replace hk : Γ.k = 0 := hk
 have H : HS (spec_ReadScript a0) r := h
 clear h; unfold spec_ReadScript at H
 try simp -implicitDefEqProofs at H
 refine Tr.of_vc (cl := tabC [(9,spec_l24Lines_x),(10,spec_PartsOf_x),(11,spec_l24Deed_x),(12,spec_EngineNew_x)]) (E := E0) [] (tab_cons k_spec_l24Lines (tab_cons k_spec_PartsOf (tab_cons k_spec_l24Deed (tab_cons k_spec_EngineNew tab_nil)))) hm (by rw [hn]; decide +kernel) ?_
 try simp -implicitDefEqProofs (maxSteps := 999999) [-selQ_sel]
 refine Hid.selQ (fun h_1 => ?_) (fun h_1 => ?_)
 ·replace H := HS.cnd_t h_1 H
  try simp -implicitDefEqProofs (maxSteps := 999999) [-selQ_sel,h_1]
  obtain ⟨v1,h_2,H⟩ := HS.bnd H
  try simp -implicitDefEqProofs (maxSteps := 999999) [-selQ_sel,h_1,h_2]
  refine Hid.brV (fun h_3 => ?_) (fun h_3 => ?_)
  ·replace H := HS.cnd_t h_3 H
   try simp -implicitDefEqProofs (maxSteps := 999999) [-selQ_sel,h_1,h_2,h_3]
   obtain ⟨q,h_4,H⟩ := HS.bnd H
   refine Hid.mk (Tr.weak (s' := (spec_ReadScript_l0_S v1) (0,0,0,[])) (Wk.ofk [0,1] hk (by rfl) (by simp -implicitDefEqProofs [spec_ReadScript_l0_S,h_1,h_2,h_3]) (by simp -implicitDefEqProofs [spec_ReadScript_l0_S,h_1,h_2,h_3])) ?_)
   refine wp_loop_of (S := (spec_ReadScript_l0_S v1)) (f := (spec_ReadScript_l0 v1)) (xt := (spec_ReadScript_l0_X v1)) ?_ ?_ h_4 ?_
   ·intro q; rcases q with ⟨y43,y44,y45⟩ | y46 <;> simp [spec_ReadScript_l0_X]
   ·clear H h_4 q
    rintro ⟨x14,x15,x16,x29⟩ o R hf hR
    have H : HS (spec_ReadScript_l0 v1 (x14,x15,x16,x29)) o := hf
    clear hf; unfold spec_ReadScript_l0 at H
    try simp -implicitDefEqProofs at H
    refine Tr.of_vc (cl := tabC [(9,spec_l24Lines_x),(10,spec_PartsOf_x),(11,spec_l24Deed_x),(12,spec_EngineNew_x)]) (E := E0) [] (tab_cons k_spec_l24Lines (tab_cons k_spec_PartsOf (tab_cons k_spec_l24Deed (tab_cons k_spec_EngineNew tab_nil)))) hm (by rw [hn]; decide +kernel) ?_
    try simp -implicitDefEqProofs (maxSteps := 999999) [-selQ_sel,spec_ReadScript_l0_S]
    refine Hid.brV (fun h_5 => ?_) (fun h_5 => ?_)
    ·replace H := HS.cnd_t h_5 H
     try simp -implicitDefEqProofs (maxSteps := 999999) [-selQ_sel,h_5]
     have hr := (HS.some H).symm; subst hr
     exact Hid.mk ⟨(spec_ReadScript_l0_X v1 (.inl (x29,x15,x16))).2,Wk.ofk [0,1] hk (by rfl) (by simp -implicitDefEqProofs [spec_ReadScript_l0_X,h_5]) (by simp -implicitDefEqProofs [spec_ReadScript_l0_X,h_5]),hR⟩
    ·replace H := HS.cnd_f h_5 H
     try simp -implicitDefEqProofs (maxSteps := 999999) [-selQ_sel,h_5]
     obtain ⟨v30,h_6,H⟩ := HS.bnd H
     try simp -implicitDefEqProofs (maxSteps := 999999) [-selQ_sel,h_5,h_6]
     obtain ⟨⟨w32,w33⟩,h_7,H⟩ := HS.bnd H
     try dsimp only at H
     try simp -implicitDefEqProofs (maxSteps := 999999) [-selQ_sel,h_5,h_6,h_7]
     refine Hid.selQ (fun h_8 => ?_) (fun h_8 => ?_)
     ·replace H := HS.cnd_t h_8 H
      try simp -implicitDefEqProofs (maxSteps := 999999) [-selQ_sel,h_5,h_6,h_7,h_8]
      refine Hid.selQ (fun h_9 => ?_) (fun h_9 => ?_)
      ·replace H := HS.cnd_t h_9 H
       try simp -implicitDefEqProofs (maxSteps := 999999) [-selQ_sel,h_5,h_6,h_7,h_8,h_9]
       have hr := (HS.some H).symm; subst hr
       exact Hid.mk ⟨spec_ReadScript_l0_S v1 ((IntKind.i64.wrap (x14 + 1)),x15,x16,x29),Wk.ofk [0,1] hk (by rfl) (by simp -implicitDefEqProofs [spec_ReadScript_l0_S,h_5,h_6,h_7,h_8,h_9]) (by simp -implicitDefEqProofs [spec_ReadScript_l0_S,h_5,h_6,h_7,h_8,h_9]),hR⟩
      ·replace H := HS.cnd_f h_9 H
       try simp -implicitDefEqProofs (maxSteps := 999999) [-selQ_sel,h_5,h_6,h_7,h_8,h_9]
       obtain ⟨v34,h_10,H⟩ := HS.bnd H
       try simp -implicitDefEqProofs (maxSteps := 999999) [-selQ_sel,h_5,h_6,h_7,h_8,h_9,h_10]
       obtain ⟨b35,h_11,H⟩ := HS.bnd H
       try simp -implicitDefEqProofs (maxSteps := 999999) [-selQ_sel,h_5,h_6,h_7,h_8,h_9,h_10,h_11]
       refine Hid.brV (fun h_12 => ?_) (fun h_12 => ?_)
       ·replace H := HS.cnd_t h_12 H
        try simp -implicitDefEqProofs (maxSteps := 999999) [-selQ_sel,h_5,h_6,h_7,h_8,h_9,h_10,h_11,h_12]
        have hr := (HS.some H).symm; subst hr
        exact Hid.mk ⟨spec_ReadScript_l0_S v1 ((IntKind.i64.wrap (x14 + 1)),x15,x16,x29),Wk.ofk [0,1] hk (by rfl) (by simp -implicitDefEqProofs [spec_ReadScript_l0_S,h_5,h_6,h_7,h_8,h_9,h_10,h_11,h_12]) (by simp -implicitDefEqProofs [spec_ReadScript_l0_S,h_5,h_6,h_7,h_8,h_9,h_10,h_11,h_12]),hR⟩
       ·replace H := HS.cnd_f h_12 H
        try simp -implicitDefEqProofs (maxSteps := 999999) [-selQ_sel,h_5,h_6,h_7,h_8,h_9,h_10,h_11,h_12]
        obtain ⟨⟨w37,w38⟩,h_13,H⟩ := HS.bnd H
        try dsimp only at H
        try simp -implicitDefEqProofs (maxSteps := 999999) [-selQ_sel,h_5,h_6,h_7,h_8,h_9,h_10,h_11,h_12,h_13]
        refine Hid.brV (fun h_14 => ?_) (fun h_14 => ?_)
        ·replace H := HS.cnd_t h_14 H
         try simp -implicitDefEqProofs (maxSteps := 999999) [-selQ_sel,h_5,h_6,h_7,h_8,h_9,h_10,h_11,h_12,h_13,h_14]
         obtain ⟨⟨w40,w41⟩,h_15,H⟩ := HS.bnd H
         try dsimp only at H
         try simp -implicitDefEqProofs (maxSteps := 999999) [-selQ_sel,h_5,h_6,h_7,h_8,h_9,h_10,h_11,h_12,h_13,h_14,h_15]
         refine Hid.selQ (fun h_16 => ?_) (fun h_16 => ?_)
         ·replace H := HS.cnd_t h_16 H
          try simp -implicitDefEqProofs (maxSteps := 999999) [-selQ_sel,h_5,h_6,h_7,h_8,h_9,h_10,h_11,h_12,h_13,h_14,h_15,h_16]
          refine Hid.selQ (fun h_17 => ?_) (fun h_17 => ?_)
          ·replace H := HS.cnd_t h_17 H
           try simp -implicitDefEqProofs (maxSteps := 999999) [-selQ_sel,h_5,h_6,h_7,h_8,h_9,h_10,h_11,h_12,h_13,h_14,h_15,h_16,h_17]
           refine Hid.brV (fun h_18 => ?_) (fun h_18 => ?_)
           ·replace H := HS.cnd_t h_18 H
            try simp -implicitDefEqProofs (maxSteps := 999999) [-selQ_sel,h_5,h_6,h_7,h_8,h_9,h_10,h_11,h_12,h_13,h_14,h_15,h_16,h_17,h_18]
            have hr := (HS.some H).symm; subst hr
            exact Hid.mk ⟨spec_ReadScript_l0_S v1 ((IntKind.i64.wrap (x14 + 1)),w37.x,w37.y,x29),Wk.ofk [0,1] hk (by rfl) (by simp -implicitDefEqProofs [spec_ReadScript_l0_S,h_5,h_6,h_7,h_8,h_9,h_10,h_11,h_12,h_13,h_14,h_15,h_16,h_17,h_18]) (by simp -implicitDefEqProofs [spec_ReadScript_l0_S,h_5,h_6,h_7,h_8,h_9,h_10,h_11,h_12,h_13,h_14,h_15,h_16,h_17,h_18]),hR⟩
           ·replace H := HS.cnd_f h_18 H
            try simp -implicitDefEqProofs (maxSteps := 999999) [-selQ_sel,h_5,h_6,h_7,h_8,h_9,h_10,h_11,h_12,h_13,h_14,h_15,h_16,h_17,h_18]
            have hr := (HS.some H).symm; subst hr
            exact Hid.mk ⟨(spec_ReadScript_l0_X v1 (.inr (IntKind.i64.wrap (x14 + 1)))).2,Wk.ofk [0] hk (by rfl) (by simp -implicitDefEqProofs [spec_ReadScript_l0_X,h_5,h_6,h_7,h_8,h_9,h_10,h_11,h_12,h_13,h_14,h_15,h_16,h_17,h_18]) (by simp -implicitDefEqProofs [spec_ReadScript_l0_X,h_5,h_6,h_7,h_8,h_9,h_10,h_11,h_12,h_13,h_14,h_15,h_16,h_17,h_18]),hR⟩
          ·replace H := HS.cnd_f h_17 H
           try simp -implicitDefEqProofs (maxSteps := 999999) [-selQ_sel,h_5,h_6,h_7,h_8,h_9,h_10,h_11,h_12,h_13,h_14,h_15,h_16,h_17]
           have hr := (HS.some H).symm; subst hr
           exact Hid.mk ⟨(spec_ReadScript_l0_X v1 (.inr (IntKind.i64.wrap (x14 + 1)))).2,Wk.ofk [0] hk (by rfl) (by simp -implicitDefEqProofs [spec_ReadScript_l0_X,h_5,h_6,h_7,h_8,h_9,h_10,h_11,h_12,h_13,h_14,h_15,h_16,h_17]) (by simp -implicitDefEqProofs [spec_ReadScript_l0_X,h_5,h_6,h_7,h_8,h_9,h_10,h_11,h_12,h_13,h_14,h_15,h_16,h_17]),hR⟩
         ·replace H := HS.cnd_f h_16 H
          try simp -implicitDefEqProofs (maxSteps := 999999) [-selQ_sel,h_5,h_6,h_7,h_8,h_9,h_10,h_11,h_12,h_13,h_14,h_15,h_16]
          have hr := (HS.some H).symm; subst hr
          exact Hid.mk ⟨(spec_ReadScript_l0_X v1 (.inr (IntKind.i64.wrap (x14 + 1)))).2,Wk.ofk [0] hk (by rfl) (by simp -implicitDefEqProofs [spec_ReadScript_l0_X,h_5,h_6,h_7,h_8,h_9,h_10,h_11,h_12,h_13,h_14,h_15,h_16]) (by simp -implicitDefEqProofs [spec_ReadScript_l0_X,h_5,h_6,h_7,h_8,h_9,h_10,h_11,h_12,h_13,h_14,h_15,h_16]),hR⟩
        ·replace H := HS.cnd_f h_14 H
         try simp -implicitDefEqProofs (maxSteps := 999999) [-selQ_sel,h_5,h_6,h_7,h_8,h_9,h_10,h_11,h_12,h_13,h_14]
         refine Hid.selQ (fun h_19 => ?_) (fun h_19 => ?_)
         ·replace H := HS.cnd_t h_19 H
          try simp -implicitDefEqProofs (maxSteps := 999999) [-selQ_sel,h_5,h_6,h_7,h_8,h_9,h_10,h_11,h_12,h_13,h_14,h_19]
          refine Hid.brV (fun h_20 => ?_) (fun h_20 => ?_)
          ·replace H := HS.cnd_t h_20 H
           try simp -implicitDefEqProofs (maxSteps := 999999) [-selQ_sel,h_5,h_6,h_7,h_8,h_9,h_10,h_11,h_12,h_13,h_14,h_19,h_20]
           have hr := (HS.some H).symm; subst hr
           exact Hid.mk ⟨(spec_ReadScript_l0_X v1 (.inr (IntKind.i64.wrap (x14 + 1)))).2,Wk.ofk [0] hk (by rfl) (by simp -implicitDefEqProofs [spec_ReadScript_l0_X,h_5,h_6,h_7,h_8,h_9,h_10,h_11,h_12,h_13,h_14,h_19,h_20]) (by simp -implicitDefEqProofs [spec_ReadScript_l0_X,h_5,h_6,h_7,h_8,h_9,h_10,h_11,h_12,h_13,h_14,h_19,h_20]),hR⟩
          ·replace H := HS.cnd_f h_20 H
           try simp -implicitDefEqProofs (maxSteps := 999999) [-selQ_sel,h_5,h_6,h_7,h_8,h_9,h_10,h_11,h_12,h_13,h_14,h_19,h_20]
           obtain ⟨h_21,H⟩ := HS.chkP H
           try simp -implicitDefEqProofs (maxSteps := 999999) [-selQ_sel,h_5,h_6,h_7,h_8,h_9,h_10,h_11,h_12,h_13,h_14,h_19,h_20,h_21]
           obtain ⟨l42,h_22,H⟩ := HS.nam H
           have m_23 := congrArg (List.map eDeed) h_22
           have q_24 := congrArg List.length h_22
           simp -implicitDefEqProofs at m_23 q_24
           try simp only [q_24] at m_23
           try simp only [q_24] at h_21
           try simp -implicitDefEqProofs (maxSteps := 999999) [-selQ_sel,h_5,h_6,h_7,h_8,h_9,h_10,h_11,h_12,h_13,h_14,h_19,h_20,h_21,m_23,q_24]
           have hr := (HS.some H).symm; subst hr
           exact Hid.mk ⟨spec_ReadScript_l0_S v1 ((IntKind.i64.wrap (x14 + 1)),x15,x16,l42),Wk.ofk [0,1] hk (by rfl) (by simp -implicitDefEqProofs [spec_ReadScript_l0_S,h_5,h_6,h_7,h_8,h_9,h_10,h_11,h_12,h_13,h_14,h_19,h_20,h_21,m_23,q_24]) (by simp -implicitDefEqProofs [spec_ReadScript_l0_S,h_5,h_6,h_7,h_8,h_9,h_10,h_11,h_12,h_13,h_14,h_19,h_20,h_21,m_23,q_24]),hR⟩
         ·replace H := HS.cnd_f h_19 H
          try simp -implicitDefEqProofs (maxSteps := 999999) [-selQ_sel,h_5,h_6,h_7,h_8,h_9,h_10,h_11,h_12,h_13,h_14,h_19]
          have hr := (HS.some H).symm; subst hr
          exact Hid.mk ⟨(spec_ReadScript_l0_X v1 (.inr (IntKind.i64.wrap (x14 + 1)))).2,Wk.ofk [0] hk (by rfl) (by simp -implicitDefEqProofs [spec_ReadScript_l0_X,h_5,h_6,h_7,h_8,h_9,h_10,h_11,h_12,h_13,h_14,h_19]) (by simp -implicitDefEqProofs [spec_ReadScript_l0_X,h_5,h_6,h_7,h_8,h_9,h_10,h_11,h_12,h_13,h_14,h_19]),hR⟩
     ·replace H := HS.cnd_f h_8 H
      try simp -implicitDefEqProofs (maxSteps := 999999) [-selQ_sel,h_5,h_6,h_7,h_8]
      have hr := (HS.some H).symm; subst hr
      exact Hid.mk ⟨(spec_ReadScript_l0_X v1 (.inr (IntKind.i64.wrap (x14 + 1)))).2,Wk.ofk [0] hk (by rfl) (by simp -implicitDefEqProofs [spec_ReadScript_l0_X,h_5,h_6,h_7,h_8]) (by simp -implicitDefEqProofs [spec_ReadScript_l0_X,h_5,h_6,h_7,h_8]),hR⟩
   ·rcases q with ⟨y43,y44,y45⟩ | y46
    ·dsimp only at H
     try simp -implicitDefEqProofs (maxSteps := 999999) [-selQ_sel,h_1,h_2,h_3,spec_ReadScript_l0_X]
     refine Hid.brV (fun h_25 => ?_) (fun h_25 => ?_)
     ·replace H := HS.cnd_t h_25 H
      try simp -implicitDefEqProofs (maxSteps := 999999) [-selQ_sel,h_1,h_2,h_3,h_25]
      have hr := (HS.some H).symm; subst hr
      refine Hid.mk ⟨_,Wk.refl _,?_⟩
      try simp -implicitDefEqProofs (maxSteps := 999999) [-selQ_sel,h_1,h_2,h_3,h_25]
     ·replace H := HS.cnd_f h_25 H
      try simp -implicitDefEqProofs (maxSteps := 999999) [-selQ_sel,h_1,h_2,h_3,h_25]
      have hr := (HS.some H).symm; subst hr
      refine Hid.mk ⟨_,Wk.refl _,?_⟩
      try simp -implicitDefEqProofs (maxSteps := 999999) [-selQ_sel,h_1,h_2,h_3,h_25]
    ·dsimp only at H
     try simp -implicitDefEqProofs (maxSteps := 999999) [-selQ_sel,h_1,h_2,h_3,spec_ReadScript_l0_X]
     have hr := (HS.some H).symm; subst hr
     refine Hid.mk ⟨_,Wk.refl _,?_⟩
     try simp -implicitDefEqProofs (maxSteps := 999999) [-selQ_sel,h_1,h_2,h_3]
  ·replace H := HS.cnd_f h_3 H
   try simp -implicitDefEqProofs (maxSteps := 999999) [-selQ_sel,h_1,h_2,h_3]
   have hr := (HS.some H).symm; subst hr
   refine Hid.mk ⟨_,Wk.refl _,?_⟩
   try simp -implicitDefEqProofs (maxSteps := 999999) [-selQ_sel,h_1,h_2,h_3]
 ·replace H := HS.cnd_f h_1 H
  try simp -implicitDefEqProofs (maxSteps := 999999) [-selQ_sel,h_1]
  have hr := (HS.some H).symm; subst hr
  refine Hid.mk ⟨_,Wk.refl _,?_⟩
  try simp -implicitDefEqProofs (maxSteps := 999999) [-selQ_sel,h_1]
theorem spec_PartsOf_ok0 (hm : Tryd.prog.follows .mixedOrders = true) : Sound Tryd.prog 10 spec_PartsOf_x := by
 refine xOf_sound fun q r h => ?_
 revert h; revert r; revert q; intro a0 r h
 refine fn_ok E0 hm Tryd.func10 rfl (by decide +kernel) (by rfl) fun Γ hn hk => ?_
 dsimp only [spec_PartsOf_e,spec_PartsOf_v]
 replace hn : Γ.n = 62 := hn
 replace hk : Γ.k = 0 := hk
 have H : HS (spec_PartsOf a0) r := h
 clear h; unfold spec_PartsOf at H
 try simp -implicitDefEqProofs at H
 refine Tr.of_vc (cl := tabC []) (E := E0) [] tab_nil hm (by rw [hn]; decide +kernel) ?_
 try simp -implicitDefEqProofs (maxSteps := 999999) [-selQ_sel]
 refine Hid.brV (fun h_1 => ?_) (fun h_1 => ?_)
 ·replace H := HS.cnd_t h_1 H
  try simp -implicitDefEqProofs (maxSteps := 999999) [-selQ_sel,h_1]
  obtain ⟨q,h_2,H⟩ := HS.bnd H
  refine Hid.mk (Tr.weak (s' := (spec_PartsOf_l0_S a0) (0,0,[])) (Wk.ofk [0] hk (by rfl) (by simp -implicitDefEqProofs [spec_PartsOf_l0_S,h_1]) (by simp -implicitDefEqProofs [spec_PartsOf_l0_S,h_1])) ?_)
  refine wp_loop_of (S := (spec_PartsOf_l0_S a0)) (f := (spec_PartsOf_l0 a0)) (xt := (spec_PartsOf_l0_X a0)) ?_ ?_ h_2 ?_
  ·intro q; rcases q with ⟨⟩ | y13 <;> simp [spec_PartsOf_l0_X]
  ·clear H h_2 q
   rintro ⟨x2,x3,x7⟩ o R hf hR
   have H : HS (spec_PartsOf_l0 a0 (x2,x3,x7)) o := hf
   clear hf; unfold spec_PartsOf_l0 at H
   try simp -implicitDefEqProofs at H
   refine Tr.of_vc (cl := tabC []) (E := E0) [] tab_nil hm (by rw [hn]; decide +kernel) ?_
   try simp -implicitDefEqProofs (maxSteps := 999999) [-selQ_sel,spec_PartsOf_l0_S]
   refine Hid.brV (fun h_3 => ?_) (fun h_3 => ?_)
   ·replace H := HS.cnd_t h_3 H
    try simp -implicitDefEqProofs (maxSteps := 999999) [-selQ_sel,h_3]
    refine Hid.selQ (fun h_4 => ?_) (fun h_4 => ?_)
    ·replace H := HS.cnd_t h_4 H
     try simp -implicitDefEqProofs (maxSteps := 999999) [-selQ_sel,h_3,h_4]
     refine Hid.brV (fun h_5 => ?_) (fun h_5 => ?_)
     ·replace H := HS.cnd_t h_5 H
      try simp -implicitDefEqProofs (maxSteps := 999999) [-selQ_sel,h_3,h_4,h_5]
      have hr := (HS.some H).symm; subst hr
      exact Hid.mk ⟨spec_PartsOf_l0_S a0 ((IntKind.i64.wrap (x3 + 1)),(IntKind.i64.wrap (x3 + 1)),x7),Wk.ofk [0] hk (by rfl) (by simp -implicitDefEqProofs [spec_PartsOf_l0_S,h_3,h_4,h_5]) (by simp -implicitDefEqProofs [spec_PartsOf_l0_S,h_3,h_4,h_5]),hR⟩
     ·replace H := HS.cnd_f h_5 H
      try simp -implicitDefEqProofs (maxSteps := 999999) [-selQ_sel,h_3,h_4,h_5]
      obtain ⟨v8,h_6,H⟩ := HS.bnd H
      try simp -implicitDefEqProofs (maxSteps := 999999) [-selQ_sel,h_3,h_4,h_5,h_6]
      obtain ⟨h_7,H⟩ := HS.chkP H
      try simp -implicitDefEqProofs (maxSteps := 999999) [-selQ_sel,h_3,h_4,h_5,h_6,h_7]
      obtain ⟨l9,h_8,H⟩ := HS.nam H
      have m_9 := congrArg (List.map eS) h_8
      have q_10 := congrArg List.length h_8
      simp -implicitDefEqProofs at m_9 q_10
      try simp only [q_10] at m_9
      try simp only [q_10] at h_7
      try simp -implicitDefEqProofs (maxSteps := 999999) [-selQ_sel,h_3,h_4,h_5,h_6,h_7,m_9,q_10]
      have hr := (HS.some H).symm; subst hr
      exact Hid.mk ⟨spec_PartsOf_l0_S a0 ((IntKind.i64.wrap (x3 + 1)),(IntKind.i64.wrap (x3 + 1)),l9),Wk.ofk [0] hk (by rfl) (by simp -implicitDefEqProofs [spec_PartsOf_l0_S,h_3,h_4,h_5,h_6,h_7,m_9,q_10]) (by simp -implicitDefEqProofs [spec_PartsOf_l0_S,h_3,h_4,h_5,h_6,h_7,m_9,q_10]),hR⟩
    ·replace H := HS.cnd_f h_4 H
     try simp -implicitDefEqProofs (maxSteps := 999999) [-selQ_sel,h_3,h_4]
     obtain ⟨b10,h_11,H⟩ := HS.bnd H
     try simp -implicitDefEqProofs (maxSteps := 999999) [-selQ_sel,h_3,h_4,h_11]
     refine Hid.selQ (fun h_12 => ?_) (fun h_12 => ?_)
     ·replace H := HS.cnd_t h_12 H
      try simp -implicitDefEqProofs (maxSteps := 999999) [-selQ_sel,h_3,h_4,h_11,h_12]
      refine Hid.brV (fun h_13 => ?_) (fun h_13 => ?_)
      ·replace H := HS.cnd_t h_13 H
       try simp -implicitDefEqProofs (maxSteps := 999999) [-selQ_sel,h_3,h_4,h_11,h_12,h_13]
       refine Hid.brV (fun h_14 => ?_) (fun h_14 => ?_)
       ·replace H := HS.cnd_t h_14 H
        try simp -implicitDefEqProofs (maxSteps := 999999) [-selQ_sel,h_3,h_4,h_11,h_12,h_13,h_14]
        refine Hid.brV (fun h_15 => ?_) (fun h_15 => ?_)
        ·replace H := HS.cnd_t h_15 H
         try simp -implicitDefEqProofs (maxSteps := 999999) [-selQ_sel,h_3,h_4,h_11,h_12,h_13,h_14,h_15]
         have hr := (HS.some H).symm; subst hr
         exact Hid.mk ⟨spec_PartsOf_l0_S a0 ((IntKind.i64.wrap (x3 + 1)),(IntKind.i64.wrap (x3 + 1)),x7),Wk.ofk [0] hk (by rfl) (by simp -implicitDefEqProofs [spec_PartsOf_l0_S,h_3,h_4,h_11,h_12,h_13,h_14,h_15]) (by simp -implicitDefEqProofs [spec_PartsOf_l0_S,h_3,h_4,h_11,h_12,h_13,h_14,h_15]),hR⟩
        ·replace H := HS.cnd_f h_15 H
         try simp -implicitDefEqProofs (maxSteps := 999999) [-selQ_sel,h_3,h_4,h_11,h_12,h_13,h_14,h_15]
         obtain ⟨v11,h_16,H⟩ := HS.bnd H
         try simp -implicitDefEqProofs (maxSteps := 999999) [-selQ_sel,h_3,h_4,h_11,h_12,h_13,h_14,h_15,h_16]
         obtain ⟨h_17,H⟩ := HS.chkP H
         try simp -implicitDefEqProofs (maxSteps := 999999) [-selQ_sel,h_3,h_4,h_11,h_12,h_13,h_14,h_15,h_16,h_17]
         obtain ⟨l12,h_18,H⟩ := HS.nam H
         have m_19 := congrArg (List.map eS) h_18
         have q_20 := congrArg List.length h_18
         simp -implicitDefEqProofs at m_19 q_20
         try simp only [q_20] at m_19
         try simp only [q_20] at h_17
         try simp -implicitDefEqProofs (maxSteps := 999999) [-selQ_sel,h_3,h_4,h_11,h_12,h_13,h_14,h_15,h_16,h_17,m_19,q_20]
         have hr := (HS.some H).symm; subst hr
         exact Hid.mk ⟨spec_PartsOf_l0_S a0 ((IntKind.i64.wrap (x3 + 1)),(IntKind.i64.wrap (x3 + 1)),l12),Wk.ofk [0] hk (by rfl) (by simp -implicitDefEqProofs [spec_PartsOf_l0_S,h_3,h_4,h_11,h_12,h_13,h_14,h_15,h_16,h_17,m_19,q_20]) (by simp -implicitDefEqProofs [spec_PartsOf_l0_S,h_3,h_4,h_11,h_12,h_13,h_14,h_15,h_16,h_17,m_19,q_20]),hR⟩
       ·replace H := HS.cnd_f h_14 H
        try simp -implicitDefEqProofs (maxSteps := 999999) [-selQ_sel,h_3,h_4,h_11,h_12,h_13,h_14]
        have hr := (HS.some H).symm; subst hr
        exact Hid.mk ⟨spec_PartsOf_l0_S a0 (x2,(IntKind.i64.wrap (x3 + 1)),x7),Wk.ofk [0] hk (by rfl) (by simp -implicitDefEqProofs [spec_PartsOf_l0_S,h_3,h_4,h_11,h_12,h_13,h_14]) (by simp -implicitDefEqProofs [spec_PartsOf_l0_S,h_3,h_4,h_11,h_12,h_13,h_14]),hR⟩
      ·replace H := HS.cnd_f h_13 H
       try simp -implicitDefEqProofs (maxSteps := 999999) [-selQ_sel,h_3,h_4,h_11,h_12,h_13]
       have hr := (HS.some H).symm; subst hr
       exact Hid.mk ⟨(spec_PartsOf_l0_X a0 (.inl ())).2,Wk.ofk [1] hk (by rfl) (by simp -implicitDefEqProofs [spec_PartsOf_l0_X,h_3,h_4,h_11,h_12,h_13]) (by simp -implicitDefEqProofs [spec_PartsOf_l0_X,h_3,h_4,h_11,h_12,h_13]),hR⟩
     ·replace H := HS.cnd_f h_12 H
      try simp -implicitDefEqProofs (maxSteps := 999999) [-selQ_sel,h_3,h_4,h_11,h_12]
      have hr := (HS.some H).symm; subst hr
      exact Hid.mk ⟨(spec_PartsOf_l0_X a0 (.inl ())).2,Wk.ofk [1] hk (by rfl) (by simp -implicitDefEqProofs [spec_PartsOf_l0_X,h_3,h_4,h_11,h_12]) (by simp -implicitDefEqProofs [spec_PartsOf_l0_X,h_3,h_4,h_11,h_12]),hR⟩
   ·replace H := HS.cnd_f h_3 H
    try simp -implicitDefEqProofs (maxSteps := 999999) [-selQ_sel,h_3]
    have hr := (HS.some H).symm; subst hr
    exact Hid.mk ⟨(spec_PartsOf_l0_X a0 (.inr x7)).2,Wk.ofk [0] hk (by rfl) (by simp -implicitDefEqProofs [spec_PartsOf_l0_X,h_3]) (by simp -implicitDefEqProofs [spec_PartsOf_l0_X,h_3]),hR⟩
  ·rcases q with ⟨⟩ | y13
   ·dsimp only at H
    try simp -implicitDefEqProofs (maxSteps := 999999) [-selQ_sel,h_1,spec_PartsOf_l0_X]
    have hr := (HS.some H).symm; subst hr
    refine Hid.mk ⟨_,Wk.refl _,?_⟩
    try simp -implicitDefEqProofs (maxSteps := 999999) [-selQ_sel,h_1]
   ·dsimp only at H
    try simp -implicitDefEqProofs (maxSteps := 999999) [-selQ_sel,h_1,spec_PartsOf_l0_X]
    refine Hid.brV (fun h_21 => ?_) (fun h_21 => ?_)
    ·replace H := HS.cnd_t h_21 H
     try simp -implicitDefEqProofs (maxSteps := 999999) [-selQ_sel,h_1,h_21]
     have hr := (HS.some H).symm; subst hr
     refine Hid.mk ⟨_,Wk.refl _,?_⟩
     try simp -implicitDefEqProofs (maxSteps := 999999) [-selQ_sel,h_1,h_21]
    ·replace H := HS.cnd_f h_21 H
     try simp -implicitDefEqProofs (maxSteps := 999999) [-selQ_sel,h_1,h_21]
     have hr := (HS.some H).symm; subst hr
     refine Hid.mk ⟨_,Wk.refl _,?_⟩
     try simp -implicitDefEqProofs (maxSteps := 999999) [-selQ_sel,h_1,h_21]
 ·replace H := HS.cnd_f h_1 H
  try simp -implicitDefEqProofs (maxSteps := 999999) [-selQ_sel,h_1]
  have hr := (HS.some H).symm; subst hr
  refine Hid.mk ⟨_,Wk.refl _,?_⟩
  try simp -implicitDefEqProofs (maxSteps := 999999) [-selQ_sel,h_1]
theorem impl_ReadDecimal_ok0 (hm : Tryd.prog.follows .mixedOrders = true) (k_impl_Decimal : Sound Tryd.prog 72 impl_Decimal_x) : Sound Tryd.prog 58 impl_ReadDecimal_x := by
 refine xOf_sound fun q r h => ?_
 revert h; revert r; revert q; intro a0 r h
 refine fn_ok E0 hm Tryd.func58 rfl (by decide +kernel) (by rfl) fun Γ hn hk => ?_
 dsimp only [impl_ReadDecimal_e,impl_ReadDecimal_v]
 replace hn : Γ.n = 47 := hn
 replace hk : Γ.k = 0 := hk
 have H : HS (impl_ReadDecimal a0) r := h
 clear h; unfold impl_ReadDecimal at H
 try simp -implicitDefEqProofs at H
 refine Tr.of_vc (cl := tabC [(72,impl_Decimal_x)]) (E := E0) [] (tab_cons k_impl_Decimal tab_nil) hm (by rw [hn]; decide +kernel) ?_
 try simp -implicitDefEqProofs (maxSteps := 999999) [-selQ_sel]
 refine Hid.selQ (fun h_1 => ?_) (fun h_1 => ?_)
 ·replace H := HS.cnd_t h_1 H
  try simp -implicitDefEqProofs (maxSteps := 999999) [-selQ_sel,h_1]
  have hr := (HS.some H).symm; subst hr
  refine Hid.mk ⟨_,Wk.refl _,?_⟩
  try simp -implicitDefEqProofs (maxSteps := 999999) [-selQ_sel,h_1]
 ·replace H := HS.cnd_f h_1 H
  try simp -implicitDefEqProofs (maxSteps := 999999) [-selQ_sel,h_1]
  refine Hid.brV (fun h_2 => ?_) (fun h_2 => ?_)
  ·replace H := HS.cnd_t h_2 H
   try simp -implicitDefEqProofs (maxSteps := 999999) [-selQ_sel,h_1,h_2]
   obtain ⟨q,h_3,H⟩ := HS.bnd H
   refine Hid.mk (Tr.weak (s' := (impl_ReadDecimal_l0_S a0) (0,0)) (Wk.ofk [] hk (by rfl) (by simp -implicitDefEqProofs [impl_ReadDecimal_l0_S,h_1,h_2]) (by simp -implicitDefEqProofs [impl_ReadDecimal_l0_S,h_1,h_2])) ?_)
   refine wp_loop_of (S := (impl_ReadDecimal_l0_S a0)) (f := (impl_ReadDecimal_l0 a0)) (xt := (impl_ReadDecimal_l0_X a0)) ?_ ?_ h_3 ?_
   ·intro q; rcases q with y5 | ⟨⟩ <;> simp [impl_ReadDecimal_l0_X]
   ·clear H h_3 q
    rintro ⟨x2,x3⟩ o R hf hR
    have H : HS (impl_ReadDecimal_l0 a0 (x2,x3)) o := hf
    clear hf; unfold impl_ReadDecimal_l0 at H
    try simp -implicitDefEqProofs at H
    refine Tr.of_vc (cl := tabC [(72,impl_Decimal_x)]) (E := E0) [] (tab_cons k_impl_Decimal tab_nil) hm (by rw [hn]; decide +kernel) ?_
    try simp -implicitDefEqProofs (maxSteps := 999999) [-selQ_sel,impl_ReadDecimal_l0_S]
    refine Hid.brV (fun h_4 => ?_) (fun h_4 => ?_)
    ·replace H := HS.cnd_t h_4 H
     try simp -implicitDefEqProofs (maxSteps := 999999) [-selQ_sel,h_4]
     have hr := (HS.some H).symm; subst hr
     exact Hid.mk ⟨(impl_ReadDecimal_l0_X a0 (.inl x2)).2,Wk.ofk [] hk (by rfl) (by simp -implicitDefEqProofs [impl_ReadDecimal_l0_X,h_4]) (by simp -implicitDefEqProofs [impl_ReadDecimal_l0_X,h_4]),hR⟩
    ·replace H := HS.cnd_f h_4 H
     try simp -implicitDefEqProofs (maxSteps := 999999) [-selQ_sel,h_4]
     obtain ⟨b4,h_5,H⟩ := HS.bnd H
     try simp -implicitDefEqProofs (maxSteps := 999999) [-selQ_sel,h_4,h_5]
     refine Hid.selQ (fun h_6 => ?_) (fun h_6 => ?_)
     ·replace H := HS.cnd_t h_6 H
      try simp -implicitDefEqProofs (maxSteps := 999999) [-selQ_sel,h_4,h_5,h_6]
      refine Hid.brV (fun h_7 => ?_) (fun h_7 => ?_)
      ·replace H := HS.cnd_t h_7 H
       try simp -implicitDefEqProofs (maxSteps := 999999) [-selQ_sel,h_4,h_5,h_6,h_7]
       have hr := (HS.some H).symm; subst hr
       exact Hid.mk ⟨impl_ReadDecimal_l0_S a0 ((IntKind.i64.wrap ((IntKind.i64.wrap (x2 * 10)) + (IntKind.i64.wrap (IntKind.u8.wrap ((b4.toNat : Int) - 48))))),(IntKind.i64.wrap (x3 + 1))),Wk.ofk [] hk (by rfl) (by simp -implicitDefEqProofs [impl_ReadDecimal_l0_S,h_4,h_5,h_6,h_7]) (by simp -implicitDefEqProofs [impl_ReadDecimal_l0_S,h_4,h_5,h_6,h_7]),hR⟩
      ·replace H := HS.cnd_f h_7 H
       try simp -implicitDefEqProofs (maxSteps := 999999) [-selQ_sel,h_4,h_5,h_6,h_7]
       have hr := (HS.some H).symm; subst hr
       exact Hid.mk ⟨(impl_ReadDecimal_l0_X a0 (.inr ())).2,Wk.ofk [] hk (by rfl) (by simp -implicitDefEqProofs [impl_ReadDecimal_l0_X,h_4,h_5,h_6,h_7]) (by simp -implicitDefEqProofs [impl_ReadDecimal_l0_X,h_4,h_5,h_6,h_7]),hR⟩
     ·replace H := HS.cnd_f h_6 H
      try simp -implicitDefEqProofs (maxSteps := 999999) [-selQ_sel,h_4,h_5,h_6]
      have hr := (HS.some H).symm; subst hr
      exact Hid.mk ⟨(impl_ReadDecimal_l0_X a0 (.inr ())).2,Wk.ofk [] hk (by rfl) (by simp -implicitDefEqProofs [impl_ReadDecimal_l0_X,h_4,h_5,h_6]) (by simp -implicitDefEqProofs [impl_ReadDecimal_l0_X,h_4,h_5,h_6]),hR⟩
   ·rcases q with y5 | ⟨⟩
    ·dsimp only at H
     try simp -implicitDefEqProofs (maxSteps := 999999) [-selQ_sel,h_1,h_2,impl_ReadDecimal_l0_X]
     refine Hid.selQ (fun h_8 => ?_) (fun h_8 => ?_)
     ·replace H := HS.cnd_t h_8 H
      try simp -implicitDefEqProofs (maxSteps := 999999) [-selQ_sel,h_1,h_2,h_8]
      obtain ⟨v6,h_9,H⟩ := HS.bnd H
      try simp -implicitDefEqProofs (maxSteps := 999999) [-selQ_sel,h_1,h_2,h_8,h_9]
      refine Hid.brV (fun h_10 => ?_) (fun h_10 => ?_)
      ·replace H := HS.cnd_t h_10 H
       try simp -implicitDefEqProofs (maxSteps := 999999) [-selQ_sel,h_1,h_2,h_8,h_9,h_10]
       have hr := (HS.some H).symm; subst hr
       refine Hid.mk ⟨_,Wk.refl _,?_⟩
       try simp -implicitDefEqProofs (maxSteps := 999999) [-selQ_sel,h_1,h_2,h_8,h_9,h_10]
      ·replace H := HS.cnd_f h_10 H
       try simp -implicitDefEqProofs (maxSteps := 999999) [-selQ_sel,h_1,h_2,h_8,h_9,h_10]
       have hr := (HS.some H).symm; subst hr
       refine Hid.mk ⟨_,Wk.refl _,?_⟩
       try simp -implicitDefEqProofs (maxSteps := 999999) [-selQ_sel,h_1,h_2,h_8,h_9,h_10]
     ·replace H := HS.cnd_f h_8 H
      try simp -implicitDefEqProofs (maxSteps := 999999) [-selQ_sel,h_1,h_2,h_8]
      have hr := (HS.some H).symm; subst hr
      refine Hid.mk ⟨_,Wk.refl _,?_⟩
      try simp -implicitDefEqProofs (maxSteps := 999999) [-selQ_sel,h_1,h_2,h_8]
    ·dsimp only at H
     try simp -implicitDefEqProofs (maxSteps := 999999) [-selQ_sel,h_1,h_2,impl_ReadDecimal_l0_X]
     have hr := (HS.some H).symm; subst hr
     refine Hid.mk ⟨_,Wk.refl _,?_⟩
     try simp -implicitDefEqProofs (maxSteps := 999999) [-selQ_sel,h_1,h_2]
  ·replace H := HS.cnd_f h_2 H
   try simp -implicitDefEqProofs (maxSteps := 999999) [-selQ_sel,h_1,h_2]
   have hr := (HS.some H).symm; subst hr
   refine Hid.mk ⟨_,Wk.refl _,?_⟩
   try simp -implicitDefEqProofs (maxSteps := 999999) [-selQ_sel,h_1,h_2]
theorem laws_FnExactReadScript_ok0 (hm : Tryd.prog.follows .mixedOrders = true) (k_spec_ReadScript : Sound Tryd.prog 4 spec_ReadScript_x) (k_impl_ReadScript : Sound Tryd.prog 5 impl_ReadScript_x) (k_laws_eqDeedS : Sound Tryd.prog 6 laws_eqDeedS_x) (k_laws_markDeedS : Sound Tryd.prog 7 laws_markDeedS_x) (k_laws_heldDeedS : Sound Tryd.prog 8 laws_heldDeedS_x) : Sound Tryd.prog 3 laws_FnExactReadScript_x := by
 refine xOf_sound fun q r h => ?_
 revert h; revert r; revert q; intro a0 r h
 refine fn_ok E0 hm Tryd.func3 rfl (by decide +kernel) (by rfl) fun Γ hn hk => ?_
 dsimp only [laws_FnExactReadScript_e,laws_FnExactReadScript_v]
 replace hn : Γ.n = 98 := hn
 replace hk : Γ.k = 0 := hk
 have H : HS (laws_FnExactReadScript a0) r := h
 clear h; unfold laws_FnExactReadScript at H
 try simp -implicitDefEqProofs at H
 refine Tr.of_vc (cl := tabC [(4,spec_ReadScript_x),(5,impl_ReadScript_x),(6,laws_eqDeedS_x),(7,laws_markDeedS_x),(8,laws_heldDeedS_x)]) (E := E0) [] (tab_cons k_spec_ReadScript (tab_cons k_impl_ReadScript (tab_cons k_laws_eqDeedS (tab_cons k_laws_markDeedS (tab_cons k_laws_heldDeedS tab_nil))))) hm (by rw [hn]; decide +kernel) ?_
 try simp -implicitDefEqProofs (maxSteps := 999999) [-selQ_sel]
 refine Hid.brV (fun h_1 => ?_) (fun h_1 => ?_)
 ·replace H := HS.cnd_t h_1 H
  try simp -implicitDefEqProofs (maxSteps := 999999) [-selQ_sel,h_1]
  obtain ⟨⟨w2,w3,w4,w5⟩,h_2,H⟩ := HS.bnd H
  try dsimp only at H
  try simp -implicitDefEqProofs (maxSteps := 999999) [-selQ_sel,h_1,h_2]
  obtain ⟨⟨w7,w8,w9,w10⟩,h_3,H⟩ := HS.bnd H
  try dsimp only at H
  try simp -implicitDefEqProofs (maxSteps := 999999) [-selQ_sel,h_1,h_2,h_3]
  refine Hid.selQ (fun h_4 => ?_) (fun h_4 => ?_)
  ·replace H := HS.cnd_t h_4 H
   try simp -implicitDefEqProofs (maxSteps := 999999) [-selQ_sel,h_1,h_2,h_3,h_4]
   refine Hid.selQ (fun h_5 => ?_) (fun h_5 => ?_)
   ·replace H := HS.cnd_t h_5 H
    try simp -implicitDefEqProofs (maxSteps := 999999) [-selQ_sel,h_1,h_2,h_3,h_4,h_5]
    obtain ⟨v11,h_6,H⟩ := HS.bnd H
    try simp -implicitDefEqProofs (maxSteps := 999999) [-selQ_sel,h_1,h_2,h_3,h_4,h_5,h_6]
    refine Hid.selQ (fun h_7 => ?_) (fun h_7 => ?_)
    ·replace H := HS.cnd_t h_7 H
     try simp -implicitDefEqProofs (maxSteps := 999999) [-selQ_sel,h_1,h_2,h_3,h_4,h_5,h_6,h_7]
     refine Hid.brV (fun h_8 => ?_) (fun h_8 => ?_)
     ·replace H := HS.cnd_t h_8 H
      try simp -implicitDefEqProofs (maxSteps := 999999) [-selQ_sel,h_1,h_2,h_3,h_4,h_5,h_6,h_7,h_8]
      obtain ⟨⟨w13,w14⟩,h_9,H⟩ := HS.bnd H
      try dsimp only at H
      have g_10 := laws_markDeedS_n h_9
      try simp -implicitDefEqProofs (maxSteps := 999999) [-selQ_sel,h_1,h_2,h_3,h_4,h_5,h_6,h_7,h_8,h_9,g_10]
      obtain ⟨v15,h_11,H⟩ := HS.bnd H
      try simp -implicitDefEqProofs (maxSteps := 999999) [-selQ_sel,h_1,h_2,h_3,h_4,h_5,h_6,h_7,h_8,h_9,g_10,h_11]
      refine Hid.brV (fun h_12 => ?_) (fun h_12 => ?_)
      ·replace H := HS.cnd_t h_12 H
       try simp -implicitDefEqProofs (maxSteps := 999999) [-selQ_sel,h_1,h_2,h_3,h_4,h_5,h_6,h_7,h_8,h_9,g_10,h_11,h_12]
       refine Hid.brV (fun h_13 => ?_) (fun h_13 => ?_)
       ·replace H := HS.cnd_t h_13 H
        try simp -implicitDefEqProofs (maxSteps := 999999) [-selQ_sel,h_1,h_2,h_3,h_4,h_5,h_6,h_7,h_8,h_9,g_10,h_11,h_12,h_13]
        have hr := (HS.some H).symm; subst hr
        refine Hid.mk ⟨_,Wk.refl _,?_⟩
        try simp -implicitDefEqProofs (maxSteps := 999999) [-selQ_sel,h_1,h_2,h_3,h_4,h_5,h_6,h_7,h_8,h_9,g_10,h_11,h_12,h_13]
       ·replace H := HS.cnd_f h_13 H
        try simp -implicitDefEqProofs (maxSteps := 999999) [-selQ_sel,h_1,h_2,h_3,h_4,h_5,h_6,h_7,h_8,h_9,g_10,h_11,h_12,h_13]
        have hr := (HS.some H).symm; subst hr
        refine Hid.mk ⟨_,Wk.refl _,?_⟩
        try simp -implicitDefEqProofs (maxSteps := 999999) [-selQ_sel,h_1,h_2,h_3,h_4,h_5,h_6,h_7,h_8,h_9,g_10,h_11,h_12,h_13]
      ·replace H := HS.cnd_f h_12 H
       try simp -implicitDefEqProofs (maxSteps := 999999) [-selQ_sel,h_1,h_2,h_3,h_4,h_5,h_6,h_7,h_8,h_9,g_10,h_11,h_12]
       have hr := (HS.some H).symm; subst hr
       refine Hid.mk ⟨_,Wk.refl _,?_⟩
       try simp -implicitDefEqProofs (maxSteps := 999999) [-selQ_sel,h_1,h_2,h_3,h_4,h_5,h_6,h_7,h_8,h_9,g_10,h_11,h_12]
     ·replace H := HS.cnd_f h_8 H
      try simp -implicitDefEqProofs (maxSteps := 999999) [-selQ_sel,h_1,h_2,h_3,h_4,h_5,h_6,h_7,h_8]
      have hr := (HS.some H).symm; subst hr
      refine Hid.mk ⟨_,Wk.refl _,?_⟩
      try simp -implicitDefEqProofs (maxSteps := 999999) [-selQ_sel,h_1,h_2,h_3,h_4,h_5,h_6,h_7,h_8]
    ·replace H := HS.cnd_f h_7 H
     try simp -implicitDefEqProofs (maxSteps := 999999) [-selQ_sel,h_1,h_2,h_3,h_4,h_5,h_6,h_7]
     have hr := (HS.some H).symm; subst hr
     refine Hid.mk ⟨_,Wk.refl _,?_⟩
     try simp -implicitDefEqProofs (maxSteps := 999999) [-selQ_sel,h_1,h_2,h_3,h_4,h_5,h_6,h_7]
   ·replace H := HS.cnd_f h_5 H
    try simp -implicitDefEqProofs (maxSteps := 999999) [-selQ_sel,h_1,h_2,h_3,h_4,h_5]
    have hr := (HS.some H).symm; subst hr
    refine Hid.mk ⟨_,Wk.refl _,?_⟩
    try simp -implicitDefEqProofs (maxSteps := 999999) [-selQ_sel,h_1,h_2,h_3,h_4,h_5]
  ·replace H := HS.cnd_f h_4 H
   try simp -implicitDefEqProofs (maxSteps := 999999) [-selQ_sel,h_1,h_2,h_3,h_4]
   have hr := (HS.some H).symm; subst hr
   refine Hid.mk ⟨_,Wk.refl _,?_⟩
   try simp -implicitDefEqProofs (maxSteps := 999999) [-selQ_sel,h_1,h_2,h_3,h_4]
 ·replace H := HS.cnd_f h_1 H
  try simp -implicitDefEqProofs (maxSteps := 999999) [-selQ_sel,h_1]
  have hr := (HS.some H).symm; subst hr
  refine Hid.mk ⟨_,Wk.refl _,?_⟩
  try simp -implicitDefEqProofs (maxSteps := 999999) [-selQ_sel,h_1]
theorem spec_Decimal_ok0 (hm : Tryd.prog.follows .mixedOrders = true) (k_spec_l01Figure : Sound Tryd.prog 63 spec_l01Figure_x) : Sound Tryd.prog 49 spec_Decimal_x := by
 refine xOf_sound fun q r h => ?_
 revert h; revert r; revert q; intro a0 r h
 refine fn_ok E0 hm Tryd.func49 rfl (by decide +kernel) (by rfl) fun Γ hn hk => ?_
 dsimp only [spec_Decimal_e,spec_Decimal_v]
 replace hn : Γ.n = 30 := hn
 replace hk : Γ.k = 0 := hk
 have H : HS (spec_Decimal a0) r := h
 clear h; unfold spec_Decimal at H
 try simp -implicitDefEqProofs at H
 refine Tr.of_vc (cl := tabC [(63,spec_l01Figure_x)]) (E := E0) [] (tab_cons k_spec_l01Figure tab_nil) hm (by rw [hn]; decide +kernel) ?_
 try simp -implicitDefEqProofs (maxSteps := 999999) [-selQ_sel]
 refine Hid.brV (fun h_1 => ?_) (fun h_1 => ?_)
 ·replace H := HS.cnd_t h_1 H
  try simp -implicitDefEqProofs (maxSteps := 999999) [-selQ_sel,h_1]
  have hr := (HS.some H).symm; subst hr
  refine Hid.mk ⟨_,Wk.refl _,?_⟩
  try simp -implicitDefEqProofs (maxSteps := 999999) [-selQ_sel,h_1]
 ·replace H := HS.cnd_f h_1 H
  try simp -implicitDefEqProofs (maxSteps := 999999) [-selQ_sel,h_1]
  obtain ⟨q,h_2,H⟩ := HS.bnd H
  refine Hid.mk (Tr.weak (s' := (spec_Decimal_l0_S a0) (a0,[])) (Wk.ofk [] hk (by rfl) (by simp -implicitDefEqProofs [spec_Decimal_l0_S,h_1]) (by simp -implicitDefEqProofs [spec_Decimal_l0_S,h_1])) ?_)
  refine wp_loop_of (S := (spec_Decimal_l0_S a0)) (f := (spec_Decimal_l0 a0)) (xt := (spec_Decimal_l0_X a0)) ?_ ?_ h_2 ?_
  ·intro q; simp [spec_Decimal_l0_X]
  ·clear H h_2 q
   rintro ⟨x3,x4⟩ o R hf hR
   have H : HS (spec_Decimal_l0 a0 (x3,x4)) o := hf
   clear hf; unfold spec_Decimal_l0 at H
   try simp -implicitDefEqProofs at H
   refine Tr.of_vc (cl := tabC [(63,spec_l01Figure_x)]) (E := E0) [] (tab_cons k_spec_l01Figure tab_nil) hm (by rw [hn]; decide +kernel) ?_
   try simp -implicitDefEqProofs (maxSteps := 999999) [-selQ_sel,spec_Decimal_l0_S]
   refine Hid.brV (fun h_3 => ?_) (fun h_3 => ?_)
   ·replace H := HS.cnd_t h_3 H
    try simp -implicitDefEqProofs (maxSteps := 999999) [-selQ_sel,h_3]
    have hr := (HS.some H).symm; subst hr
    exact Hid.mk ⟨(spec_Decimal_l0_X a0 x4).2,Wk.ofk [] hk (by rfl) (by simp -implicitDefEqProofs [spec_Decimal_l0_X,h_3]) (by simp -implicitDefEqProofs [spec_Decimal_l0_X,h_3]),hR⟩
   ·replace H := HS.cnd_f h_3 H
    try simp -implicitDefEqProofs (maxSteps := 999999) [-selQ_sel,h_3]
    refine Hid.brV (fun h_4 => ?_) (fun h_4 => ?_)
    ·replace H := HS.cnd_t h_4 H
     try simp -implicitDefEqProofs (maxSteps := 999999) [-selQ_sel,h_3,h_4]
     obtain ⟨v5,h_5,H⟩ := HS.bnd H
     try simp -implicitDefEqProofs (maxSteps := 999999) [-selQ_sel,h_3,h_4,h_5]
     obtain ⟨h_6,H⟩ := HS.chkP H
     try simp -implicitDefEqProofs (maxSteps := 999999) [-selQ_sel,h_3,h_4,h_5,h_6]
     have hr := (HS.some H).symm; subst hr
     exact Hid.mk ⟨spec_Decimal_l0_S a0 ((IntKind.i64.wrap (Int.tdiv x3 10)),((toBs [v5]) ++ x4)),Wk.ofk [] hk (by rfl) (by simp -implicitDefEqProofs [spec_Decimal_l0_S,h_3,h_4,h_5,h_6]) (by simp -implicitDefEqProofs [spec_Decimal_l0_S,h_3,h_4,h_5,h_6]),hR⟩
    ·replace H := HS.cnd_f h_4 H
     try simp -implicitDefEqProofs (maxSteps := 999999) [-selQ_sel,h_3,h_4]
     obtain ⟨v6,h_7,H⟩ := HS.bnd H
     try simp -implicitDefEqProofs (maxSteps := 999999) [-selQ_sel,h_3,h_4,h_7]
     obtain ⟨h_8,H⟩ := HS.chkP H
     try simp -implicitDefEqProofs (maxSteps := 999999) [-selQ_sel,h_3,h_4,h_7,h_8]
     have hr := (HS.some H).symm; subst hr
     exact Hid.mk ⟨spec_Decimal_l0_S a0 ((IntKind.i64.wrap (Int.tdiv x3 10)),((toBs [v6]) ++ x4)),Wk.ofk [] hk (by rfl) (by simp -implicitDefEqProofs [spec_Decimal_l0_S,h_3,h_4,h_7,h_8]) (by simp -implicitDefEqProofs [spec_Decimal_l0_S,h_3,h_4,h_7,h_8]),hR⟩
  ·revert H h_2; revert q; intro y7 h_2 H
   try dsimp only at H
   try simp -implicitDefEqProofs (maxSteps := 999999) [-selQ_sel,h_1,spec_Decimal_l0_X]
   refine Hid.brV (fun h_9 => ?_) (fun h_9 => ?_)
   ·replace H := HS.cnd_t h_9 H
    try simp -implicitDefEqProofs (maxSteps := 999999) [-selQ_sel,h_1,h_9]
    have hr := (HS.some H).symm; subst hr
    refine Hid.mk ⟨_,Wk.refl _,?_⟩
    try simp -implicitDefEqProofs (maxSteps := 999999) [-selQ_sel,h_1,h_9]
   ·replace H := HS.cnd_f h_9 H
    try simp -implicitDefEqProofs (maxSteps := 999999) [-selQ_sel,h_1,h_9]
    obtain ⟨h_10,H⟩ := HS.chkP H
    try simp -implicitDefEqProofs (maxSteps := 999999) [-selQ_sel,h_1,h_9,h_10]
    have hr := (HS.some H).symm; subst hr
    refine Hid.mk ⟨_,Wk.refl _,?_⟩
    try simp -implicitDefEqProofs (maxSteps := 999999) [-selQ_sel,h_1,h_9,h_10]
theorem laws_eqDeed_ok0 (hm : Tryd.prog.follows .mixedOrders = true) (k_laws_eqNode : Sound Tryd.prog 30 laws_eqNode_x) : Sound Tryd.prog 17 laws_eqDeed_x := by
 refine xOf_sound fun q r h => ?_
 obtain ⟨a0,a1⟩ := q
 refine fn_ok E0 hm Tryd.func17 rfl (by decide +kernel) (by rfl) fun Γ hn hk => ?_
 dsimp only [laws_eqDeed_e,laws_eqDeed_v]
 replace hn : Γ.n = 41 := hn
 replace hk : Γ.k = 0 := hk
 have H : HS (laws_eqDeed a0 a1) r := h
 clear h; unfold laws_eqDeed at H
 try simp -implicitDefEqProofs at H
 refine Tr.of_vc (cl := tabC [(30,laws_eqNode_x)]) (E := E0) [] (tab_cons k_laws_eqNode tab_nil) hm (by rw [hn]; decide +kernel) ?_
 try simp -implicitDefEqProofs (maxSteps := 999999) [-selQ_sel]
 refine Hid.brV (fun h_1 => ?_) (fun h_1 => ?_)
 ·replace H := HS.cnd_t h_1 H
  try simp -implicitDefEqProofs (maxSteps := 999999) [-selQ_sel,h_1]
  obtain ⟨v1,h_2,H⟩ := HS.bnd H
  try simp -implicitDefEqProofs (maxSteps := 999999) [-selQ_sel,h_1,h_2]
  refine Hid.brV (fun h_3 => ?_) (fun h_3 => ?_)
  ·replace H := HS.cnd_t h_3 H
   try simp -implicitDefEqProofs (maxSteps := 999999) [-selQ_sel,h_1,h_2,h_3]
   refine Hid.brV (fun h_4 => ?_) (fun h_4 => ?_)
   ·replace H := HS.cnd_t h_4 H
    try simp -implicitDefEqProofs (maxSteps := 999999) [-selQ_sel,h_1,h_2,h_3,h_4]
    refine Hid.brV (fun h_5 => ?_) (fun h_5 => ?_)
    ·replace H := HS.cnd_t h_5 H
     try simp -implicitDefEqProofs (maxSteps := 999999) [-selQ_sel,h_1,h_2,h_3,h_4,h_5]
     refine Hid.brV (fun h_6 => ?_) (fun h_6 => ?_)
     ·replace H := HS.cnd_t h_6 H
      try simp -implicitDefEqProofs (maxSteps := 999999) [-selQ_sel,h_1,h_2,h_3,h_4,h_5,h_6]
      refine Hid.brV (fun h_7 => ?_) (fun h_7 => ?_)
      ·replace H := HS.cnd_t h_7 H
       try simp -implicitDefEqProofs (maxSteps := 999999) [-selQ_sel,h_1,h_2,h_3,h_4,h_5,h_6,h_7]
       refine Hid.brV (fun h_8 => ?_) (fun h_8 => ?_)
       ·replace H := HS.cnd_t h_8 H
        try simp -implicitDefEqProofs (maxSteps := 999999) [-selQ_sel,h_1,h_2,h_3,h_4,h_5,h_6,h_7,h_8]
        have hr := (HS.some H).symm; subst hr
        refine Hid.mk ⟨_,Wk.refl _,?_⟩
        try simp -implicitDefEqProofs (maxSteps := 999999) [-selQ_sel,h_1,h_2,h_3,h_4,h_5,h_6,h_7,h_8]
       ·replace H := HS.cnd_f h_8 H
        try simp -implicitDefEqProofs (maxSteps := 999999) [-selQ_sel,h_1,h_2,h_3,h_4,h_5,h_6,h_7,h_8]
        have hr := (HS.some H).symm; subst hr
        refine Hid.mk ⟨_,Wk.refl _,?_⟩
        try simp -implicitDefEqProofs (maxSteps := 999999) [-selQ_sel,h_1,h_2,h_3,h_4,h_5,h_6,h_7,h_8]
      ·replace H := HS.cnd_f h_7 H
       try simp -implicitDefEqProofs (maxSteps := 999999) [-selQ_sel,h_1,h_2,h_3,h_4,h_5,h_6,h_7]
       have hr := (HS.some H).symm; subst hr
       refine Hid.mk ⟨_,Wk.refl _,?_⟩
       try simp -implicitDefEqProofs (maxSteps := 999999) [-selQ_sel,h_1,h_2,h_3,h_4,h_5,h_6,h_7]
     ·replace H := HS.cnd_f h_6 H
      try simp -implicitDefEqProofs (maxSteps := 999999) [-selQ_sel,h_1,h_2,h_3,h_4,h_5,h_6]
      have hr := (HS.some H).symm; subst hr
      refine Hid.mk ⟨_,Wk.refl _,?_⟩
      try simp -implicitDefEqProofs (maxSteps := 999999) [-selQ_sel,h_1,h_2,h_3,h_4,h_5,h_6]
    ·replace H := HS.cnd_f h_5 H
     try simp -implicitDefEqProofs (maxSteps := 999999) [-selQ_sel,h_1,h_2,h_3,h_4,h_5]
     have hr := (HS.some H).symm; subst hr
     refine Hid.mk ⟨_,Wk.refl _,?_⟩
     try simp -implicitDefEqProofs (maxSteps := 999999) [-selQ_sel,h_1,h_2,h_3,h_4,h_5]
   ·replace H := HS.cnd_f h_4 H
    try simp -implicitDefEqProofs (maxSteps := 999999) [-selQ_sel,h_1,h_2,h_3,h_4]
    have hr := (HS.some H).symm; subst hr
    refine Hid.mk ⟨_,Wk.refl _,?_⟩
    try simp -implicitDefEqProofs (maxSteps := 999999) [-selQ_sel,h_1,h_2,h_3,h_4]
  ·replace H := HS.cnd_f h_3 H
   try simp -implicitDefEqProofs (maxSteps := 999999) [-selQ_sel,h_1,h_2,h_3]
   have hr := (HS.some H).symm; subst hr
   refine Hid.mk ⟨_,Wk.refl _,?_⟩
   try simp -implicitDefEqProofs (maxSteps := 999999) [-selQ_sel,h_1,h_2,h_3]
 ·replace H := HS.cnd_f h_1 H
  try simp -implicitDefEqProofs (maxSteps := 999999) [-selQ_sel,h_1]
  have hr := (HS.some H).symm; subst hr
  refine Hid.mk ⟨_,Wk.refl _,?_⟩
  try simp -implicitDefEqProofs (maxSteps := 999999) [-selQ_sel,h_1]
theorem laws_eqIntS_ok0 (hm : Tryd.prog.follows .mixedOrders = true) : Sound Tryd.prog 44 laws_eqIntS_x := by
 refine xOf_sound fun q r h => ?_
 obtain ⟨a0,a1⟩ := q
 refine fn_ok E0 hm Tryd.func44 rfl (by decide +kernel) (by rfl) fun Γ hn hk => ?_
 dsimp only [laws_eqIntS_e,laws_eqIntS_v]
 replace hn : Γ.n = 26 := hn
 replace hk : Γ.k = 0 := hk
 have H : HS (laws_eqIntS a0 a1) r := h
 clear h; unfold laws_eqIntS at H
 try simp -implicitDefEqProofs at H
 refine Tr.of_vc (cl := tabC []) (E := E0) [] tab_nil hm (by rw [hn]; decide +kernel) ?_
 try simp -implicitDefEqProofs +decide (maxSteps := 999999) [-selQ_sel,hokQ_of]
 refine Hid.brV (fun h_1 => ?_) (fun h_1 => ?_)
 ·replace H := HS.cnd_t h_1 H
  try simp -implicitDefEqProofs +decide (maxSteps := 999999) [-selQ_sel,hokQ_of,h_1]
  obtain ⟨q,h_2,H⟩ := HS.bnd H
  refine Hid.mk (Tr.weak (s' := (laws_eqIntS_l0_S a0 a1) 0) (Wk.ofk [] hk (by rfl) (by simp -implicitDefEqProofs [laws_eqIntS_l0_S,h_1]) (by simp -implicitDefEqProofs [laws_eqIntS_l0_S,h_1])) ?_)
  refine wp_loop_of (S := (laws_eqIntS_l0_S a0 a1)) (f := (laws_eqIntS_l0 a0 a1)) (xt := (laws_eqIntS_l0_X a0 a1)) ?_ ?_ h_2 ?_
  ·intro q; rcases q with ⟨⟩ | ⟨⟩ <;> simp [laws_eqIntS_l0_X]
  ·clear H h_2 q
   rintro x3 o R hf hR
   have H : HS (laws_eqIntS_l0 a0 a1 x3) o := hf
   clear hf; unfold laws_eqIntS_l0 at H
   try simp -implicitDefEqProofs at H
   refine Tr.of_vc (cl := tabC []) (E := E0) [] tab_nil hm (by rw [hn]; decide +kernel) ?_
   try simp -implicitDefEqProofs +decide (maxSteps := 999999) [-selQ_sel,hokQ_of,laws_eqIntS_l0_S]
   refine Hid.brV (fun h_3 => ?_) (fun h_3 => ?_)
   ·replace H := HS.cnd_t h_3 H
    try simp -implicitDefEqProofs +decide (maxSteps := 999999) [-selQ_sel,hokQ_of,h_3]
    have hr := (HS.some H).symm; subst hr
    exact Hid.mk ⟨(laws_eqIntS_l0_X a0 a1 (.inl ())).2,Wk.ofk [] hk (by rfl) (by simp -implicitDefEqProofs [laws_eqIntS_l0_X,h_3]) (by simp -implicitDefEqProofs [laws_eqIntS_l0_X,h_3]),hR⟩
   ·replace H := HS.cnd_f h_3 H
    try simp -implicitDefEqProofs +decide (maxSteps := 999999) [-selQ_sel,hokQ_of,h_3]
    obtain ⟨v4,h_4,H⟩ := HS.bnd H
    try simp -implicitDefEqProofs +decide (maxSteps := 999999) [-selQ_sel,hokQ_of,h_3,h_4]
    obtain ⟨v5,h_5,H⟩ := HS.bnd H
    try simp -implicitDefEqProofs +decide (maxSteps := 999999) [-selQ_sel,hokQ_of,h_3,h_4,h_5]
    refine Hid.brV (fun h_6 => ?_) (fun h_6 => ?_)
    ·replace H := HS.cnd_t h_6 H
     try simp -implicitDefEqProofs +decide (maxSteps := 999999) [-selQ_sel,hokQ_of,h_3,h_4,h_5,h_6]
     have hr := (HS.some H).symm; subst hr
     exact Hid.mk ⟨laws_eqIntS_l0_S a0 a1 (IntKind.i64.wrap (x3 + 1)),Wk.ofk [] hk (by rfl) (by simp -implicitDefEqProofs [laws_eqIntS_l0_S,h_3,h_4,h_5,h_6]) (by simp -implicitDefEqProofs [laws_eqIntS_l0_S,h_3,h_4,h_5,h_6]),hR⟩
    ·replace H := HS.cnd_f h_6 H
     try simp -implicitDefEqProofs +decide (maxSteps := 999999) [-selQ_sel,hokQ_of,h_3,h_4,h_5,h_6]
     have hr := (HS.some H).symm; subst hr
     exact Hid.mk ⟨(laws_eqIntS_l0_X a0 a1 (.inr ())).2,Wk.ofk [] hk (by rfl) (by simp -implicitDefEqProofs [laws_eqIntS_l0_X,h_3,h_4,h_5,h_6]) (by simp -implicitDefEqProofs [laws_eqIntS_l0_X,h_3,h_4,h_5,h_6]),hR⟩
  ·rcases q with ⟨⟩ | ⟨⟩
   ·dsimp only at H
    try simp -implicitDefEqProofs +decide (maxSteps := 999999) [-selQ_sel,hokQ_of,h_1,laws_eqIntS_l0_X]
    have hr := (HS.some H).symm; subst hr
    refine Hid.mk ⟨_,Wk.refl _,?_⟩
    try simp -implicitDefEqProofs +decide (maxSteps := 999999) [-selQ_sel,hokQ_of,h_1]
   ·dsimp only at H
    try simp -implicitDefEqProofs +decide (maxSteps := 999999) [-selQ_sel,hokQ_of,h_1,laws_eqIntS_l0_X]
    have hr := (HS.some H).symm; subst hr
    refine Hid.mk ⟨_,Wk.refl _,?_⟩
    try simp -implicitDefEqProofs +decide (maxSteps := 999999) [-selQ_sel,hokQ_of,h_1]
 ·replace H := HS.cnd_f h_1 H
  try simp -implicitDefEqProofs +decide (maxSteps := 999999) [-selQ_sel,hokQ_of,h_1]
  have hr := (HS.some H).symm; subst hr
  refine Hid.mk ⟨_,Wk.refl _,?_⟩
  try simp -implicitDefEqProofs +decide (maxSteps := 999999) [-selQ_sel,hokQ_of,h_1]
theorem impl_readDeed_ok0 (hm : Tryd.prog.follows .mixedOrders = true) (k_impl_lineReader_deed : Sound Tryd.prog 28 impl_lineReader_deed_x) : Sound Tryd.prog 15 impl_readDeed_x := by
 refine xOf_sound fun q r h => ?_
 revert h; revert r; revert q; intro a0 r h
 refine fn_ok E0 hm Tryd.func15 rfl (by decide +kernel) (by rfl) fun Γ hn hk => ?_
 dsimp only [impl_readDeed_e,impl_readDeed_v]
 replace hn : Γ.n = 19 := hn
 replace hk : Γ.k = 0 := hk
 have H : HS (impl_readDeed a0) r := h
 clear h; unfold impl_readDeed at H
 try simp -implicitDefEqProofs at H
 refine Tr.of_vc (cl := tabC [(28,impl_lineReader_deed_x)]) (E := E0) [] (tab_cons k_impl_lineReader_deed tab_nil) hm (by rw [hn]; decide +kernel) ?_
 try simp -implicitDefEqProofs +decide (maxSteps := 999999) [-selQ_sel,hokQ_of]
 obtain ⟨⟨w2,w3,w4,w5,w6,w7,w8,w9,w10,w11,w12,w13,w14,w15,w16,w17,w18,w19⟩,h_1,H⟩ := HS.bnd H
 try dsimp only at H
 have k_2 := impl_lineReader_deed_k ((TLineReader.mk a0 false).parts) ((TLineReader.mk a0 false).bad)
 simp -implicitDefEqProofs [-impl_lineReader_deed_k] at k_2
 try simp -implicitDefEqProofs +decide (maxSteps := 999999) [-selQ_sel,hokQ_of,h_1,k_2]
 refine Hid.selQ (fun h_3 => ?_) (fun h_3 => ?_)
 ·replace H := HS.cnd_t h_3 H
  try simp -implicitDefEqProofs +decide (maxSteps := 999999) [-selQ_sel,hokQ_of,h_1,k_2,h_3]
  have hr := (HS.some H).symm; subst hr
  refine Hid.mk ⟨⟨[(2,AV.optr 0 0 37),(3,AV.bool false)],[(0,Ob.box [AV.int .i64 w2,AV.int .i64 w3,AV.int .i64 w4,AV.bool w5,AV.int .i64 w6.a,AV.int .i64 w6.b,AV.int .i64 w6.c,AV.int .i64 w6.d,AV.int .i64 w6.e,AV.int .i64 w6.f,AV.osl 1 0 (List.length w18) (List.length w18),AV.osl 2 0 (List.length w19) (List.length w19),AV.bool w7,AV.int .i64 w8,AV.nilsl,AV.int .i64 w9.kind,AV.int .i64 w9.first.r,AV.int .i64 w9.first.g,AV.int .i64 w9.first.b,AV.int .i64 w9.first.a,AV.int .i64 w9.last.r,AV.int .i64 w9.last.g,AV.int .i64 w9.last.b,AV.int .i64 w9.last.a,AV.int .i64 w9.from_.x,AV.int .i64 w9.from_.y,AV.int .i64 w9.to.x,AV.int .i64 w9.to.y,AV.int .i64 w10,AV.int .i64 w11,AV.nilsl,AV.nilsl,AV.int .i64 w12,AV.int .i64 w13,AV.int .i64 w14,AV.int .i64 w15,AV.int .i64 w16]),(1,Ob.arr 1 (List.map (AV.int .i64) w18) false),(2,Ob.arr 2 (List.map ePoint w19) false)],3⟩,Wk.ofk [0,2,3] hk (by rfl) (by simp -implicitDefEqProofs [h_1,k_2,h_3]) (by simp -implicitDefEqProofs [h_1,k_2,h_3]),?_⟩
  try simp -implicitDefEqProofs +decide (maxSteps := 999999) [-selQ_sel,hokQ_of,h_1,k_2,h_3]
 ·replace H := HS.cnd_f h_3 H
  try simp -implicitDefEqProofs +decide (maxSteps := 999999) [-selQ_sel,hokQ_of,h_1,k_2,h_3]
  have hr := (HS.some H).symm; subst hr
  refine Hid.mk ⟨⟨[(2,AV.optr 0 0 37),(3,AV.bool (ieq (List.length w17.parts : Int) 0))],[(0,Ob.box [AV.int .i64 w2,AV.int .i64 w3,AV.int .i64 w4,AV.bool w5,AV.int .i64 w6.a,AV.int .i64 w6.b,AV.int .i64 w6.c,AV.int .i64 w6.d,AV.int .i64 w6.e,AV.int .i64 w6.f,AV.osl 1 0 (List.length w18) (List.length w18),AV.osl 2 0 (List.length w19) (List.length w19),AV.bool w7,AV.int .i64 w8,AV.nilsl,AV.int .i64 w9.kind,AV.int .i64 w9.first.r,AV.int .i64 w9.first.g,AV.int .i64 w9.first.b,AV.int .i64 w9.first.a,AV.int .i64 w9.last.r,AV.int .i64 w9.last.g,AV.int .i64 w9.last.b,AV.int .i64 w9.last.a,AV.int .i64 w9.from_.x,AV.int .i64 w9.from_.y,AV.int .i64 w9.to.x,AV.int .i64 w9.to.y,AV.int .i64 w10,AV.int .i64 w11,AV.nilsl,AV.nilsl,AV.int .i64 w12,AV.int .i64 w13,AV.int .i64 w14,AV.int .i64 w15,AV.int .i64 w16]),(1,Ob.arr 1 (List.map (AV.int .i64) w18) false),(2,Ob.arr 2 (List.map ePoint w19) false)],3⟩,Wk.ofk [0,2,3] hk (by rfl) (by simp -implicitDefEqProofs [h_1,k_2,h_3]) (by simp -implicitDefEqProofs [h_1,k_2,h_3]),?_⟩
  try simp -implicitDefEqProofs +decide (maxSteps := 999999) [-selQ_sel,hokQ_of,h_1,k_2,h_3]
theorem laws_eqMat_ok0 (hm : Tryd.prog.follows .mixedOrders = true) : Sound Tryd.prog 42 laws_eqMat_x := by
 refine xOf_sound fun q r h => ?_
 obtain ⟨a0,a1⟩ := q
 refine fn_ok E0 hm Tryd.func42 rfl (by decide +kernel) (by rfl) fun Γ hn hk => ?_
 dsimp only [laws_eqMat_e,laws_eqMat_v]
 replace hn : Γ.n = 35 := hn
 replace hk : Γ.k = 0 := hk
 have H : HS (laws_eqMat a0 a1) r := h
 clear h; unfold laws_eqMat at H
 try simp -implicitDefEqProofs at H
 refine Tr.of_vc (cl := tabC []) (E := E0) [] tab_nil hm (by rw [hn]; decide +kernel) ?_
 try simp -implicitDefEqProofs (maxSteps := 999999) [-selQ_sel]
 refine Hid.brV (fun h_1 => ?_) (fun h_1 => ?_)
 ·replace H := HS.cnd_t h_1 H
  try simp -implicitDefEqProofs (maxSteps := 999999) [-selQ_sel,h_1]
  refine Hid.brV (fun h_2 => ?_) (fun h_2 => ?_)
  ·replace H := HS.cnd_t h_2 H
   try simp -implicitDefEqProofs (maxSteps := 999999) [-selQ_sel,h_1,h_2]
   refine Hid.brV (fun h_3 => ?_) (fun h_3 => ?_)
   ·replace H := HS.cnd_t h_3 H
    try simp -implicitDefEqProofs (maxSteps := 999999) [-selQ_sel,h_1,h_2,h_3]
    refine Hid.brV (fun h_4 => ?_) (fun h_4 => ?_)
    ·replace H := HS.cnd_t h_4 H
     try simp -implicitDefEqProofs (maxSteps := 999999) [-selQ_sel,h_1,h_2,h_3,h_4]
     refine Hid.brV (fun h_5 => ?_) (fun h_5 => ?_)
     ·replace H := HS.cnd_t h_5 H
      try simp -implicitDefEqProofs (maxSteps := 999999) [-selQ_sel,h_1,h_2,h_3,h_4,h_5]
      refine Hid.brV (fun h_6 => ?_) (fun h_6 => ?_)
      ·replace H := HS.cnd_t h_6 H
       try simp -implicitDefEqProofs (maxSteps := 999999) [-selQ_sel,h_1,h_2,h_3,h_4,h_5,h_6]
       have hr := (HS.some H).symm; subst hr
       refine Hid.mk ⟨_,Wk.refl _,?_⟩
       try simp -implicitDefEqProofs (maxSteps := 999999) [-selQ_sel,h_1,h_2,h_3,h_4,h_5,h_6]
      ·replace H := HS.cnd_f h_6 H
       try simp -implicitDefEqProofs (maxSteps := 999999) [-selQ_sel,h_1,h_2,h_3,h_4,h_5,h_6]
       have hr := (HS.some H).symm; subst hr
       refine Hid.mk ⟨_,Wk.refl _,?_⟩
       try simp -implicitDefEqProofs (maxSteps := 999999) [-selQ_sel,h_1,h_2,h_3,h_4,h_5,h_6]
     ·replace H := HS.cnd_f h_5 H
      try simp -implicitDefEqProofs (maxSteps := 999999) [-selQ_sel,h_1,h_2,h_3,h_4,h_5]
      have hr := (HS.some H).symm; subst hr
      refine Hid.mk ⟨_,Wk.refl _,?_⟩
      try simp -implicitDefEqProofs (maxSteps := 999999) [-selQ_sel,h_1,h_2,h_3,h_4,h_5]
    ·replace H := HS.cnd_f h_4 H
     try simp -implicitDefEqProofs (maxSteps := 999999) [-selQ_sel,h_1,h_2,h_3,h_4]
     have hr := (HS.some H).symm; subst hr
     refine Hid.mk ⟨_,Wk.refl _,?_⟩
     try simp -implicitDefEqProofs (maxSteps := 999999) [-selQ_sel,h_1,h_2,h_3,h_4]
   ·replace H := HS.cnd_f h_3 H
    try simp -implicitDefEqProofs (maxSteps := 999999) [-selQ_sel,h_1,h_2,h_3]
    have hr := (HS.some H).symm; subst hr
    refine Hid.mk ⟨_,Wk.refl _,?_⟩
    try simp -implicitDefEqProofs (maxSteps := 999999) [-selQ_sel,h_1,h_2,h_3]
  ·replace H := HS.cnd_f h_2 H
   try simp -implicitDefEqProofs (maxSteps := 999999) [-selQ_sel,h_1,h_2]
   have hr := (HS.some H).symm; subst hr
   refine Hid.mk ⟨_,Wk.refl _,?_⟩
   try simp -implicitDefEqProofs (maxSteps := 999999) [-selQ_sel,h_1,h_2]
 ·replace H := HS.cnd_f h_1 H
  try simp -implicitDefEqProofs (maxSteps := 999999) [-selQ_sel,h_1]
  have hr := (HS.some H).symm; subst hr
  refine Hid.mk ⟨_,Wk.refl _,?_⟩
  try simp -implicitDefEqProofs (maxSteps := 999999) [-selQ_sel,h_1]
theorem laws_heldIntS_ok0 (hm : Tryd.prog.follows .mixedOrders = true) : Sound Tryd.prog 20 laws_heldIntS_x := by
 refine xOf_sound fun q r h => ?_
 obtain ⟨a0,a1⟩ := q
 refine fn_ok E0 hm Tryd.func20 rfl (by decide +kernel) (by rfl) fun Γ hn hk => ?_
 dsimp only [laws_heldIntS_e,laws_heldIntS_v]
 replace hn : Γ.n = 21 := hn
 replace hk : Γ.k = 0 := hk
 have H : HS (laws_heldIntS a0 a1) r := h
 clear h; unfold laws_heldIntS at H
 try simp -implicitDefEqProofs at H
 refine Tr.of_vc (cl := tabC []) (E := E0) [] tab_nil hm (by rw [hn]; decide +kernel) ?_
 try simp -implicitDefEqProofs (maxSteps := 999999) [-selQ_sel]
 obtain ⟨q,h_1,H⟩ := HS.bnd H
 refine Hid.mk (Tr.weak (s' := (laws_heldIntS_l0_S a0) (a1,0)) (Wk.ofk [] hk (by rfl) (by simp -implicitDefEqProofs [laws_heldIntS_l0_S]) (by simp -implicitDefEqProofs [laws_heldIntS_l0_S])) ?_)
 refine wp_loop_of (S := (laws_heldIntS_l0_S a0)) (f := (laws_heldIntS_l0 a0)) (xt := (laws_heldIntS_l0_X a0)) ?_ ?_ h_1 ?_
 ·intro q; rcases q with y5 | ⟨⟩ <;> simp [laws_heldIntS_l0_X]
 ·clear H h_1 q
  rintro ⟨x2,x3⟩ o R hf hR
  have H : HS (laws_heldIntS_l0 a0 (x2,x3)) o := hf
  clear hf; unfold laws_heldIntS_l0 at H
  try simp -implicitDefEqProofs at H
  refine Tr.of_vc (cl := tabC []) (E := E0) [] tab_nil hm (by rw [hn]; decide +kernel) ?_
  try simp -implicitDefEqProofs (maxSteps := 999999) [-selQ_sel,laws_heldIntS_l0_S]
  refine Hid.brV (fun h_2 => ?_) (fun h_2 => ?_)
  ·replace H := HS.cnd_t h_2 H
   try simp -implicitDefEqProofs (maxSteps := 999999) [-selQ_sel,h_2]
   have hr := (HS.some H).symm; subst hr
   exact Hid.mk ⟨(laws_heldIntS_l0_X a0 (.inl x2)).2,Wk.ofk [] hk (by rfl) (by simp -implicitDefEqProofs [laws_heldIntS_l0_X,h_2]) (by simp -implicitDefEqProofs [laws_heldIntS_l0_X,h_2]),hR⟩
  ·replace H := HS.cnd_f h_2 H
   try simp -implicitDefEqProofs (maxSteps := 999999) [-selQ_sel,h_2]
   obtain ⟨v4,h_3,H⟩ := HS.bnd H
   try simp -implicitDefEqProofs (maxSteps := 999999) [-selQ_sel,h_2,h_3]
   refine Hid.brV (fun h_4 => ?_) (fun h_4 => ?_)
   ·replace H := HS.cnd_t h_4 H
    try simp -implicitDefEqProofs (maxSteps := 999999) [-selQ_sel,h_2,h_3,h_4]
    have hr := (HS.some H).symm; subst hr
    exact Hid.mk ⟨laws_heldIntS_l0_S a0 ((IntKind.i64.wrap (x2 + 1)),(IntKind.i64.wrap (x3 + 1))),Wk.ofk [] hk (by rfl) (by simp -implicitDefEqProofs [laws_heldIntS_l0_S,h_2,h_3,h_4]) (by simp -implicitDefEqProofs [laws_heldIntS_l0_S,h_2,h_3,h_4]),hR⟩
   ·replace H := HS.cnd_f h_4 H
    try simp -implicitDefEqProofs (maxSteps := 999999) [-selQ_sel,h_2,h_3,h_4]
    have hr := (HS.some H).symm; subst hr
    exact Hid.mk ⟨(laws_heldIntS_l0_X a0 (.inr ())).2,Wk.ofk [] hk (by rfl) (by simp -implicitDefEqProofs [laws_heldIntS_l0_X,h_2,h_3,h_4]) (by simp -implicitDefEqProofs [laws_heldIntS_l0_X,h_2,h_3,h_4]),hR⟩
 ·rcases q with y5 | ⟨⟩
  ·dsimp only at H
   try simp -implicitDefEqProofs (maxSteps := 999999) [-selQ_sel,laws_heldIntS_l0_X]
   have hr := (HS.some H).symm; subst hr
   refine Hid.mk ⟨_,Wk.refl _,?_⟩
   try simp -implicitDefEqProofs (maxSteps := 999999) [-selQ_sel]
  ·dsimp only at H
   try simp -implicitDefEqProofs (maxSteps := 999999) [-selQ_sel,laws_heldIntS_l0_X]
   have hr := (HS.some H).symm; subst hr
   refine Hid.mk ⟨_,Wk.refl _,?_⟩
   try simp -implicitDefEqProofs (maxSteps := 999999) [-selQ_sel]
theorem impl_lineReader_color_ok0 (hm : Tryd.prog.follows .mixedOrders = true) (k_impl_lineReader_next : Sound Tryd.prog 39 impl_lineReader_next_x) (k_impl_Unhex : Sound Tryd.prog 71 impl_Unhex_x) : Sound Tryd.prog 57 impl_lineReader_color_x := by
 refine xOf_sound fun q r h => ?_
 revert h; revert r; revert q; intro a0 r h
 refine fn_ok E0 hm Tryd.func57 rfl (by decide +kernel) (by rfl) fun Γ hn hk => ?_
 dsimp only [impl_lineReader_color_e,impl_lineReader_color_v]
 replace hn : Γ.n = 35 := hn
 replace hk : Γ.k = 1 := hk
 have H : HS (impl_lineReader_color a0) r := h
 clear h; unfold impl_lineReader_color at H
 try simp -implicitDefEqProofs at H
 refine Tr.of_vc (cl := tabC [(39,impl_lineReader_next_x),(71,impl_Unhex_x)]) (E := E0) [] (tab_cons k_impl_lineReader_next (tab_cons k_impl_Unhex tab_nil)) hm (by rw [hn]; decide +kernel) ?_
 try simp -implicitDefEqProofs +decide (maxSteps := 999999) [-selQ_sel,hokQ_of]
 obtain ⟨⟨w2,w3⟩,h_1,H⟩ := HS.bnd H
 try dsimp only at H
 try simp -implicitDefEqProofs +decide (maxSteps := 999999) [-selQ_sel,hokQ_of,h_1]
 obtain ⟨⟨w5,w6⟩,h_2,H⟩ := HS.bnd H
 try dsimp only at H
 try simp -implicitDefEqProofs +decide (maxSteps := 999999) [-selQ_sel,hokQ_of,h_1,h_2]
 refine Hid.selQ (fun h_3 => ?_) (fun h_3 => ?_)
 ·replace H := HS.cnd_t h_3 H
  try simp -implicitDefEqProofs +decide (maxSteps := 999999) [-selQ_sel,hokQ_of,h_1,h_2,h_3]
  refine Hid.brV (fun h_4 => ?_) (fun h_4 => ?_)
  ·replace H := HS.cnd_t h_4 H
   try simp -implicitDefEqProofs +decide (maxSteps := 999999) [-selQ_sel,hokQ_of,h_1,h_2,h_3,h_4]
   obtain ⟨b7,h_5,H⟩ := HS.bnd H
   try simp -implicitDefEqProofs +decide (maxSteps := 999999) [-selQ_sel,hokQ_of,h_1,h_2,h_3,h_4,h_5]
   obtain ⟨b8,h_6,H⟩ := HS.bnd H
   try simp -implicitDefEqProofs +decide (maxSteps := 999999) [-selQ_sel,hokQ_of,h_1,h_2,h_3,h_4,h_5,h_6]
   obtain ⟨b9,h_7,H⟩ := HS.bnd H
   try simp -implicitDefEqProofs +decide (maxSteps := 999999) [-selQ_sel,hokQ_of,h_1,h_2,h_3,h_4,h_5,h_6,h_7]
   obtain ⟨b10,h_8,H⟩ := HS.bnd H
   try simp -implicitDefEqProofs +decide (maxSteps := 999999) [-selQ_sel,hokQ_of,h_1,h_2,h_3,h_4,h_5,h_6,h_7,h_8]
   have hr := (HS.some H).symm; subst hr
   refine Hid.mk ⟨_,Wk.refl _,?_⟩
   try simp -implicitDefEqProofs +decide (maxSteps := 999999) [-selQ_sel,hokQ_of,h_1,h_2,h_3,h_4,h_5,h_6,h_7,h_8]
  ·replace H := HS.cnd_f h_4 H
   try simp -implicitDefEqProofs +decide (maxSteps := 999999) [-selQ_sel,hokQ_of,h_1,h_2,h_3,h_4]
   have hr := (HS.some H).symm; subst hr
   refine Hid.mk ⟨_,Wk.refl _,?_⟩
   try simp -implicitDefEqProofs +decide (maxSteps := 999999) [-selQ_sel,hokQ_of,h_1,h_2,h_3,h_4]
 ·replace H := HS.cnd_f h_3 H
  try simp -implicitDefEqProofs +decide (maxSteps := 999999) [-selQ_sel,hokQ_of,h_1,h_2,h_3]
  have hr := (HS.some H).symm; subst hr
  refine Hid.mk ⟨_,Wk.refl _,?_⟩
  try simp -implicitDefEqProofs +decide (maxSteps := 999999) [-selQ_sel,hokQ_of,h_1,h_2,h_3]
theorem laws_eqColor_ok0 (hm : Tryd.prog.follows .mixedOrders = true) : Sound Tryd.prog 60 laws_eqColor_x := by
 refine xOf_sound fun q r h => ?_
 obtain ⟨a0,a1⟩ := q
 refine fn_ok E0 hm Tryd.func60 rfl (by decide +kernel) (by rfl) fun Γ hn hk => ?_
 dsimp only [laws_eqColor_e,laws_eqColor_v]
 replace hn : Γ.n = 25 := hn
 replace hk : Γ.k = 0 := hk
 have H : HS (laws_eqColor a0 a1) r := h
 clear h; unfold laws_eqColor at H
 try simp -implicitDefEqProofs at H
 refine Tr.of_vc (cl := tabC []) (E := E0) [] tab_nil hm (by rw [hn]; decide +kernel) ?_
 try simp -implicitDefEqProofs (maxSteps := 999999) [-selQ_sel]
 refine Hid.brV (fun h_1 => ?_) (fun h_1 => ?_)
 ·replace H := HS.cnd_t h_1 H
  try simp -implicitDefEqProofs (maxSteps := 999999) [-selQ_sel,h_1]
  refine Hid.brV (fun h_2 => ?_) (fun h_2 => ?_)
  ·replace H := HS.cnd_t h_2 H
   try simp -implicitDefEqProofs (maxSteps := 999999) [-selQ_sel,h_1,h_2]
   refine Hid.brV (fun h_3 => ?_) (fun h_3 => ?_)
   ·replace H := HS.cnd_t h_3 H
    try simp -implicitDefEqProofs (maxSteps := 999999) [-selQ_sel,h_1,h_2,h_3]
    refine Hid.brV (fun h_4 => ?_) (fun h_4 => ?_)
    ·replace H := HS.cnd_t h_4 H
     try simp -implicitDefEqProofs (maxSteps := 999999) [-selQ_sel,h_1,h_2,h_3,h_4]
     have hr := (HS.some H).symm; subst hr
     refine Hid.mk ⟨_,Wk.refl _,?_⟩
     try simp -implicitDefEqProofs (maxSteps := 999999) [-selQ_sel,h_1,h_2,h_3,h_4]
    ·replace H := HS.cnd_f h_4 H
     try simp -implicitDefEqProofs (maxSteps := 999999) [-selQ_sel,h_1,h_2,h_3,h_4]
     have hr := (HS.some H).symm; subst hr
     refine Hid.mk ⟨_,Wk.refl _,?_⟩
     try simp -implicitDefEqProofs (maxSteps := 999999) [-selQ_sel,h_1,h_2,h_3,h_4]
   ·replace H := HS.cnd_f h_3 H
    try simp -implicitDefEqProofs (maxSteps := 999999) [-selQ_sel,h_1,h_2,h_3]
    have hr := (HS.some H).symm; subst hr
    refine Hid.mk ⟨_,Wk.refl _,?_⟩
    try simp -implicitDefEqProofs (maxSteps := 999999) [-selQ_sel,h_1,h_2,h_3]
  ·replace H := HS.cnd_f h_2 H
   try simp -implicitDefEqProofs (maxSteps := 999999) [-selQ_sel,h_1,h_2]
   have hr := (HS.some H).symm; subst hr
   refine Hid.mk ⟨_,Wk.refl _,?_⟩
   try simp -implicitDefEqProofs (maxSteps := 999999) [-selQ_sel,h_1,h_2]
 ·replace H := HS.cnd_f h_1 H
  try simp -implicitDefEqProofs (maxSteps := 999999) [-selQ_sel,h_1]
  have hr := (HS.some H).symm; subst hr
  refine Hid.mk ⟨_,Wk.refl _,?_⟩
  try simp -implicitDefEqProofs (maxSteps := 999999) [-selQ_sel,h_1]
theorem laws_eqPath_ok0 (hm : Tryd.prog.follows .mixedOrders = true) (k_laws_eqIntS : Sound Tryd.prog 44 laws_eqIntS_x) (k_laws_eqPointS : Sound Tryd.prog 59 laws_eqPointS_x) : Sound Tryd.prog 43 laws_eqPath_x := by
 refine xOf_sound fun q r h => ?_
 obtain ⟨a0,a1⟩ := q
 refine fn_ok E0 hm Tryd.func43 rfl (by decide +kernel) (by rfl) fun Γ hn hk => ?_
 dsimp only [laws_eqPath_e,laws_eqPath_v]
 replace hn : Γ.n = 17 := hn
 replace hk : Γ.k = 0 := hk
 have H : HS (laws_eqPath a0 a1) r := h
 clear h; unfold laws_eqPath at H
 try simp -implicitDefEqProofs at H
 refine Tr.of_vc (cl := tabC [(44,laws_eqIntS_x),(59,laws_eqPointS_x)]) (E := E0) [] (tab_cons k_laws_eqIntS (tab_cons k_laws_eqPointS tab_nil)) hm (by rw [hn]; decide +kernel) ?_
 try simp -implicitDefEqProofs (maxSteps := 999999) [-selQ_sel]
 obtain ⟨v1,h_1,H⟩ := HS.bnd H
 try simp -implicitDefEqProofs (maxSteps := 999999) [-selQ_sel,h_1]
 refine Hid.brV (fun h_2 => ?_) (fun h_2 => ?_)
 ·replace H := HS.cnd_t h_2 H
  try simp -implicitDefEqProofs (maxSteps := 999999) [-selQ_sel,h_1,h_2]
  obtain ⟨v2,h_3,H⟩ := HS.bnd H
  try simp -implicitDefEqProofs (maxSteps := 999999) [-selQ_sel,h_1,h_2,h_3]
  refine Hid.brV (fun h_4 => ?_) (fun h_4 => ?_)
  ·replace H := HS.cnd_t h_4 H
   try simp -implicitDefEqProofs (maxSteps := 999999) [-selQ_sel,h_1,h_2,h_3,h_4]
   have hr := (HS.some H).symm; subst hr
   refine Hid.mk ⟨_,Wk.refl _,?_⟩
   try simp -implicitDefEqProofs (maxSteps := 999999) [-selQ_sel,h_1,h_2,h_3,h_4]
  ·replace H := HS.cnd_f h_4 H
   try simp -implicitDefEqProofs (maxSteps := 999999) [-selQ_sel,h_1,h_2,h_3,h_4]
   have hr := (HS.some H).symm; subst hr
   refine Hid.mk ⟨_,Wk.refl _,?_⟩
   try simp -implicitDefEqProofs (maxSteps := 999999) [-selQ_sel,h_1,h_2,h_3,h_4]
 ·replace H := HS.cnd_f h_2 H
  try simp -implicitDefEqProofs (maxSteps := 999999) [-selQ_sel,h_1,h_2]
  have hr := (HS.some H).symm; subst hr
  refine Hid.mk ⟨_,Wk.refl _,?_⟩
  try simp -implicitDefEqProofs (maxSteps := 999999) [-selQ_sel,h_1,h_2]
theorem impl_scriptLines_ok0 (hm : Tryd.prog.follows .mixedOrders = true) (k_strings_TrimSuffix : Sound Tryd.prog 27 strings_TrimSuffix_x) (k_strings_Split : Sound Tryd.prog 26 strings_Split_x) : Sound Tryd.prog 13 impl_scriptLines_x := by
 refine xOf_sound fun q r h => ?_
 revert h; revert r; revert q; intro a0 r h
 refine fn_ok E0 hm Tryd.func13 rfl (by decide +kernel) (by rfl) fun Γ hn hk => ?_
 dsimp only [impl_scriptLines_e,impl_scriptLines_v]
 replace hn : Γ.n = 8 := hn
 replace hk : Γ.k = 0 := hk
 have H : HS (impl_scriptLines a0) r := h
 clear h; unfold impl_scriptLines at H
 try simp -implicitDefEqProofs at H
 refine Tr.of_vc (cl := tabC [(27,strings_TrimSuffix_x),(26,strings_Split_x)]) (E := E0) [] (tab_cons k_strings_TrimSuffix (tab_cons k_strings_Split tab_nil)) hm (by rw [hn]; decide +kernel) ?_
 try simp -implicitDefEqProofs (maxSteps := 999999) [-selQ_sel]
 refine Hid.brV (fun h_1 => ?_) (fun h_1 => ?_)
 ·replace H := HS.cnd_t h_1 H
  try simp -implicitDefEqProofs (maxSteps := 999999) [-selQ_sel,h_1]
  have hr := (HS.some H).symm; subst hr
  refine Hid.mk ⟨_,Wk.refl _,?_⟩
  try simp -implicitDefEqProofs (maxSteps := 999999) [-selQ_sel,h_1]
 ·replace H := HS.cnd_f h_1 H
  try simp -implicitDefEqProofs (maxSteps := 999999) [-selQ_sel,h_1]
  obtain ⟨v1,h_2,H⟩ := HS.bnd H
  try simp -implicitDefEqProofs (maxSteps := 999999) [-selQ_sel,h_1,h_2]
  obtain ⟨v2,h_3,H⟩ := HS.bnd H
  try simp -implicitDefEqProofs (maxSteps := 999999) [-selQ_sel,h_1,h_2,h_3]
  have hr := (HS.some H).symm; subst hr
  refine Hid.mk ⟨_,Wk.refl _,?_⟩
  try simp -implicitDefEqProofs (maxSteps := 999999) [-selQ_sel,h_1,h_2,h_3]
theorem impl_lineReader_next_ok0 (hm : Tryd.prog.follows .mixedOrders = true) : Sound Tryd.prog 39 impl_lineReader_next_x := by
 refine xOf_sound fun q r h => ?_
 revert h; revert r; revert q; intro a0 r h
 refine fn_ok E0 hm Tryd.func39 rfl (by decide +kernel) (by rfl) fun Γ hn hk => ?_
 dsimp only [impl_lineReader_next_e,impl_lineReader_next_v]
 replace hn : Γ.n = 28 := hn
 replace hk : Γ.k = 1 := hk
 have H : HS (impl_lineReader_next a0) r := h
 clear h; unfold impl_lineReader_next at H
 try simp -implicitDefEqProofs at H
 refine Tr.of_vc (cl := tabC []) (E := E0) [] tab_nil hm (by rw [hn]; decide +kernel) ?_
 try simp -implicitDefEqProofs (maxSteps := 999999) [-selQ_sel]
 refine Hid.brV (fun h_1 => ?_) (fun h_1 => ?_)
 ·replace H := HS.cnd_t h_1 H
  try simp -implicitDefEqProofs (maxSteps := 999999) [-selQ_sel,h_1]
  have hr := (HS.some H).symm; subst hr
  refine Hid.mk ⟨_,Wk.refl _,?_⟩
  try simp -implicitDefEqProofs (maxSteps := 999999) [-selQ_sel,h_1]
 ·replace H := HS.cnd_f h_1 H
  try simp -implicitDefEqProofs (maxSteps := 999999) [-selQ_sel,h_1]
  obtain ⟨v1,h_2,H⟩ := HS.bnd H
  try simp -implicitDefEqProofs (maxSteps := 999999) [-selQ_sel,h_1,h_2]
  obtain ⟨v2,h_3,H⟩ := HS.bnd H
  try simp -implicitDefEqProofs (maxSteps := 999999) [-selQ_sel,h_1,h_2,h_3]
  have hr := (HS.some H).symm; subst hr
  refine Hid.mk ⟨_,Wk.refl _,?_⟩
  try simp -implicitDefEqProofs (maxSteps := 999999) [-selQ_sel,h_1,h_2,h_3]
def xtTrimSuffixR : Go.Shelf.Ren := ⟨fun n => if n = 102 then 27 else if n = 207 then 53 else if n = 209 then 38 else 0,fun n => if n = 3 then 3 else if n = 4 then 4 else if n = 9 then 9 else 0,fun n => if n = 1 then 0 else if n = 3 then 1 else if n = 4 then 2 else if n = 17 then 3 else if n = 18 then 4 else if n = 19 then 5 else 0⟩
theorem xtTrimSuffixL : Go.Proofs.Lays.n102 Tryd.prog xtTrimSuffixR where
 mixed := by kernel_rfl
 f102 := by kernel_rfl
 f207 := by kernel_rfl
 f209 := by kernel_rfl
 t3 := by kernel_rfl
 a3 := fun _ => rfl
 z3 := fun _ => rfl
 v3 := fun _ => rfl
 t4 := by kernel_rfl
 a4 := fun _ => rfl
 z4 := fun _ => rfl
 v4 := fun _ => rfl
 t9 := by kernel_rfl
 a9 := fun _ => rfl
 z9 := fun _ => rfl
 v9 := fun _ => rfl
theorem strings_TrimSuffix_ok0 (hm : Tryd.prog.follows .mixedOrders = true) : Sound Tryd.prog 27 strings_TrimSuffix_x := by
 refine xOf_sound fun q r h => ?_
 obtain ⟨a0,a1⟩ := q
 have H : HS (strings_TrimSuffix a0 a1) r := h
 clear h; unfold strings_TrimSuffix at H
 obtain ⟨h1,H⟩ := HS.chkP H
 have hr := (HS.some H).symm; subst hr
 exact ⟨⟨Tryd.f27,_,Tryd.func27,rfl,by decide +kernel⟩,ck_trim (fun s q w k1 => Go.Proofs.Any.strings_TrimSuffix xtTrimSuffixL s q w k1) h1⟩
theorem impl_Empty_ok0 (hm : Tryd.prog.follows .mixedOrders = true) : Sound Tryd.prog 69 impl_Empty_x := by
 refine xOf_sound fun q r h => ?_
 revert h; revert r; revert q; intro a0 r h
 refine fn_ok E0 hm Tryd.func69 rfl (by decide +kernel) (by rfl) fun Γ hn hk => ?_
 dsimp only [impl_Empty_e,impl_Empty_v]
 replace hn : Γ.n = 15 := hn
 replace hk : Γ.k = 0 := hk
 have H : HS (impl_Empty a0) r := h
 clear h; unfold impl_Empty at H
 try simp -implicitDefEqProofs at H
 refine Tr.of_vc (cl := tabC []) (E := E0) [] tab_nil hm (by rw [hn]; decide +kernel) ?_
 try simp -implicitDefEqProofs (maxSteps := 999999) [-selQ_sel]
 refine Hid.selQ (fun h_1 => ?_) (fun h_1 => ?_)
 ·replace H := HS.cnd_t h_1 H
  try simp -implicitDefEqProofs (maxSteps := 999999) [-selQ_sel,h_1]
  have hr := (HS.some H).symm; subst hr
  refine Hid.mk ⟨_,Wk.refl _,?_⟩
  try simp -implicitDefEqProofs (maxSteps := 999999) [-selQ_sel,h_1]
 ·replace H := HS.cnd_f h_1 H
  try simp -implicitDefEqProofs (maxSteps := 999999) [-selQ_sel,h_1]
  have hr := (HS.some H).symm; subst hr
  refine Hid.mk ⟨_,Wk.refl _,?_⟩
  try simp -implicitDefEqProofs (maxSteps := 999999) [-selQ_sel,h_1]
theorem spec_l01In_ok0 (hm : Tryd.prog.follows .mixedOrders = true) : Sound Tryd.prog 36 spec_l01In_x := by
 refine xOf_sound fun q r h => ?_
 obtain ⟨a0,a1,a2⟩ := q
 refine fn_ok E0 hm Tryd.func36 rfl (by decide +kernel) (by rfl) fun Γ hn hk => ?_
 dsimp only [spec_l01In_e,spec_l01In_v]
 replace hn : Γ.n = 15 := hn
 replace hk : Γ.k = 0 := hk
 have H : HS (spec_l01In a0 a1 a2) r := h
 clear h; unfold spec_l01In at H
 try simp -implicitDefEqProofs at H
 refine Tr.of_vc (cl := tabC []) (E := E0) [] tab_nil hm (by rw [hn]; decide +kernel) ?_
 try simp -implicitDefEqProofs (maxSteps := 999999) [-selQ_sel]
 refine Hid.selQ (fun h_1 => ?_) (fun h_1 => ?_)
 ·replace H := HS.cnd_t h_1 H
  try simp -implicitDefEqProofs (maxSteps := 999999) [-selQ_sel,h_1]
  have hr := (HS.some H).symm; subst hr
  refine Hid.mk ⟨_,Wk.refl _,?_⟩
  try simp -implicitDefEqProofs (maxSteps := 999999) [-selQ_sel,h_1]
 ·replace H := HS.cnd_f h_1 H
  try simp -implicitDefEqProofs (maxSteps := 999999) [-selQ_sel,h_1]
  have hr := (HS.some H).symm; subst hr
  refine Hid.mk ⟨_,Wk.refl _,?_⟩
  try simp -implicitDefEqProofs (maxSteps := 999999) [-selQ_sel,h_1]
theorem spec_Shift_ok0 (hm : Tryd.prog.follows .mixedOrders = true) : Sound Tryd.prog 32 spec_Shift_x := by
 refine xOf_sound fun q r h => ?_
 obtain ⟨a0,a1⟩ := q
 refine fn_ok E0 hm Tryd.func32 rfl (by decide +kernel) (by rfl) fun Γ hn hk => ?_
 dsimp only [spec_Shift_e,spec_Shift_v]
 replace hn : Γ.n = 8 := hn
 replace hk : Γ.k = 0 := hk
 have H : HS (spec_Shift a0 a1) r := h
 clear h; unfold spec_Shift at H
 try simp -implicitDefEqProofs at H
 refine Tr.of_vc (cl := tabC []) (E := E0) [] tab_nil hm (by rw [hn]; decide +kernel) ?_
 try simp -implicitDefEqProofs (maxSteps := 999999) [-selQ_sel]
 have hr := (HS.some H).symm; subst hr
 refine Hid.mk ⟨_,Wk.refl _,?_⟩
 try simp -implicitDefEqProofs (maxSteps := 999999) [-selQ_sel]
theorem spec_Still_ok0 (hm : Tryd.prog.follows .mixedOrders = true) : Sound Tryd.prog 31 spec_Still_x := by
 refine xOf_sound fun q r h => ?_
 refine fn_ok E0 hm Tryd.func31 rfl (by decide +kernel) (by rfl) fun Γ hn hk => ?_
 dsimp only [spec_Still_e,spec_Still_v]
 replace hn : Γ.n = 2 := hn
 replace hk : Γ.k = 0 := hk
 have H : HS (spec_Still) r := h
 clear h; unfold spec_Still at H
 try simp -implicitDefEqProofs at H
 refine Tr.of_vc (cl := tabC []) (E := E0) [] tab_nil hm (by rw [hn]; decide +kernel) ?_
 try simp -implicitDefEqProofs (maxSteps := 999999) [-selQ_sel]
 have hr := (HS.some H).symm; subst hr
 refine Hid.mk ⟨_,Wk.refl _,?_⟩
 try simp -implicitDefEqProofs (maxSteps := 999999) [-selQ_sel]
end Go.Proofs.YtapchldnmkfkoabDoor.Am
