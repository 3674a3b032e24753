import Derived.Test.YtapchldnmkfkoaaAmShMo
set_option linter.unusedVariables false
set_option linter.unusedSimpArgs false
set_option linter.unusedSectionVars false
namespace Go.Proofs.Ytapchldnmkfkoaa.Am
open Go Go.Proofs
set_option maxRecDepth 100000
set_option linter.unusedSimpArgs false
set_option linter.unusedVariables false
set_option maxHeartbeats 4000000
section
open Go.Lib Go.RowKit Go.Shelf
def shR : Ren := ⟨fun n => if n = 166 then 55 else if n = 167 then 56 else if n = 169 then 57 else if n = 240 then 114 else if n = 276 then 154 else 0, fun n => if n = 0 then 0 else if n = 3 then 3 else if n = 4 then 4 else if n = 5 then 5 else if n = 9 then 9 else if n = 20 then 20 else if n = 37 then 65 else if n = 70 then 105 else if n = 72 then 107 else if n = 75 then 109 else if n = 76 then 110 else if n = 80 then 113 else if n = 127 then 151 else if n = 164 then 183 else 0, fun n => n⟩
theorem shL166 : Lays.n166 Try.prog shR where
 mixed := by kernel_rfl
 f166 := by kernel_rfl
 f240 := by kernel_rfl
 f276 := by kernel_rfl
 t0 := by kernel_rfl
 a0 := fun _ => rfl
 z0 := fun _ => rfl
 v0 := fun _ => rfl
 t3 := by kernel_rfl
 a3 := fun _ => rfl
 z3 := fun _ => rfl
 v3 := fun _ => rfl
 t4 := by kernel_rfl
 a4 := fun _ => rfl
 z4 := fun _ => rfl
 v4 := fun _ => rfl
 t9 := by kernel_rfl
 a9 := fun _ => rfl
 z9 := fun _ => rfl
 v9 := fun _ => rfl
 t20 := by kernel_rfl
 a20 := fun _ => rfl
 z20 := fun _ => rfl
 v20 := fun _ => rfl
 t37 := by kernel_rfl
 a37 := fun _ => rfl
 z37 := fun _ => rfl
 v37 := fun _ => rfl
 t70 := by kernel_rfl
 a70 := fun _ => rfl
 z70 := fun _ => rfl
 v70 := fun _ => rfl
 t72 := by kernel_rfl
 a72 := fun _ => rfl
 z72 := fun _ => rfl
 v72 := fun _ => rfl
 t75 := by kernel_rfl
 a75 := fun _ => rfl
 z75 := fun _ => rfl
 v75 := fun _ => rfl
 t164 := by kernel_rfl
 a164 := fun _ => rfl
 z164 := fun _ => rfl
 v164 := fun _ => rfl
theorem shL167 : Lays.n167 Try.prog shR where
 mixed := by kernel_rfl
 f167 := by kernel_rfl
 f240 := by kernel_rfl
 f276 := by kernel_rfl
 t0 := by kernel_rfl
 a0 := fun _ => rfl
 z0 := fun _ => rfl
 v0 := fun _ => rfl
 t4 := by kernel_rfl
 a4 := fun _ => rfl
 z4 := fun _ => rfl
 v4 := fun _ => rfl
 t5 := by kernel_rfl
 a5 := fun _ => rfl
 z5 := fun _ => rfl
 v5 := fun _ => rfl
 t9 := by kernel_rfl
 a9 := fun _ => rfl
 z9 := fun _ => rfl
 v9 := fun _ => rfl
 t20 := by kernel_rfl
 a20 := fun _ => rfl
 z20 := fun _ => rfl
 v20 := fun _ => rfl
 t37 := by kernel_rfl
 a37 := fun _ => rfl
 z37 := fun _ => rfl
 v37 := fun _ => rfl
 t70 := by kernel_rfl
 a70 := fun _ => rfl
 z70 := fun _ => rfl
 v70 := fun _ => rfl
 t72 := by kernel_rfl
 a72 := fun _ => rfl
 z72 := fun _ => rfl
 v72 := fun _ => rfl
 t75 := by kernel_rfl
 a75 := fun _ => rfl
 z75 := fun _ => rfl
 v75 := fun _ => rfl
 t164 := by kernel_rfl
 a164 := fun _ => rfl
 z164 := fun _ => rfl
 v164 := fun _ => rfl
theorem shL169 : Lays.n169 Try.prog shR where
 mixed := by kernel_rfl
 f169 := by kernel_rfl
 t0 := by kernel_rfl
 a0 := fun _ => rfl
 z0 := fun _ => rfl
 v0 := fun _ => rfl
 t3 := by kernel_rfl
 a3 := fun _ => rfl
 z3 := fun _ => rfl
 v3 := fun _ => rfl
 t9 := by kernel_rfl
 a9 := fun _ => rfl
 z9 := fun _ => rfl
 v9 := fun _ => rfl
 t37 := by kernel_rfl
 a37 := fun _ => rfl
 z37 := fun _ => rfl
 v37 := fun _ => rfl
 t70 := by kernel_rfl
 a70 := fun _ => rfl
 z70 := fun _ => rfl
 v70 := fun _ => rfl
 t72 := by kernel_rfl
 a72 := fun _ => rfl
 z72 := fun _ => rfl
 v72 := fun _ => rfl
 t127 := by kernel_rfl
 a127 := fun _ => rfl
 z127 := fun _ => rfl
 v127 := fun _ => rfl
theorem shX : Builder.Extra Try.prog shR where
 sizeBuilder := by kernel_rfl
 liesBuilder := by kernel_rfl
 t5 := by kernel_rfl
 a5 := fun _ => rfl
 z5 := fun _ => rfl
 v5 := fun _ => rfl
 infoByte := by kernel_rfl
 cellsByte := by kernel_rfl
 sizeByte := by kernel_rfl
 neB5 := by decide
theorem sh_ws (B b : Nat) (xs : List Value) (s : ByteArray) (w : World) (h : Lib.IsBuilder 107 5 B b xs w) (hlen : xs.length + s.size ≤ 140737488355328) (hBw : B ≤ w.heap.size) :
  Calls Try.prog 55 #[.pointer (some ⟨b, 0, none⟩), .string s] w fun e w' => e = .returned (.tuple #[.int .i64 s.size, .nilIface]) ∧ (Lib.IsBuilder 107 5 B b (xs ++ Lib.strCells s) w' ∧ Below B w w') :=
 (Any.Builder_WriteString shL166 shX B b xs s w h hlen hBw).mono fun _ _ ⟨h1, h2, h3⟩ => ⟨h1, .inr h2, h3⟩
theorem sh_wb (B b : Nat) (xs : List Value) (c : Int) (w : World) (h : Lib.IsBuilder 107 5 B b xs w) (hlen : xs.length + 1 ≤ 140737488355328) (hBw : B ≤ w.heap.size) :
  Calls Try.prog 56 #[.pointer (some ⟨b, 0, none⟩), .int .u8 c] w fun e w' => e = .returned .nilIface ∧ (Lib.IsBuilder 107 5 B b (xs ++ [.int .u8 c]) w' ∧ Below B w w') :=
 (Any.Builder_WriteByte shL167 shX B b xs c w h hlen hBw).mono fun _ _ ⟨h1, h2, h3⟩ => ⟨h1, .inr h2, h3⟩
theorem sh_st (B b : Nat) (l : List UInt8) (w : World) (h : Lib.IsBuilder 107 5 B b (Lib.byteCells l) w) (hBw : B ≤ w.heap.size) :
  Calls Try.prog 57 #[.pointer (some ⟨b, 0, none⟩)] w fun e w' => e = .returned (.string ⟨l.toArray⟩) ∧ Below B w w' :=
 Any.Builder_String_any shL169 shX B b l w h hBw
theorem show_walk (mixed : Try.prog.follows .mixedOrders = true) (W H : Int) (b o n cap : Nat) (ad : Option Addr) (xs : List Int) (ok : Bool) (hx : List UInt8 → Option (List UInt8 × Bool)) (out : List UInt8) (w : World)
  (hn : xs.length = n) (hn2 : n ≤ 1099511627776 ∨ ok = false) (had : 0 < n → ad = some ⟨b, o, none⟩) (hb : 0 < n → b < w.heap.size)
  (hpx : ∀ k a, xs[k]? = some a → ∀ w', Below w.heap.size w w' → ∃ c0 c1 c2 : Int, w'.cell? ⟨b, o + k * 4, none⟩ = some (.int .i64 c0) ∧ w'.cell? ⟨b, o + k * 4 + 1, none⟩ = some (.int .i64 c1) ∧ w'.cell? ⟨b, o + k * 4 + 2, none⟩ = some (.int .i64 c2) ∧ w'.cell? ⟨b, o + k * 4 + 3, none⟩ = some (.int .i64 a))
  (hSO : ∀ w', Below w.heap.size w w' → Calls Try.prog 53 #[.agg #[.int .i64 W, .int .i64 H, .slice ad n cap]] w' fun e w'' => e = .returned (.bool ok) ∧ Below w'.heap.size w' w'')
  (hHx : ∀ (x : List UInt8) r, hx x = some r → ∀ w', Calls Try.prog 54 #[.string (bs x)] w' fun e w'' => e = .returned (.tuple #[.string (bs r.1), .bool r.2]) ∧ Below w'.heap.size w' w'')
  (hout : ok = true → showL hx W 0 xs [] = some out) :
  Calls Try.prog 12 #[.agg #[.int .i64 W, .int .i64 H, .slice ad n cap]] w fun e w' => e = .returned (.string (bs (sel ok out []))) ∧ Below w.heap.size w w' := by
 have e_so : ∀ args w, (callFunc 53 args).run Try.prog w = .ok (.enter 53 args) w := enters_of Try.func53 (by kernel_rfl) rfl
 go_enter Try.func12, Try.ntmps12
 go_wp2_with (go_at_call 53; refine (hSO _ ((Below.refl _ w).alloc (Nat.le_refl _) _)).mono ?_)
 rintro e w1 ⟨rfl, h1⟩
 have hbox : w1.heap[w.heap.size]? = some (.cells #[.int .i64 W, .int .i64 H, .slice ad n cap] 29 (0, 0)) := by
  rw [h1.block _ (by rw [al_size]; omega)]
  exact al_new _ _
 have hb1 : Below w.heap.size w w1 := ((Below.refl _ w).alloc (Nat.le_refl _) _).trans ⟨h1.os, h1.tape, h1.output, h1.size, fun k hk => h1.block k (by rw [al_size]; omega)⟩
 have hs1 : w.heap.size < w1.heap.size := (Array.getElem?_eq_some_iff.1 hbox).1
 cases ok with
 | false =>
  clear hSO hHx hpx h1 hout
  go_wp2
  go_ret
  exact ⟨rfl, hb1⟩
 | true =>
  replace hn2 : n ≤ 1099511627776 := hn2.resolve_right (by simp)
  replace hout := hout rfl
  have hbA : (w1.alloc (.cells #[.pointer none, .slice none 0 0] 107)).heap[w.heap.size]? = some (.cells #[.int .i64 W, .int .i64 H, .slice ad n cap] 29 (0, 0)) := (alloc_old w1 _ _ hs1).trans hbox
  have c2 : (w1.alloc (.cells #[.pointer none, .slice none 0 0] 107)).cell? ⟨w.heap.size, 2, none⟩ = some (.slice ad n cap) := by rw [cell_of_heap hbA]; rfl
  have hIB : IsBuilder 107 5 (w.heap.size + 1) w1.heap.size (Lib.byteCells []) (w1.alloc (.cells #[.pointer none, .slice none 0 0] 107)) := by
   have := fresh_isBuilder 107 5 w1
   rcases this with ⟨q1, v, q2, q3, q4⟩ | ⟨q1, v, q2, q3, q4⟩
   ·refine .inl ⟨by omega, v, q2, ⟨q3.1, q3.2.imp (fun h => h) ?_⟩, q4⟩
    rintro ⟨g, cap, cur, a1, a2, a3⟩
    exact ⟨g, cap, cur, a1, by omega, a3⟩
   ·refine .inr ⟨by omega, v, q2, ⟨q3.1, q3.2.imp (fun h => h) ?_⟩, q4⟩
    rintro ⟨g, cap, cur, a1, a2, a3⟩
    exact ⟨g, cap, cur, a1, by omega, a3⟩
  clear hSO h1 hbox
  go_wp2
  go_loopw [14] (fun i wr => ∃ (k : Nat) (acc : List UInt8), k ≤ n ∧ i = .int .i64 k ∧ IsBuilder 107 5 (w.heap.size + 1) w1.heap.size (Lib.byteCells acc) wr ∧ Below w.heap.size w wr ∧ wr.heap[w.heap.size]? = some (.cells #[.int .i64 W, .int .i64 H, .slice ad n cap] 29 (0, 0)) ∧ showL hx W k (xs.drop k) acc = some out) (fun i _ => n - (RowKit.intOf i).toNat)
  case atStart =>
   exact ⟨0, [], Nat.zero_le _, rfl, hIB, hb1.alloc (by omega) _, hbA, by simpa using hout⟩
  case round =>
   obtain ⟨k, acc, hk, rfl, hI, hbw, hbx, hsh⟩ := hrel
   have hks : k < n → ∃ a, xs[k]? = some a := fun h => ⟨xs[k]'(by omega), List.getElem?_eq_getElem (by omega)⟩
   by_cases hkn : k < n
   ·obtain ⟨a, hka⟩ := hks hkn
    obtain ⟨d0, d1, d2, g0, g1, g2, g3⟩ := hpx k a hka wr hbw
    obtain rfl := had (by omega)
    clear hks hpx
    have hdrop : xs.drop k = a :: xs.drop (k + 1) := by
     rw [List.drop_eq_getElem_cons (by omega)]
     congr 1
     rw [List.getElem?_eq_getElem (by omega)] at hka
     exact Option.some.inj hka
    rw [hdrop, showL] at hsh
    replace hsh : HS _ out := hsh
    obtain ⟨r, hr, hsh⟩ := HS.bnd hsh
    obtain ⟨⟨hW0, hW1, hlen⟩, hsh⟩ := HS.chkP hsh
    obtain ⟨x8, hx8⟩ : ∃ x8 : UInt8, x8 = UInt8.ofNat (IntKind.u8.wrap a).toNat := ⟨_, rfl⟩
    have hx8n : a % 256 = (x8.toNat : Int) := by rw [hx8, u8_of]
    rw [← hx8] at hr
    clear hx8
    have hcv := show_cv (P := Try.prog) (src := 65) (dst := 9) (e := 5) (by kernel_rfl) (by kernel_rfl) (by kernel_rfl) wr x8 (.cells #[.int .i64 d0, .int .i64 d1, .int .i64 d2, .int .i64 a] 84)
    have hHr := hHx _ _ hr
    have hal1 := al_keep wr (.cells #[.int .i64 d0, .int .i64 d1, .int .i64 d2, .int .i64 a] 84)
    have hal2 := al_keep (wr.alloc (.cells #[.int .i64 d0, .int .i64 d1, .int .i64 d2, .int .i64 a] 84)) (.cells #[.int .u8 x8.toNat] 5)
    clear hdrop hka had hHx
    go_wp2_with (go_at_call 54; refine (hHr _).mono ?_)
    rintro e w2 ⟨rfl, h2⟩
    have hsz : w.heap.size ≤ wr.heap.size := hbw.size
    have hkeep : ∀ k, k < wr.heap.size → w2.heap[k]? = wr.heap[k]? := fun k hk => by
     rw [h2.block k (by simp only [al_size]; omega), hal2 k (by rw [al_size]; omega), hal1 k hk]
    have hI2 := isB_keep hI hkeep
    have hbw2 : Below w.heap.size w w2 := ⟨h2.os.trans hbw.os, h2.tape.trans hbw.tape, h2.output.trans hbw.output, by have := h2.size; simp only [al_size] at this; omega, fun k hk => by rw [hkeep k (by omega)]; exact hbw.block k hk⟩
    have hbx2 := (hkeep _ (Array.getElem?_eq_some_iff.1 hbx).1).trans hbx
    have hszb : w.heap.size + 1 ≤ w2.heap.size := (Array.getElem?_eq_some_iff.1 hbx2).1
    clear hkeep hal1 hal2 h2 hI hHr hcv hx8n g0 g1 g2 g3 hbx c2 hIB hb1 hbA hbw
    have hws := fun h => sh_ws (w.heap.size + 1) w1.heap.size (Lib.byteCells acc) (bs r.1) w2 hI2 h hszb
    go_wp2_with (go_at_call 55; refine (hws (by rw [Lib.byteCells_length, bs_size]; omega)).mono ?_)
    rintro e w3 ⟨rfl, hI3, h3⟩
    have hbx3 := (h3.block _ (Nat.lt_succ_self _)).trans hbx2
    have hbw3 : Below w.heap.size w w3 := hbw2.trans ⟨h3.os, h3.tape, h3.output, h3.size, fun k hk => h3.block k (by omega)⟩
    have hszb3 := Nat.le_trans hszb h3.size
    have c0 : w3.cell? ⟨w.heap.size, 0, none⟩ = some (.int .i64 W) := by rw [cell_of_heap hbx3]; rfl
    have c0' : w3.drew.cell? ⟨w.heap.size, 0, none⟩ = some (.int .i64 W) := c0
    have hWn : ¬ W = 0 := by omega
    have hWw : IntKind.i64.wrap (W - 1) = W - 1 := by rw [IntKind.wrap_i64]; omega
    have hkk : (k : Int) + 1 ≤ 9223372036854775807 := by omega
    have hacc : Lib.byteCells acc ++ Lib.strCells (bs r.1) = Lib.byteCells (acc ++ r.1) := by rw [Lib.byteCells_append]; rfl
    rw [hacc] at hI3
    clear hI2 hbx2 hbw2 h3 hws hacc
    go_wp2
    go_region
    have hI3d : IsBuilder 107 5 (w.heap.size + 1) w1.heap.size (Lib.byteCells (acc ++ r.1)) w3.drew := isB_keep hI3 fun _ _ => rfl
    have hbw3d : Below w.heap.size w w3.drew := hbw3.trans ⟨rfl, rfl, rfl, Nat.le_refl _, fun _ _ => rfl⟩
    have hbx3d : w3.drew.heap[w.heap.size]? = some (.cells #[.int .i64 W, .int .i64 H, .slice (some ⟨b, o, none⟩) n cap] 29 (0, 0)) := hbx3
    have hszd : w.heap.size + 1 ≤ w3.drew.heap.size := hszb3
    have htm : (k : Int).tmod W = (k : Int) % W := Int.tmod_eq_emod_of_nonneg (by omega)
    rw [htm] at hsh
    have hkk2 : ((k + 1 : Nat) : Int) = (k : Int) + 1 := by omega
    clear hI3 hbw3 hbx3 hszb3 c0 c0' hWw htm
    by_cases hm : (k : Int) % W = W - 1
    ·have hmb : ((k : Int) % W == W - 1) = true := by rw [hm]; exact beq_self_eq_true _
     rw [hmb]
     rw [if_pos hm] at hsh
     clear hm hmb
     have hwb := fun h => sh_wb (w.heap.size + 1) w1.heap.size (Lib.byteCells (acc ++ r.1)) 10 w3.drew hI3d h hszd
     go_wp2_with (go_at_call 56; refine (hwb (by rw [Lib.byteCells_length, List.length_append]; omega)).mono ?_)
     rintro e w4 ⟨rfl, hI4, h4⟩
     have hbx4 := (h4.block _ (Nat.lt_succ_self _)).trans hbx3d
     have hbw4 : Below w.heap.size w w4 := hbw3d.trans ⟨h4.os, h4.tape, h4.output, h4.size, fun k hk => h4.block k (by omega)⟩
     have hacc : Lib.byteCells (acc ++ r.1) ++ [.int .u8 10] = Lib.byteCells (acc ++ r.1 ++ [10]) := by rw [Lib.byteCells_append (acc ++ r.1)]; rfl
     rw [hacc] at hI4
     clear hI3d hbw3d hbx3d h4 hwb hacc
     go_wp2
     go_roundw
     case rel => exact ⟨k + 1, _, by omega, by go_num, hI4, hbw4, hbx4, by rw [hkk2]; exact hsh⟩
     case measure => simp [RowKit.intOf]; omega
    ·have hmb : ((k : Int) % W == W - 1) = false := by simp [hm]
     rw [hmb]
     rw [if_neg hm] at hsh
     clear hm hmb
     go_wp2
     go_roundw
     case rel => exact ⟨k + 1, _, by omega, by go_num, hI3d, hbw3d, hbx3d, by rw [hkk2]; exact hsh⟩
     case measure => simp [RowKit.intOf]; omega
   ·have hkn2 : k = n := by omega
    have hd : xs.drop k = [] := List.drop_eq_nil_of_le (by omega)
    rw [hd, showL] at hsh
    have hoa : acc = out := Option.some.inj hsh
    have hsz : w.heap.size + 1 ≤ wr.heap.size := (Array.getElem?_eq_some_iff.1 hbx).1
    have hst := sh_st (w.heap.size + 1) w1.heap.size acc wr hI hsz
    clear hsh hd hpx hHx hks hIB hb1 hbA c2 hI hbx hb had
    go_wp2_with (go_at_call 57; refine hst.mono ?_)
    rintro e w3 ⟨rfl, h3⟩
    have hend : Below w.heap.size w w3 := hbw.trans ⟨h3.os, h3.tape, h3.output, h3.size, fun k hk => h3.block k (by omega)⟩
    clear hbw h3 hst
    go_wp2
    go_ret
    subst hoa
    exact ⟨rfl, hend⟩

end
theorem impl_ShowFrame_ok0 (hm : Try.prog.follows .mixedOrders = true) (k_impl_SurfaceOk : Sound Try.prog 53 impl_SurfaceOk_x) (k_impl_Hex : Sound Try.prog 54 impl_Hex_x) : Sound Try.prog 12 impl_ShowFrame_x := by
 refine xOf_sound fun q r h => ?_
 revert h; revert r; revert q; intro a0 r h
 have H : HS (impl_ShowFrame a0) r := h
 clear h; unfold impl_ShowFrame at H
 refine ⟨⟨Try.f12, _, Try.func12, rfl, by decide +kernel⟩, ?_⟩
 obtain ⟨v1, h1, H⟩ := HS.bnd H
 have hS := (k_impl_SurfaceOk _ _ _ _ (by rw [show impl_SurfaceOk_x (impl_SurfaceOk_e a0).1 (impl_SurfaceOk_e a0).2 = _ from xOf_eq impl_SurfaceOk_i a0, h1]; rfl)).2
 have hH : ∀ x r, impl_Hex x = some r → CallOK Try.prog 54 [.str (bs x)] [] (.tup [.str (bs r.1), .bool r.2]) [] := fun x r hr =>
  (k_impl_Hex _ _ _ _ (by rw [impl_Hex_k, hr]; rfl)).2
 have key : ∀ out, List.length a0.pix ≤ 1099511627776 ∨ v1 = false → (v1 = true → showL impl_Hex a0.w 0 (List.map (fun x => x.a) a0.pix) [] = some out) → CallOK Try.prog 12 [.agg [.int .i64 a0.w, .int .i64 a0.h, .fsl (List.map eColor a0.pix)]] [] (.str (bs (sel v1 out []))) [] := fun out hl ho =>
  show_call (fS := 53) (fH := 54) (fun x => ⟨x.r, x.g, x.b, rfl⟩) hS hH fun b o cap ad w g1 g2 g3 g4 g5 => show_walk hm _ _ b o _ cap ad _ v1 _ out w rfl (by rw [List.length_map]; exact hl) g1 g2 g3 g4 g5 ho
 cases v1 with
 | false =>
  have hr := (HS.some (HS.cnd_f rfl H)).symm; subst hr
  exact key [] (.inr rfl) (fun h => by cases h)
 | true =>
  obtain ⟨hl, H⟩ := HS.chkP (HS.cnd_t rfl H)
  obtain ⟨v2, h2, H⟩ := HS.bnd H
  have hr := (HS.some H).symm; subst hr
  exact key v2 (.inl hl) (fun _ => h2)
theorem impl_ColorOk_ok0 (hm : Try.prog.follows .mixedOrders = true) (k_impl_isByte : Sound Try.prog 139 impl_isByte_x) : Sound Try.prog 153 impl_ColorOk_x := by
 refine xOf_sound fun q r h => ?_
 revert h; revert r; revert q; intro a0 r h
 refine fn_ok E0 hm Try.func153 rfl (by decide +kernel) (by rfl) fun Γ hn hk => ?_
 dsimp only [impl_ColorOk_e, impl_ColorOk_v]
 replace hn : Γ.n = 21 := hn
 replace hk : Γ.k = 0 := hk
 have H : HS (impl_ColorOk a0) r := h
 clear h; unfold impl_ColorOk at H
 try simp -implicitDefEqProofs at H
 refine Tr.of_vc (cl := tabC [(139, impl_isByte_x)]) (E := E0) [] (tab_cons k_impl_isByte tab_nil) hm (by rw [hn]; decide +kernel) ?_
 try simp -implicitDefEqProofs (maxSteps := 999999) [-selQ_sel]
 obtain ⟨v1, h_1, H⟩ := HS.bnd H
 try simp -implicitDefEqProofs (maxSteps := 999999) [-selQ_sel, h_1]
 refine Hid.selQ (fun h_2 => ?_) (fun h_2 => ?_)
 ·replace H := HS.cnd_t h_2 H
  try simp -implicitDefEqProofs (maxSteps := 999999) [-selQ_sel, h_1, h_2]
  obtain ⟨v2, h_3, H⟩ := HS.bnd H
  try simp -implicitDefEqProofs (maxSteps := 999999) [-selQ_sel, h_1, h_2, h_3]
  refine Hid.selQ (fun h_4 => ?_) (fun h_4 => ?_)
  ·replace H := HS.cnd_t h_4 H
   try simp -implicitDefEqProofs (maxSteps := 999999) [-selQ_sel, h_1, h_2, h_3, h_4]
   obtain ⟨v3, h_5, H⟩ := HS.bnd H
   try simp -implicitDefEqProofs (maxSteps := 999999) [-selQ_sel, h_1, h_2, h_3, h_4, h_5]
   refine Hid.selQ (fun h_6 => ?_) (fun h_6 => ?_)
   ·replace H := HS.cnd_t h_6 H
    try simp -implicitDefEqProofs (maxSteps := 999999) [-selQ_sel, h_1, h_2, h_3, h_4, h_5, h_6]
    obtain ⟨v4, h_7, H⟩ := HS.bnd H
    try simp -implicitDefEqProofs (maxSteps := 999999) [-selQ_sel, h_1, h_2, h_3, h_4, h_5, h_6, h_7]
    have hr := (HS.some H).symm; subst hr
    refine Hid.mk ⟨_, Wk.refl _, ?_⟩
    try simp -implicitDefEqProofs (maxSteps := 999999) [-selQ_sel, h_1, h_2, h_3, h_4, h_5, h_6, h_7]
   ·replace H := HS.cnd_f h_6 H
    try simp -implicitDefEqProofs (maxSteps := 999999) [-selQ_sel, h_1, h_2, h_3, h_4, h_5, h_6]
    have hr := (HS.some H).symm; subst hr
    refine Hid.mk ⟨_, Wk.refl _, ?_⟩
    try simp -implicitDefEqProofs (maxSteps := 999999) [-selQ_sel, h_1, h_2, h_3, h_4, h_5, h_6]
  ·replace H := HS.cnd_f h_4 H
   try simp -implicitDefEqProofs (maxSteps := 999999) [-selQ_sel, h_1, h_2, h_3, h_4]
   have hr := (HS.some H).symm; subst hr
   refine Hid.mk ⟨_, Wk.refl _, ?_⟩
   try simp -implicitDefEqProofs (maxSteps := 999999) [-selQ_sel, h_1, h_2, h_3, h_4]
 ·replace H := HS.cnd_f h_2 H
  try simp -implicitDefEqProofs (maxSteps := 999999) [-selQ_sel, h_1, h_2]
  have hr := (HS.some H).symm; subst hr
  refine Hid.mk ⟨_, Wk.refl _, ?_⟩
  try simp -implicitDefEqProofs (maxSteps := 999999) [-selQ_sel, h_1, h_2]
theorem laws_eqColor_ok0 (hm : Try.prog.follows .mixedOrders = true) : Sound Try.prog 115 laws_eqColor_x := by
 refine xOf_sound fun q r h => ?_
 obtain ⟨a0, a1⟩ := q
 refine fn_ok E0 hm Try.func115 rfl (by decide +kernel) (by rfl) fun Γ hn hk => ?_
 dsimp only [laws_eqColor_e, laws_eqColor_v]
 replace hn : Γ.n = 25 := hn
 replace hk : Γ.k = 0 := hk
 have H : HS (laws_eqColor a0 a1) r := h
 clear h; unfold laws_eqColor at H
 try simp -implicitDefEqProofs at H
 refine Tr.of_vc (cl := tabC []) (E := E0) [] tab_nil hm (by rw [hn]; decide +kernel) ?_
 try simp -implicitDefEqProofs (maxSteps := 999999) [-selQ_sel]
 refine Hid.brV (fun h_1 => ?_) (fun h_1 => ?_)
 ·replace H := HS.cnd_t h_1 H
  try simp -implicitDefEqProofs (maxSteps := 999999) [-selQ_sel, h_1]
  refine Hid.brV (fun h_2 => ?_) (fun h_2 => ?_)
  ·replace H := HS.cnd_t h_2 H
   try simp -implicitDefEqProofs (maxSteps := 999999) [-selQ_sel, h_1, h_2]
   refine Hid.brV (fun h_3 => ?_) (fun h_3 => ?_)
   ·replace H := HS.cnd_t h_3 H
    try simp -implicitDefEqProofs (maxSteps := 999999) [-selQ_sel, h_1, h_2, h_3]
    refine Hid.brV (fun h_4 => ?_) (fun h_4 => ?_)
    ·replace H := HS.cnd_t h_4 H
     try simp -implicitDefEqProofs (maxSteps := 999999) [-selQ_sel, h_1, h_2, h_3, h_4]
     have hr := (HS.some H).symm; subst hr
     refine Hid.mk ⟨_, Wk.refl _, ?_⟩
     try simp -implicitDefEqProofs (maxSteps := 999999) [-selQ_sel, h_1, h_2, h_3, h_4]
    ·replace H := HS.cnd_f h_4 H
     try simp -implicitDefEqProofs (maxSteps := 999999) [-selQ_sel, h_1, h_2, h_3, h_4]
     have hr := (HS.some H).symm; subst hr
     refine Hid.mk ⟨_, Wk.refl _, ?_⟩
     try simp -implicitDefEqProofs (maxSteps := 999999) [-selQ_sel, h_1, h_2, h_3, h_4]
   ·replace H := HS.cnd_f h_3 H
    try simp -implicitDefEqProofs (maxSteps := 999999) [-selQ_sel, h_1, h_2, h_3]
    have hr := (HS.some H).symm; subst hr
    refine Hid.mk ⟨_, Wk.refl _, ?_⟩
    try simp -implicitDefEqProofs (maxSteps := 999999) [-selQ_sel, h_1, h_2, h_3]
  ·replace H := HS.cnd_f h_2 H
   try simp -implicitDefEqProofs (maxSteps := 999999) [-selQ_sel, h_1, h_2]
   have hr := (HS.some H).symm; subst hr
   refine Hid.mk ⟨_, Wk.refl _, ?_⟩
   try simp -implicitDefEqProofs (maxSteps := 999999) [-selQ_sel, h_1, h_2]
 ·replace H := HS.cnd_f h_1 H
  try simp -implicitDefEqProofs (maxSteps := 999999) [-selQ_sel, h_1]
  have hr := (HS.some H).symm; subst hr
  refine Hid.mk ⟨_, Wk.refl _, ?_⟩
  try simp -implicitDefEqProofs (maxSteps := 999999) [-selQ_sel, h_1]
theorem laws_eqSurface_ok0 (hm : Try.prog.follows .mixedOrders = true) (k_laws_eqColorS : Sound Try.prog 58 laws_eqColorS_x) : Sound Try.prog 13 laws_eqSurface_x := by
 refine xOf_sound fun q r h => ?_
 obtain ⟨a0, a1⟩ := q
 refine fn_ok E0 hm Try.func13 rfl (by decide +kernel) (by rfl) fun Γ hn hk => ?_
 dsimp only [laws_eqSurface_e, laws_eqSurface_v]
 replace hn : Γ.n = 21 := hn
 replace hk : Γ.k = 0 := hk
 have H : HS (laws_eqSurface a0 a1) r := h
 clear h; unfold laws_eqSurface at H
 try simp -implicitDefEqProofs at H
 refine Tr.of_vc (cl := tabC [(58, laws_eqColorS_x)]) (E := E0) [] (tab_cons k_laws_eqColorS tab_nil) hm (by rw [hn]; decide +kernel) ?_
 try simp -implicitDefEqProofs (maxSteps := 999999) [-selQ_sel]
 refine Hid.brV (fun h_1 => ?_) (fun h_1 => ?_)
 ·replace H := HS.cnd_t h_1 H
  try simp -implicitDefEqProofs (maxSteps := 999999) [-selQ_sel, h_1]
  refine Hid.brV (fun h_2 => ?_) (fun h_2 => ?_)
  ·replace H := HS.cnd_t h_2 H
   try simp -implicitDefEqProofs (maxSteps := 999999) [-selQ_sel, h_1, h_2]
   obtain ⟨v1, h_3, H⟩ := HS.bnd H
   try simp -implicitDefEqProofs (maxSteps := 999999) [-selQ_sel, h_1, h_2, h_3]
   refine Hid.brV (fun h_4 => ?_) (fun h_4 => ?_)
   ·replace H := HS.cnd_t h_4 H
    try simp -implicitDefEqProofs (maxSteps := 999999) [-selQ_sel, h_1, h_2, h_3, h_4]
    have hr := (HS.some H).symm; subst hr
    refine Hid.mk ⟨_, Wk.refl _, ?_⟩
    try simp -implicitDefEqProofs (maxSteps := 999999) [-selQ_sel, h_1, h_2, h_3, h_4]
   ·replace H := HS.cnd_f h_4 H
    try simp -implicitDefEqProofs (maxSteps := 999999) [-selQ_sel, h_1, h_2, h_3, h_4]
    have hr := (HS.some H).symm; subst hr
    refine Hid.mk ⟨_, Wk.refl _, ?_⟩
    try simp -implicitDefEqProofs (maxSteps := 999999) [-selQ_sel, h_1, h_2, h_3, h_4]
  ·replace H := HS.cnd_f h_2 H
   try simp -implicitDefEqProofs (maxSteps := 999999) [-selQ_sel, h_1, h_2]
   have hr := (HS.some H).symm; subst hr
   refine Hid.mk ⟨_, Wk.refl _, ?_⟩
   try simp -implicitDefEqProofs (maxSteps := 999999) [-selQ_sel, h_1, h_2]
 ·replace H := HS.cnd_f h_1 H
  try simp -implicitDefEqProofs (maxSteps := 999999) [-selQ_sel, h_1]
  have hr := (HS.some H).symm; subst hr
  refine Hid.mk ⟨_, Wk.refl _, ?_⟩
  try simp -implicitDefEqProofs (maxSteps := 999999) [-selQ_sel, h_1]
theorem laws_szColorS_ok0 (hm : Try.prog.follows .mixedOrders = true) : Sound Try.prog 49 laws_szColorS_x := by
 refine xOf_sound fun q r h => ?_
 obtain ⟨a0, a1⟩ := q
 refine fn_ok E0 hm Try.func49 rfl (by decide +kernel) (by rfl) fun Γ hn hk => ?_
 dsimp only [laws_szColorS_e, laws_szColorS_v]
 replace hn : Γ.n = 12 := hn
 replace hk : Γ.k = 0 := hk
 have H : HS (laws_szColorS a0 a1) r := h
 clear h; unfold laws_szColorS at H
 try simp -implicitDefEqProofs at H
 refine Tr.of_vc (cl := tabC []) (E := E0) [] tab_nil hm (by rw [hn]; decide +kernel) ?_
 try simp -implicitDefEqProofs (maxSteps := 999999) [-selQ_sel]
 refine Hid.brV (fun h_1 => ?_) (fun h_1 => ?_)
 ·replace H := HS.cnd_t h_1 H
  try simp -implicitDefEqProofs (maxSteps := 999999) [-selQ_sel, h_1]
  have hr := (HS.some H).symm; subst hr
  refine Hid.mk ⟨_, Wk.refl _, ?_⟩
  try simp -implicitDefEqProofs (maxSteps := 999999) [-selQ_sel, h_1]
 ·replace H := HS.cnd_f h_1 H
  try simp -implicitDefEqProofs (maxSteps := 999999) [-selQ_sel, h_1]
  have hr := (HS.some H).symm; subst hr
  refine Hid.mk ⟨_, Wk.refl _, ?_⟩
  try simp -implicitDefEqProofs (maxSteps := 999999) [-selQ_sel, h_1]
theorem impl_isSide_ok0 (hm : Try.prog.follows .mixedOrders = true) (k_impl_inRange : Sound Try.prog 75 impl_inRange_x) : Sound Try.prog 112 impl_isSide_x := by
 refine xOf_sound fun q r h => ?_
 revert h; revert r; revert q; intro a0 r h
 refine fn_ok E0 hm Try.func112 rfl (by decide +kernel) (by rfl) fun Γ hn hk => ?_
 dsimp only [impl_isSide_e, impl_isSide_v]
 replace hn : Γ.n = 5 := hn
 replace hk : Γ.k = 0 := hk
 have H : HS (impl_isSide a0) r := h
 clear h; unfold impl_isSide at H
 try simp -implicitDefEqProofs at H
 refine Tr.of_vc (cl := tabC [(75, impl_inRange_x)]) (E := E0) [] (tab_cons k_impl_inRange tab_nil) hm (by rw [hn]; decide +kernel) ?_
 try simp -implicitDefEqProofs (maxSteps := 999999) [-selQ_sel]
 obtain ⟨v1, h_1, H⟩ := HS.bnd H
 try simp -implicitDefEqProofs (maxSteps := 999999) [-selQ_sel, h_1]
 have hr := (HS.some H).symm; subst hr
 refine Hid.mk ⟨_, Wk.refl _, ?_⟩
 try simp -implicitDefEqProofs (maxSteps := 999999) [-selQ_sel, h_1]
end Go.Proofs.Ytapchldnmkfkoaa.Am
