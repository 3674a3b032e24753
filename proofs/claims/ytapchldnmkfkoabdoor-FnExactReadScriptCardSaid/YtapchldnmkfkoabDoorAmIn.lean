import Derived.Test.YtapchldnmkfkoabDoorAmNm
import Derived.WalkKit
import Derived.Lib.Overlaps
import Derived.Lib.AppendZerosOnto
import Derived.Lib.JoinLaws
import Derived.Shelf.RegionOpenPlain
set_option linter.unusedVariables false
set_option linter.unusedSimpArgs false
set_option linter.unusedSectionVars false
namespace Go.Proofs.YtapchldnmkfkoabDoor.Am
open Go
variable {P : Program}

@[simp] theorem toNat_add_nat {a b : Nat} : ((a : Int) + (b : Int)).toNat = a + b := by omega
theorem slc_hi {α : Type} {l n : List α} {b : Int} (h : slc l 0 b = some n) : b = (n.length : Int) := by
  have := (slc_spec h).2.1; have := (slc_spec h).1; omega
/-- A row's front. -/
def tk {α : Type} (k : Nat) (l : List α) : List α := l.take k
@[simp] theorem tk_len {α : Type} {k : Nat} {l : List α} (h : k ≤ l.length) : (tk k l).length = k := by unfold tk; rw [List.length_take]; omega
theorem appO_whole {ts : TS} {b : Nat} {src : List AV} {is : List Nat} {es : List AV} {esz id len tot nx : Nat} (h : len = es.length) (hz : esz = ts.size ∧ tot = es.length ∧ (len + src.length) * b ≤ room) :
    appO ts b src is (some (.arr esz es false)) id 0 len tot nx = some ⟨.osl id 0 (len + src.length) (tot + src.length), id :: is, [(id, .arr esz (es ++ src) false)], nx⟩ := by
  unfold appO
  dsimp only
  rw [if_pos hz, if_pos ⟨rfl, h⟩]
theorem run_copy_at (w : World) {dT sT ty elem : TypeId} {i : TypeInfo} (hu : P.underlying dT = some (.slice elem)) (hi : P.info? elem = some i)
    {b o dLen dCap : Nat} {ad : Option Addr} {sLen sCap : Nat} {cs : List Value} {n : Nat} (hn : Nat.min sLen dLen = n) (hfc : (Builtin.firstCells i.size n (.slice ad sLen sCap)).run P w = .ok cs.toArray w)
    {cur : Array Value} {te : TypeId} (hh : w.heap[b]? = some (.cells cur te (0, 0))) (hle : o + cs.length ≤ cur.size) (h1 : ∀ v ∈ cs, v.oneCell' = true) :
    (Builtin.copy_ #[dT, sT] ty #[.slice (some ⟨b, o, none⟩) dLen dCap, .slice ad sLen sCap]).run P w = .ok (goInt n) (w.setRow b (cur.toList.take o ++ cs ++ cur.toList.drop (o + cs.length)).toArray) := by
  have hst := run_storeCells_at P b o te cs 0 cur w hh (by simpa using hle) h1
  simp only [Nat.add_zero] at hst
  simp [Builtin.copy_, run_underlying hu, Builtin.lenOf, run_sizeOf hi, hn, hfc, hst]

theorem wpList_copy_run (w : World) {ops : Array Oper} {rest : List Oper} {o : Oper} {a : Act} {Q : Exit → Act → World → Prop} (hgd : o.guard = none) (d s : Operand) (t t' : TypeId)
    (ho : o.op = .call { callee := .builtin .copy, args := #[d, s], argTypes := #[t, t'] }) (v u : Value) (hd : a.eval d = v) (hs : a.eval s = u) {v' : Value} {w' : World}
    (hr : (Builtin.copy_ #[t, t'] o.type #[v, u]).run P w = .ok v' w') (h : wpList P ops Q rest (a.put o.dst v') w') : wpList P ops Q (o :: rest) a w :=
  wpList_plain hgd fun _ hK => by
    unfold Oper.wp execOp
    simp only [ho, resolve, invoke, builtin, Sem.run_bind, Sem.run_pure, Result.andThen_ok, List.map_toArray, List.map_cons, List.map_nil, hd, hs, hr]
    exact hK _ _ h

theorem step_copy_run {ops : Array Oper} {o : Oper} {a : Act} {w : World} {K : Act → World → Prop} {Q : Exit → Act → World → Prop} {E : Prop}
    (hg : o.guard = none) (d x : Operand) (dT sT : TypeId) (hop : o.op = Op.call { callee := Callee.builtin Builtin.copy, args := #[d, x], argTypes := #[dT, sT] })
    (v u : Value) (hd : a.eval d = v) (hx : a.eval x = u) {v' : Value} {w' : World} (hr : (Builtin.copy_ #[dT, sT] o.type #[v, u]).run P w = .ok v' w') (hK : K (a.put o.dst v') w') :
    if Region.wanted o (yielded ops a.tmps) = true then Oper.wp P o a w K Q else E := by
  have hw : Region.wanted o (yielded ops a.tmps) = true := by simp [Region.wanted, hg]
  rw [if_pos hw]
  unfold Oper.wp
  simp [execOp, hop, resolve, invoke, builtin, hd, hx, hr, Result.andThen]
  exact hK
end Go.Proofs.YtapchldnmkfkoabDoor.Am
namespace Go.Proofs.YtapchldnmkfkoabDoor.Am
open Go
variable {P : Program}
/-! slices.Insert: what becomes of the cells -/
def mid (k : Nat) (cur : List Value) (i n : Nat) : List Value := (cur.drop (i * k)).take ((n - i) * k)
def spl1 (k : Nat) (cur : List Value) (i m n : Nat) : List Value := cur.take ((i + m) * k) ++ mid k cur i n ++ cur.drop ((i + m) * k + (mid k cur i n).length)
def spl2 (k : Nat) (cur : List Value) (i m n : Nat) (vs : List Value) : List Value := (spl1 k cur i m n).take (i * k) ++ vs ++ (spl1 k cur i m n).drop (i * k + vs.length)
def gr1 (k : Nat) (row : List Value) (i : Nat) (vs : List Value) : List Value := row.take (i * k) ++ vs ++ row.drop (i * k + vs.length)
def gr2 (k : Nat) (row cur : List Value) (i m n : Nat) (vs : List Value) : List Value := (gr1 k row i vs).take ((i + m) * k) ++ mid k cur i n ++ (gr1 k row i vs).drop ((i + m) * k + (mid k cur i n).length)

theorem mid_len {k i n c : Nat} {cur : List Value} (hn : n ≤ c) (hl : cur.length = c * k) : (mid k cur i n).length = (n - i) * k := by
  have h1 : n * k ≤ c * k := Nat.mul_le_mul_right _ hn
  simp only [mid, List.length_take, List.length_drop, hl, Nat.sub_mul]; omega

theorem spl2_eq {k i m n c : Nat} {cur vs : List Value} (hi : i < n) (hc : n + m ≤ c) (hl : cur.length = c * k) (hv : vs.length = m * k) :
    spl2 k cur i m n vs = cur.take (i * k) ++ vs ++ mid k cur i n ++ cur.drop ((n + m) * k) := by
  have hml := mid_len (k := k) (i := i) (n := n) (c := c) (cur := cur) (by omega) hl
  have h1 : (i + m) * k ≤ c * k := Nat.mul_le_mul_right _ (by omega)
  have h3 : (i + m) * k + (n - i) * k = (n + m) * k := by rw [← Nat.add_mul]; congr 1; omega
  have h4 : (i + m) * k = i * k + m * k := Nat.add_mul ..
  unfold spl2 spl1
  rw [hml, h3, hv, List.append_assoc (List.take ((i + m) * k) cur), List.take_append_of_le_length (by rw [List.length_take, hl]; omega), List.take_take,
    show min (i * k) ((i + m) * k) = i * k by omega, ← h4, List.drop_append, List.drop_of_length_le (show (List.take ((i + m) * k) cur).length ≤ (i + m) * k by rw [List.length_take]; omega),
    List.length_take, hl, show (i + m) * k - min ((i + m) * k) (c * k) = 0 by omega]
  simp only [List.drop_zero, List.nil_append, List.append_assoc]

theorem gr2_eq {k i m n c g : Nat} {row cur vs : List Value} (hi : i < n) (hc : n ≤ c) (hg : n + m ≤ g) (hl : cur.length = c * k) (hr : row.length = g * k) (hv : vs.length = m * k) (ht : row.take (i * k) = cur.take (i * k)) :
    ∃ r, gr2 k row cur i m n vs = cur.take (i * k) ++ vs ++ mid k cur i n ++ r := by
  have h1 : i * k ≤ g * k := Nat.mul_le_mul_right _ (by omega)
  have h4 : (i + m) * k = i * k + m * k := Nat.add_mul ..
  refine ⟨(gr1 k row i vs).drop ((i + m) * k + (mid k cur i n).length), ?_⟩
  unfold gr2
  congr 2
  unfold gr1
  rw [List.take_append_of_le_length (by simp only [List.length_append, List.length_take, hr, hv]; omega), List.take_of_length_le (by simp only [List.length_append, List.length_take, hr, hv]; omega), ht]

theorem flat_take {n : Nat} : ∀ {es : List AV}, (∀ e ∈ es, e.cells.length = n) → ∀ j, (es.take j).flatMap AV.cells = (es.flatMap AV.cells).take (j * n)
  | [], _, j => by simp
  | x :: xs, hw, 0 => by simp
  | x :: xs, hw, j + 1 => by
    have hx := hw x (by simp)
    have := flat_take (es := xs) (fun e he => hw e (by simp [he])) j
    simp only [List.take_succ_cons, List.flatMap_cons, this, List.take_append, hx, Nat.add_mul, Nat.one_mul, Nat.add_sub_cancel]
    rw [List.take_of_length_le (show x.cells.length ≤ j * n + n by omega)]
theorem flat_drop {n : Nat} : ∀ {es : List AV}, (∀ e ∈ es, e.cells.length = n) → ∀ j, (es.drop j).flatMap AV.cells = (es.flatMap AV.cells).drop (j * n)
  | [], _, j => by simp
  | x :: xs, hw, 0 => by simp
  | x :: xs, hw, j + 1 => by
    have hx := hw x (by simp)
    have := flat_drop (es := xs) (fun e he => hw e (by simp [he])) j
    simp only [List.drop_succ_cons, List.flatMap_cons, this, List.drop_append, hx, Nat.add_mul, Nat.one_mul, Nat.add_sub_cancel]
    rw [List.drop_eq_nil_of_le (show x.cells.length ≤ j * n + n by omega)]
    simp

/-- A row into which others are put at a place; what stands behind the part that is seen. -/
def insL {α : Type} (c : List α) (k : Nat) (i : Int) (v : List α) : List α := c.take i.toNat ++ v ++ (c.take k).drop i.toNat
@[simp] theorem insL_map {α β : Type} {f : α → β} {c v : List α} {k : Nat} {i : Int} : (insL c k i v).map f = insL (c.map f) k i (v.map f) := by simp [insL, List.map_take, List.map_drop]
theorem insL_len {α : Type} {c v : List α} {k : Nat} {i : Int} (h1 : i.toNat ≤ k) (h2 : k ≤ c.length) : (insL c k i v).length = k + v.length := by
  simp only [insL, List.length_append, List.length_take, List.length_drop]; omega

section
variable {φ : FM} {w : World}
theorem ins_cells {φ : FM} {K k i : Nat} {es vs : List AV} {cur vsv : List Value} (hw : ∀ e ∈ es, e.cells.length = K) (hk : k ≤ es.length) (hi : i < k)
    (hc : VRL φ LM.none (es.flatMap AV.cells) (cur.take (es.length * K))) (hv : VRL φ LM.none (vs.flatMap AV.cells) vsv) (hvw : ∀ e ∈ vs, e.cells.length = K) (hcl : es.length * K ≤ cur.length) :
    VRL φ LM.none ((insL es k i vs).flatMap AV.cells) (cur.take (i * K) ++ vsv ++ mid K cur i k) := by
  have h1 : i * K ≤ es.length * K := Nat.mul_le_mul_right _ (by omega)
  have h2 : k * K ≤ es.length * K := Nat.mul_le_mul_right _ hk
  unfold insL
  rw [List.flatMap_append, List.flatMap_append]
  simp only [Int.toNat_natCast]
  refine VRL_append (VRL_append ?_ hv) ?_
  · rw [flat_take hw]
    have := VRL_take hc (i * K)
    rwa [List.take_take, show min (i * K) (es.length * K) = i * K by omega] at this
  · rw [flat_drop (fun e he => hw e (List.mem_of_mem_take he)), flat_take hw]
    have := VRL_drop (VRL_take hc (k * K)) (i * K)
    rw [List.take_take, show min (k * K) (es.length * K) = k * K by omega] at this
    unfold mid
    rw [Nat.sub_mul, ← List.drop_take]; exact this
end

/-- The row behind: what is seen, and what stood further on. -/
def insR {α : Type} (c : List α) (k : Nat) (i : Int) (v : List α) : List α := insL c k i v ++ c.drop (k + v.length)
@[simp] theorem insR_map {α β : Type} {f : α → β} {c v : List α} {k : Nat} {i : Int} : (insR c k i v).map f = insR (c.map f) k i (v.map f) := by simp [insR, List.map_drop]
theorem insR_len {α : Type} {c v : List α} {k : Nat} {i : Int} (h1 : i.toNat ≤ k) (h2 : k ≤ c.length) : (insR c k i v).length = k + v.length + (c.length - (k + v.length)) := by
  unfold insR; rw [List.length_append, insL_len h1 h2, List.length_drop]

/-- Insert by the two roads: in place, and grown. -/
theorem ins_ok {f : FuncId} {K B : Nat} (hK : 0 < K)
    (hshift : ∀ (b n c i vb m vc : Nat) (cur : Array Value) (te : TypeId) (vs : List Value) (va : Array Value) (tv : TypeId) (w : World), i < n → 0 < m → n + m ≤ c → (n + m) * B ≤ 17592186044416 → vb ≠ b →
      w.heap[b]? = some (.cells cur te (0, 0)) → cur.size = c * K → vs.length = m * K → w.heap[vb]? = some (.cells va tv (0, 0)) → (∀ j v, vs[j]? = some v → w.cell? ⟨vb, 0 + j, none⟩ = some v) →
      (∀ v ∈ mid K cur.toList i n, v.oneCell' = true) → (∀ v ∈ vs, v.oneCell' = true) →
      Calls P f #[.slice (some ⟨b, 0, none⟩) n c, .int .i64 i, .slice (some ⟨vb, 0, none⟩) m vc] w fun e w' =>
        e = .returned (.slice (some ⟨b, 0, none⟩) (n + m) c) ∧ ∃ w1, w1 = w.drew.setRow b (spl1 K cur.toList i m n).toArray ∧ w' = w1.setRow b (spl2 K cur.toList i m n vs).toArray)
    (hgrow : ∀ (b n c i vb m vc : Nat) (cur : Array Value) (te : TypeId) (vs : List Value) (w : World), i < n → 0 < m → n ≤ c → c < n + m → (n + m) * B ≤ 17592186044416 →
      w.heap[b]? = some (.cells cur te (0, 0)) → cur.size = c * K → vs.length = m * K → (∀ j v, vs[j]? = some v → w.cell? ⟨vb, 0 + j, none⟩ = some v) →
      (∀ v ∈ mid K cur.toList i n, v.oneCell' = true) → (∀ v ∈ vs, v.oneCell' = true) →
      Calls P f #[.slice (some ⟨b, 0, none⟩) n c, .int .i64 i, .slice (some ⟨vb, 0, none⟩) m vc] w fun e w' => ∃ (te : TypeId) (G : Nat) (ROW : Array Value) (w1 w2 : World),
        e = .returned (.slice (some ⟨w.heap.size, 0, none⟩) (n + m) G) ∧ n + m ≤ G ∧ ROW.size = G * K ∧ ROW.toList.take (i * K) = cur.toList.take (i * K) ∧
        w1 = (w.alloc (.cells ROW te)).drew ∧ w2 = (w1.setRow w.heap.size (gr1 K ROW.toList i vs).toArray).drew ∧ w' = w2.setRow w.heap.size (gr2 K ROW.toList cur.toList i m n vs).toArray)
    {es vs : List AV} {k : Nat} {i : Int} {ro : Bool} (hk : k ≤ es.length) (h0 : 0 ≤ i) (hi : i < k) (hm : 0 < vs.length) (hroom : (k + vs.length) * B ≤ 17592186044416) :
    CallOK P f [.osl 0 0 k es.length, .int .i64 i, .osl 1 0 vs.length vs.length] [.arr K es false, .arr K vs ro]
      (.osl 0 0 (k + vs.length) (insR es k i vs).length) [.arr K (insR es k i vs) false, .arr K vs ro] := by
  intro φ m w cargs hv hinv hmn
  obtain ⟨i, rfl⟩ : ∃ j : Nat, i = j := ⟨i.toNat, by omega⟩
  have hin : i < k := by omega
  simp only [VRL] at hv
  obtain ⟨v0, _, hc0, hv0, v1, _, rfl, hv1, v2, _, rfl, hv2, rfl⟩ := hv
  obtain rfl : cargs = #[v0, v1, v2] := by cases cargs; simp_all
  simp only [VR] at hv0 hv1 hv2
  subst hv1
  obtain ⟨_, l0, hm0, ht0, hs0⟩ := hv0
  obtain ⟨_, l1, hm1, ht1, hs1⟩ := hv2
  obtain ⟨l0', hm0', r0⟩ := hinv.own 0 _ rfl
  rw [hm0] at hm0'; cases hm0'
  obtain ⟨l1', hm1', r1⟩ := hinv.own 1 _ rfl
  rw [hm1] at hm1'; cases hm1'
  obtain ⟨a1, a2, a3, a4, a5⟩ := r0.arr K es false rfl
  obtain ⟨b1, b2, b3, b4, b5⟩ := r1.arr K vs ro rfl
  have hcap0 : 0 < l0.cap := by omega
  have hcap1 : 0 < l1.cap := by omega
  obtain ⟨cur, te, c1, c2, c3, c4⟩ := a5.resolve_left (by omega)
  obtain ⟨va, tv, d1, d2, d3, d4⟩ := b5.resolve_left (by omega)
  obtain ⟨ad0, rfl, e0⟩ := hs0 (by rw [r0.top]; rfl)
  obtain ⟨ad1, rfl, e1⟩ := hs1 (by rw [r1.top]; rfl)
  rw [e0 hcap0, e1 hcap1]
  simp only [Nat.zero_mul, Nat.sub_zero]
  have hne : l1.blk ≠ l0.blk := fun e => hinv.sep 1 0 _ _ l1 l0 _ rfl rfl hm1 hm0 (by decide) ⟨hcap1, rfl⟩ ⟨hcap0, e.symm⟩
  have hcl : cur.toList.length = l0.cap * K := by simpa using c2
  have hesl : es.length * K ≤ l0.cap * K := Nat.mul_le_mul_right _ a4
  have hvsl : vs.length * K ≤ l1.cap * K := Nat.mul_le_mul_right _ b4
  have hkl : k * K ≤ es.length * K := Nat.mul_le_mul_right _ hk
  obtain ⟨vsv, hvsv⟩ : ∃ vsv, vsv = va.toList.take (vs.length * K) := ⟨_, rfl⟩
  rw [← hvsv] at d4
  have hval : va.toList.length = l1.cap * K := by simpa using d2
  have hvl : vsv.length = vs.length * K := by rw [hvsv, List.length_take, hval]; omega
  have hvc : ∀ j v, vsv[j]? = some v → w.cell? ⟨l1.blk, 0 + j, none⟩ = some v := fun j v hj => by
    rw [cell_at d1, Nat.zero_add]
    rw [hvsv, List.getElem?_take] at hj
    split at hj
    · simpa using hj
    · cases hj
  have hesv : ∀ e ∈ es, e.cells.length = K := fun e he => (a3 e he).1
  have hvsw : ∀ e ∈ vs, e.cells.length = K := fun e he => (b3 e he).1
  have hallone : (es.flatMap AV.cells).all AV.one = true := by
    rw [List.all_eq_true]; intro y hy
    obtain ⟨e, he, hye⟩ := List.mem_flatMap.1 hy
    exact (List.all_eq_true.1 (a3 e he).2) y hye
  have hmone : ∀ v ∈ mid K cur.toList i k, v.oneCell' = true := fun v hv => by
    unfold mid at hv
    have h1 := VRL_one (VRL_drop c4 (i * K)) (all_drop hallone _) v
    refine h1 ?_
    rw [List.drop_take]
    rw [List.mem_iff_getElem?] at hv ⊢
    obtain ⟨j, hj⟩ := hv
    rw [List.getElem?_take] at hj
    split at hj
    · refine ⟨j, ?_⟩
      rw [List.getElem?_take, if_pos ?_]; exact hj
      have : (k - i) * K = k * K - i * K := Nat.sub_mul ..
      omega
    · cases hj
  have hvone : ∀ v ∈ vsv, v.oneCell' = true := VRL_one d4 (by
    rw [List.all_eq_true]; intro y hy
    obtain ⟨e, he, hye⟩ := List.mem_flatMap.1 hy
    exact (List.all_eq_true.1 (b3 e he).2) y hye)
  have hRl : (insR es k i vs).length = k + vs.length + (es.length - (k + vs.length)) := insR_len (by simpa using Nat.le_of_lt hin) hk
  have hRw : ∀ e ∈ insR es k i vs, e.cells.length = K ∧ e.cells.all AV.one = true := fun e he => by
    unfold insR insL at he
    simp only [List.mem_append] at he
    rcases he with ((h | h) | h) | h
    · exact a3 e (List.mem_of_mem_take h)
    · exact b3 e h
    · exact a3 e (List.mem_of_mem_take (List.mem_of_mem_drop h))
    · exact a3 e (List.mem_of_mem_drop h)
  have hgid : upd (fun j => [Ob.arr K es false, Ob.arr K vs ro][j]?) [(0, Ob.arr K (insR es k i vs) false)] = fun j => [Ob.arr K (insR es k i vs) false, Ob.arr K vs ro][j]? := by
    funext j
    rw [upd_one]
    cases j with
    | zero => rfl
    | succ j => simp
  have hIc := ins_cells (i := i) hesv hk hin c4 d4 hvsw (by rw [hcl]; omega)
  have hmn' : ∀ (l : Loc) (j : Nat), [Ob.arr K (insR es k i vs) false, Ob.arr K vs ro].length ≤ j → putM m 0 l j = Option.none := fun l j hj => by
    unfold putM
    rw [if_neg (by simp at hj; omega)]; exact hmn j hj
  simp only [if_neg (by simp : ¬ (false = true))] at c3
  by_cases hc : k + vs.length ≤ l0.cap
  · refine (hshift l0.blk k l0.cap i l1.blk vs.length l1.cap cur te vsv va tv w hin hm hc hroom hne c1 c2 hvl d1 hvc hmone hvone).mono fun e w' => ?_
    rintro ⟨rfl, w1, rfl, rfl⟩
    obtain ⟨l', hl'⟩ : ∃ l' : Loc, l' = ⟨l0.blk, K, l0.cap, (insR es k i vs).length, l0.sub⟩ := ⟨_, rfl⟩
    have hs2 := spl2_eq (k := K) (m := vs.length) (vs := vsv) hin hc hcl hvl
    have hh1 : (w.drew.setRow l0.blk (spl1 K cur.toList i vs.length k).toArray).heap[l0.blk]? = some (.cells (spl1 K cur.toList i vs.length k).toArray te (0, 0)) := setRow_heap' (w := w.drew) c1 _
    obtain ⟨p1, p2⟩ := inv_repl (l' := l') (ob' := .arr K (insR es k i vs) false) (w' := (w.drew.setRow l0.blk (spl1 K cur.toList i vs.length k).toArray).setRow l0.blk (spl2 K cur.toList i vs.length k vsv).toArray) hinv rfl hm0 (fun _ => c3) (by rw [r0.top, hl']; simp only [Ob.len, hRl]; omega)
      (fun h => by
        rw [hl'] at h ⊢
        simp only at h
        cases l0; simp_all)
      (fun _ => Iff.rfl) (fun _ h => h) (by rw [hl'])
      (fun _ => .inl ⟨hcap0, by rw [hl']⟩) rfl rfl rfl (by rw [setRow_size, setRow_size]; exact Nat.le_refl _)
      (fun b _ hb => by rw [setRow_other _ _ _ (hb hcap0), setRow_other _ _ _ (hb hcap0)]; rfl)
      ⟨by rw [hl']; rfl, (fun _ h => by cases h), (fun esz es' ro' h => by
        cases h
        rw [hl']
        refine ⟨rfl, hK, hRw, by rw [hRl]; simp only; omega, .inr ⟨_, te, setRow_heap' hh1 _, ?_, ?_, ?_⟩⟩
        · rw [List.size_toArray, hs2]
          have h5 := mid_len (k := K) (i := i) (n := k) (c := l0.cap) (cur := cur.toList) (by omega) hcl
          have h6 : (k + vs.length) * K ≤ l0.cap * K := Nat.mul_le_mul_right _ hc
          have h7 : i * K ≤ k * K := Nat.mul_le_mul_right _ (by omega)
          simp only [List.length_append, List.length_take, List.length_drop, hcl, hvl, h5]
          rw [Nat.add_mul] at h6 ⊢
          rw [Nat.sub_mul]; omega
        · simpa using c3
        · rw [hs2]
          simp only
          have h5 := mid_len (k := K) (i := i) (n := k) (c := l0.cap) (cur := cur.toList) (by omega) hcl
          have h6 : (k + vs.length) * K ≤ l0.cap * K := Nat.mul_le_mul_right _ hc
          have h7 : i * K ≤ k * K := Nat.mul_le_mul_right _ (by omega)
          have hA : (cur.toList.take (i * K) ++ vsv ++ mid K cur.toList i k).length = (k + vs.length) * K := by
            simp only [List.length_append, List.length_take, hcl, hvl, h5]
            rw [Nat.add_mul, Nat.sub_mul]; omega
          rw [hRl, Nat.add_mul, List.take_append, hA, List.take_of_length_le (by rw [hA]; omega), Nat.add_sub_cancel_left]
          unfold insR
          rw [List.flatMap_append]
          refine VRL_append hIc ?_
          rw [flat_drop hesv]
          have := VRL_drop c4 ((k + vs.length) * K)
          rw [List.drop_take] at this
          rwa [← Nat.sub_mul] at this), trivial⟩
    rw [hgid] at p1 p2
    refine ⟨_, rfl, φ, putM m 0 l', ?_, p1, p2, hmn' l', by simp⟩
    simp only [VR]
    refine ⟨rfl, l', by simp [putM], by rw [hl']; exact Nat.le_refl _, fun _ => ⟨_, by rw [hl']; simp only [Nat.sub_zero]; rfl, fun _ => by rw [hl']; simp⟩⟩
  · refine (hgrow l0.blk k l0.cap i l1.blk vs.length l1.cap cur te vsv w hin hm (by omega) (by omega) hroom c1 c2 hvl hvc hmone hvone).mono fun e w' => ?_
    rintro ⟨te', G, ROW, w1, w2, rfl, hG, hRs, hRt, rfl, rfl, rfl⟩
    obtain ⟨l', hl'⟩ : ∃ l' : Loc, l' = ⟨w.heap.size, K, G, (insR es k i vs).length, l0.sub⟩ := ⟨_, rfl⟩
    have hRl' : (insR es k i vs).length = k + vs.length := by rw [hRl]; omega
    obtain ⟨r, hr⟩ := gr2_eq (k := K) (m := vs.length) (vs := vsv) (row := ROW.toList) hin (by omega) hG hcl (by simpa using hRs) hvl hRt
    have hN : ((w.alloc (.cells ROW te')).drew).heap[w.heap.size]? = some (.cells ROW te' (0, 0)) := by show (w.heap.push _)[w.heap.size]? = _; simp
    have hN2 : ((((w.alloc (.cells ROW te')).drew).setRow w.heap.size (gr1 K ROW.toList i vsv).toArray).drew).heap[w.heap.size]? = some (.cells (gr1 K ROW.toList i vsv).toArray te' (0, 0)) := setRow_heap' hN _
    have hold : ∀ b, b < w.heap.size → ((w.alloc (.cells ROW te')).drew).heap[b]? = w.heap[b]? := fun b hb => by
      show (w.heap.push _)[b]? = _
      rw [Array.getElem?_push, if_neg (by omega)]
    obtain ⟨p1, p2⟩ := inv_repl (l' := l') (ob' := .arr K (insR es k i vs) false) (w' := ((((w.alloc (.cells ROW te')).drew).setRow w.heap.size (gr1 K ROW.toList i vsv).toArray).drew).setRow w.heap.size (gr2 K ROW.toList cur.toList i vs.length k vsv).toArray) hinv rfl hm0 (fun _ => c3) (by rw [r0.top, hl']; simp only [Ob.len, hRl']; omega)
      (fun h => by
        rw [hl'] at h
        rw [r0.top] at h
        simp only [Ob.len, hRl'] at h
        omega)
      (fun _ => Iff.rfl) (fun _ h => h) (by rw [hl'])
      (fun _ => .inr (by rw [hl']; exact Nat.le_refl _)) rfl rfl rfl (by rw [setRow_size]; show _ ≤ (World.setRow _ _ _).heap.size; rw [setRow_size]; show _ ≤ (w.heap.push _).size; simp)
      (fun b hb _ => by
        rw [setRow_other _ _ _ (by omega)]
        show (World.setRow _ _ _).heap[b]? = _
        rw [setRow_other _ _ _ (by omega)]
        exact hold b hb)
      ⟨by rw [hl']; rfl, (fun _ h => by cases h), (fun esz es' ro' h => by
        cases h
        rw [hl']
        have h5 := mid_len (k := K) (i := i) (n := k) (c := l0.cap) (cur := cur.toList) (by omega) hcl
        have h7 : i * K ≤ k * K := Nat.mul_le_mul_right _ (by omega)
        have h8 : k * K ≤ l0.cap * K := Nat.mul_le_mul_right _ (by omega)
        have hA : (cur.toList.take (i * K) ++ vsv ++ mid K cur.toList i k).length = (k + vs.length) * K := by
          simp only [List.length_append, List.length_take, hcl, hvl, h5]
          rw [Nat.add_mul, Nat.sub_mul]; omega
        refine ⟨rfl, hK, hRw, by rw [hRl']; exact hG, .inr ⟨_, te', setRow_heap' hN2 _, ?_, ?_, ?_⟩⟩
        · have h9 : (k + vs.length) * K ≤ G * K := Nat.mul_le_mul_right _ hG
          have hg1 : (gr1 K ROW.toList i vsv).length = G * K := by
            have h10 : i * K ≤ G * K := Nat.mul_le_mul_right _ (by omega)
            rw [Nat.add_mul] at h9
            simp only [gr1, List.length_append, List.length_take, List.length_drop, Array.length_toList, hRs, hvl]; omega
          simp only [List.size_toArray, gr2, List.length_append, List.length_take, List.length_drop, hg1, h5]
          rw [Nat.add_mul] at h9
          rw [Nat.add_mul, Nat.sub_mul]; omega
        · simp only [if_neg (by simp : ¬ (false = true))]
          cases hp : φ w.heap.size with
          | none => rfl
          | some o => have := (Array.getElem?_eq_some_iff.1 (hinv.fz _ _ hp)).1; omega
        · rw [hr, hRl']
          simp only
          rw [List.take_append_of_le_length (by rw [hA]; omega), List.take_of_length_le (by rw [hA]; omega)]
          unfold insR
          rw [List.drop_eq_nil_of_le (by omega), List.append_nil]
          exact hIc), trivial⟩
    rw [hgid] at p1 p2
    refine ⟨_, rfl, φ, putM m 0 l', ?_, p1, p2, hmn' l', by simp⟩
    simp only [VR]
    refine ⟨rfl, l', by simp [putM], by rw [hl']; exact Nat.le_refl _, fun _ => ⟨_, by rw [hl']; simp only [Nat.sub_zero]; rfl, fun _ => by rw [hl']; simp⟩⟩
/-- A row with one element apart: what is ahead of it and behind it. -/
theorem split_inj {α : Type} {e : α → AV} (he : Inj e) {op op' : AV} (h1 : ∀ x, e x ≠ op') (h2 : ∀ x, e x ≠ op) : ∀ {a a' b b' : List α}, List.map e a ++ op :: List.map e b = List.map e a' ++ op' :: List.map e b' → a = a' ∧ b = b'
  | [], [], b, b', h => by
    simp only [List.map_nil, List.nil_append, List.cons.injEq] at h
    exact ⟨rfl, (map_inj he).1 h.2⟩
  | [], x :: a', b, b', h => by
    simp only [List.map_nil, List.nil_append, List.map_cons, List.cons_append, List.cons.injEq] at h
    exact (h2 x h.1.symm).elim
  | x :: a, [], b, b', h => by
    simp only [List.map_nil, List.nil_append, List.map_cons, List.cons_append, List.cons.injEq] at h
    exact (h1 x h.1).elim
  | x :: a, y :: a', b, b', h => by
    simp only [List.map_cons, List.cons_append, List.cons.injEq] at h
    obtain ⟨i1, i2⟩ := split_inj he h1 h2 h.2
    exact ⟨by rw [i1, he.1 _ _ h.1], i2⟩
theorem split_inj3 {α : Type} {e : α → AV} (he : Inj e) {op op' : AV} (h1 : ∀ x, e x ≠ op') (h2 : ∀ x, e x ≠ op) {a a' b b' : List α} (h : List.map e a ++ op :: List.map e b = List.map e a' ++ op' :: List.map e b') : a = a' ∧ op = op' ∧ b = b' := by
  obtain ⟨rfl, rfl⟩ := split_inj he h1 h2 h
  exact ⟨rfl, by simpa using h, rfl⟩
end Go.Proofs.YtapchldnmkfkoabDoor.Am
