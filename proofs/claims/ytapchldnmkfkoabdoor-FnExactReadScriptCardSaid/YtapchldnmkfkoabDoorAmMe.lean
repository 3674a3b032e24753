import Derived.Test.YtapchldnmkfkoabDoorAmMd
set_option linter.unusedVariables false
set_option linter.unusedSimpArgs false
set_option linter.unusedSectionVars false
namespace Go.Proofs.YtapchldnmkfkoabDoor.Am
open Go

section
variable {P : Program} {cl : Cl} {E : FuncId → Md} {g : Nat → Option Ob} {nx : Nat} {α : Type}
@[simp] theorem room_eq : room = 17592186044416 := by decide
@[simp] theorem take_map_len {β : Type} {e : α → β} {l : List α} : List.take l.length (List.map e l) = List.map e l := by
  rw [List.take_of_length_le (by simp)]
@[simp] theorem take_map_len' {β : Type} {e : α → β} {l : List α} {n : Nat} (h : l.length = n) : List.take n (List.map e l) = List.map e l := by
  subst h; rw [List.take_of_length_le (by simp)]
@[simp] theorem widths_nil {n : Nat} : widths n [] = true := rfl
@[simp] theorem widths_cons {n : Nat} {v : AV} {vs : List AV} : widths n (v :: vs) = ((v.cells.length == n && v.cells.all AV.one) && widths n vs) := rfl
@[simp] theorem widths_map {n : Nat} {e : α → AV} {l : List α} (h : wid e n) : widths n (l.map e) = true := wid_widths h
@[simp] theorem widths_app {n : Nat} {a b : List AV} : widths n (a ++ b) = (widths n a && widths n b) := by simp [widths]

/-! Appending -/
def appS (ts : TS) (bytes : Nat) (z : Option AV) (src : Option (List AV × List Nat)) (s : AV) (g : Nat → Option Ob) (nx : Nat) : Option Eff :=
    match z with
    | none => none
    | some z =>
    if z.cells.length ≠ ts.size ∨ bytes = 0 ∨ 1048576 < bytes ∨ z.cells.all AV.one = false then none else
    match src with
    | none => none
    | some (src, is) =>
      if !widths ts.size src then none else
      match s with
      | .nilsl => if src.length * bytes ≤ room then some ⟨.osl nx 0 src.length src.length, is, [(nx, .arr ts.size src false)], nx + 1⟩ else none
      | .osl id off len tot => match g id with
        | some (.arr esz es false) =>
          if esz = ts.size ∧ tot = es.length ∧ (len + src.length) * bytes ≤ room then
            if off = 0 ∧ len = es.length then
              some ⟨.osl id 0 (len + src.length) (tot + src.length), id :: is, [(id, .arr esz (es ++ src) false)], nx⟩
            else if off + len + src.length ≤ es.length then
              some ⟨.osl id off (len + src.length) tot, id :: is, [(id, .arr esz (es.take (off + len) ++ src ++ es.drop (off + len + src.length)) false)], nx⟩
            else none
          else none
        | _ => none
      | _ => none
def appT (el : Option (TypeId × TS × Nat)) (st : Bool) (z : TypeId → Option AV) (s x : AV) (g : Nat → Option Ob) (nx : Nat) : Option Eff :=
  match el with
  | none => none
  | some (e, ts, bytes) => if !st then none else appS ts bytes (z e) (srcOf ts g x) s g nx
@[simp] theorem appA_T {t t2 s x} : appA P t t2 s x g nx = appT (elt P t) (srcTy P t2) (zer P) s x g nx := by
  unfold appA appT appS
  rfl
@[simp] theorem appT_some {e ts b z s x} : appT (some (e, ts, b)) true z s x g nx = appS ts b (z e) (srcOf ts g x) s g nx := rfl
def elsO (o : Option Ob) (id off len tot : Nat) : Option (List AV × List Nat) := match o with
    | some (.arr _ es _) => if tot = es.length ∧ off + len ≤ es.length then some ((es.drop off).take len, [id]) else none
    | _ => none
@[simp] theorem srcOf_fsl {ts es} : srcOf ts g (.fsl es) = some (es, []) := rfl
@[simp] theorem srcOf_nil {ts} : srcOf ts g .nilsl = some ([], []) := rfl
@[simp] theorem srcOf_osl {ts id off len tot} : srcOf ts g (.osl id off len tot) = elsO (g id) id off len tot := rfl
@[simp] theorem elsO_some {z es r id off len tot} : elsO (some (.arr z es r)) id off len tot = if tot = es.length ∧ off + len ≤ es.length then some ((es.drop off).take len, [id]) else none := rfl
def appO (ts : TS) (bytes : Nat) (src : List AV) (is : List Nat) (o : Option Ob) (id off len tot nx : Nat) : Option Eff := match o with
        | some (.arr esz es false) =>
          if esz = ts.size ∧ tot = es.length ∧ (len + src.length) * bytes ≤ room then
            if off = 0 ∧ len = es.length then
              some ⟨.osl id 0 (len + src.length) (tot + src.length), id :: is, [(id, .arr esz (es ++ src) false)], nx⟩
            else if off + len + src.length ≤ es.length then
              some ⟨.osl id off (len + src.length) tot, id :: is, [(id, .arr esz (es.take (off + len) ++ src ++ es.drop (off + len + src.length)) false)], nx⟩
            else none
          else none
        | _ => none
@[simp] theorem appS_nil {ts b z src is} (h : (z.cells.length = ts.size ∧ ¬ b = 0 ∧ b ≤ 1048576 ∧ z.cells.all AV.one = true) ∧ widths ts.size src = true) : appS ts b (some z) (some (src, is)) .nilsl g nx = if src.length * b ≤ room then some ⟨.osl nx 0 src.length src.length, is, [(nx, .arr ts.size src false)], nx + 1⟩ else none := by
  obtain ⟨⟨h1, h2, h3, h4⟩, h5⟩ := h
  have : ¬ 1048576 < b := by omega
  simp only [appS, h1, h2, this, h4, h5]; simp
@[simp] theorem appS_osl {ts b z src is id off len tot} (h : (z.cells.length = ts.size ∧ ¬ b = 0 ∧ b ≤ 1048576 ∧ z.cells.all AV.one = true) ∧ widths ts.size src = true) : appS ts b (some z) (some (src, is)) (.osl id off len tot) g nx = appO ts b src is (g id) id off len tot nx := by
  obtain ⟨⟨h1, h2, h3, h4⟩, h5⟩ := h
  have : ¬ 1048576 < b := by omega
  simp only [appS, h1, h2, this, h4, h5]; simp [appO]
@[simp] theorem appO_some {ts b src is esz es id off len tot} : appO ts b src is (some (.arr esz es false)) id off len tot nx = if esz = ts.size ∧ tot = es.length ∧ (len + src.length) * b ≤ room then
            if off = 0 ∧ len = es.length then
              some ⟨.osl id 0 (len + src.length) (tot + src.length), id :: is, [(id, .arr esz (es ++ src) false)], nx⟩
            else if off + len + src.length ≤ es.length then
              some ⟨.osl id off (len + src.length) tot, id :: is, [(id, .arr esz (es.take (off + len) ++ src ++ es.drop (off + len + src.length)) false)], nx⟩
            else none
          else none := rfl

/-! Rows made and rows with given parts -/
def mkT (dp : TypeId → Bool) (zs : TypeId → List Nat) (el : Option (TypeId × TS × Nat)) (z : TypeId → Option AV) (l c : AV) (nx : Nat) : Option Eff :=
  match el, l, c with
  | some (e, ts, bytes), .int .i64 l, .int .i64 c =>
    match z e with
    | some z => if 0 ≤ l ∧ l ≤ c ∧ c ≤ room ∧ c * bytes ≤ room ∧ z.cells.length = ts.size ∧ z.cells.all AV.one then
        some ⟨.osl nx 0 l.toNat l.toNat, [], [(nx, if (dp e && plainL z.cells) = true then .nar ts.size (List.replicate l.toNat (fz z)) (zs e) else .arr ts.size (List.replicate l.toNat (fz z)) false)], nx + 1⟩ else none
    | none => none
  | _, _, _ => none
@[simp] theorem mkA_T {t l c} : mkA P t l c nx = mkT (deepP P) (zsP P 6) (elt P t) (zer P) l c nx := rfl
def mkZ (dp : Bool) (zs : List Nat) (ts : TS) (b : Nat) (z : Option AV) (l c : Int) (nx : Nat) : Option Eff := match z with
    | some z => if 0 ≤ l ∧ l ≤ c ∧ c ≤ room ∧ c * b ≤ room ∧ z.cells.length = ts.size ∧ z.cells.all AV.one then
        some ⟨.osl nx 0 l.toNat l.toNat, [], [(nx, if (dp && plainL z.cells) = true then .nar ts.size (List.replicate l.toNat (fz z)) zs else .arr ts.size (List.replicate l.toNat (fz z)) false)], nx + 1⟩ else none
    | none => none
@[simp] theorem mkT_some {dp zs e ts b z l c} : mkT dp zs (some (e, ts, b)) z (.int .i64 l) (.int .i64 c) nx = mkZ (dp e) (zs e) ts b (z e) l c nx := rfl
@[simp] theorem mkZ_some {zs ts b z l c} : mkZ false zs ts b (some z) l c nx = if 0 ≤ l ∧ l ≤ c ∧ c ≤ room ∧ c * b ≤ room ∧ z.cells.length = ts.size ∧ z.cells.all AV.one then
        some ⟨.osl nx 0 l.toNat l.toNat, [], [(nx, .arr ts.size (List.replicate l.toNat (fz z)) false)], nx + 1⟩ else none := rfl
@[simp] theorem mkZ_nar {zs ts b z l c} (h : plainL z.cells = true) : mkZ true zs ts b (some z) l c nx = if 0 ≤ l ∧ l ≤ c ∧ c ≤ room ∧ c * b ≤ room ∧ z.cells.length = ts.size ∧ z.cells.all AV.one then
        some ⟨.osl nx 0 l.toNat l.toNat, [], [(nx, .nar ts.size (List.replicate l.toNat (fz z)) zs)], nx + 1⟩ else none := by simp only [mkZ, h]; rfl
@[simp] theorem fz_agg {cs} : fz (.agg cs) = .agg (cs.map fzc) := rfl
@[simp] theorem fz_int {k n} : fz (.int k n) = .int k n := rfl
@[simp] theorem fz_bool {n} : fz (.bool n) = .bool n := rfl
@[simp] theorem fz_str {n} : fz (.str n) = .str n := rfl
@[simp] theorem fz_nilsl : fz .nilsl = .fsl [] := rfl
@[simp] theorem fzc_int {k n} : fzc (.int k n) = .int k n := rfl
@[simp] theorem fzc_bool {n} : fzc (.bool n) = .bool n := rfl
@[simp] theorem fzc_str {n} : fzc (.str n) = .str n := rfl
@[simp] theorem fzc_nilsl : fzc .nilsl = .fsl [] := rfl
def bslT (el : Option (TypeId × TS × Nat)) (z : TypeId → Option AV) (len : Nat) (parts : List (Nat × AV)) (g : Nat → Option Ob) (nx : Nat) : Option Eff :=
  match el with
  | none => none
  | some (e, ts, _) => match z e with
    | none => none
    | some z =>
      if len * ts.size ≤ 2 ^ 24 ∧ z.cells.length = ts.size ∧ z.cells.all AV.one then
        match setParts g ts.size (List.replicate len z) parts, roAll g (addTo [] (idsL (parts.map (·.2)))) with
        | some es, some ro => some ⟨.osl nx 0 len len, addTo [] (idsL (parts.map (·.2))), (nx, .arr ts.size es false) :: ro, nx + 1⟩
        | _, _ => none
      else none
@[simp] theorem bslA_T {t len parts} : bslA P t len parts g nx = bslT (elt P t) (zer P) len parts g nx := rfl
def bslR (ts : TS) (len nx : Nat) (is : List Nat) (es : Option (List AV)) (ro : Option Hp) : Option Eff := match es, ro with
  | some es, some ro => some ⟨.osl nx 0 len len, is, (nx, .arr ts.size es false) :: ro, nx + 1⟩
  | _, _ => none
@[simp] theorem bslR_some {ts len is es ro} : bslR ts len nx is (some es) (some ro) = some ⟨.osl nx 0 len len, is, (nx, .arr ts.size es false) :: ro, nx + 1⟩ := rfl
def bslZ (ts : TS) (z : Option AV) (len : Nat) (parts : List (Nat × AV)) (g : Nat → Option Ob) (nx : Nat) : Option Eff := match z with
    | none => none
    | some z => if len * ts.size ≤ 16777216 ∧ z.cells.length = ts.size ∧ z.cells.all AV.one then
        bslR ts len nx (addTo [] (idsL (parts.map (·.2)))) (setParts g ts.size (List.replicate len z) parts) (roAll g (addTo [] (idsL (parts.map (·.2))))) else none
@[simp] theorem bslT_some {e ts b z len parts} : bslT (some (e, ts, b)) z len parts g nx = bslZ ts (z e) len parts g nx := by
  unfold bslT bslZ
  dsimp only
  cases z e with
  | none => rfl
  | some z => rfl
@[simp] theorem bslZ_some {ts z len parts} : bslZ ts (some z) len parts g nx = if len * ts.size ≤ 16777216 ∧ z.cells.length = ts.size ∧ z.cells.all AV.one then
        bslR ts len nx (addTo [] (idsL (parts.map (·.2)))) (setParts g ts.size (List.replicate len z) parts) (roAll g (addTo [] (idsL (parts.map (·.2))))) else none := rfl
@[simp] theorem setParts_nil {n es} : setParts g n es [] = some es := rfl
def setP (g : Nat → Option Ob) (n : Nat) (es : List AV) (i : Nat) (v : Option AV) (rest : List (Nat × AV)) : Option (List AV) := match v with
    | some v => if v.cells.length = n ∧ i < es.length ∧ v.cells.all AV.one then setParts g n (es.set i v) rest else none
    | none => none
@[simp] theorem setParts_cons {n es i v rest} : setParts g n es ((i, v) :: rest) = setP g n es i (frz g v) rest := rfl
@[simp] theorem setP_some {n es i v rest} : setP g n es i (some v) rest = if v.cells.length = n ∧ i < es.length ∧ v.cells.all AV.one then setParts g n (es.set i v) rest else none := rfl
@[simp] theorem roAll_nil : roAll g [] = some [] := rfl
def roC (i : Nat) (o : Option Ob) (h : Option Hp) : Option Hp := match o, h with
    | some (.arr e es _), some h => some ((i, .arr e es true) :: h)
    | some (.nar e es _), some h => if (idsL es).isEmpty = true then some ((i, .arr e es true) :: h) else none
    | _, _ => none
@[simp] theorem roAll_cons {i is} : roAll g (i :: is) = roC i (g i) (roAll g is) := rfl
@[simp] theorem roC_nar {i e es zs h} : roC i (some (.nar e es zs)) (some h) = if (idsL es).isEmpty = true then some ((i, .arr e es true) :: h) else none := rfl
@[simp] theorem roC_some {i e es r h} : roC i (some (.arr e es r)) (some h) = some ((i, .arr e es true) :: h) := rfl

/-! Pieces -/
def slcT (st : Bool) (el : Option (TypeId × TS × Nat)) (x : AV) (lo hi mx : Option AV) (g : Nat → Option Ob) (nx : Nat) : Option Eff :=
  match numA lo, numA hi, numA mx with
  | some lo, some hi, some mx =>
    match x with
    | .str s =>
        let h := hi.getD s.size
        let l := lo.getD 0
        if st = true then (if mx = none ∧ 0 ≤ l ∧ l ≤ h ∧ h ≤ s.size then Eff.pure (.str (s.extract l.toNat h.toNat)) nx else none) else none
    | _ => match el with
      | none => none
      | some (_, ts, _) =>
        match x with
        | .fsl es =>
          let h := hi.getD es.length
          let l := lo.getD 0
          match mx with
          | none => if 0 ≤ l ∧ l ≤ h ∧ h ≤ es.length ∧ es.all (fun e => e.cells.length == ts.size) = true then Eff.pure (.fsl ((es.drop l.toNat).take (h - l).toNat)) nx else none
          | some m => if l = h ∧ h = m ∧ 0 ≤ l ∧ l ≤ es.length ∧ hi.isSome = true then Eff.pure .nilsl nx else none
        | .nilsl =>
          let h := hi.getD 0
          let l := lo.getD 0
          let m := mx.getD 0
          if l = 0 ∧ h = 0 ∧ m = 0 ∧ (mx.isSome = true → hi.isSome = true) then Eff.pure .nilsl nx else none
        | .osl id off len tot =>
          let h := hi.getD len
          let l := lo.getD 0
          match rowO (g id) with
          | some (esz, es) =>
            if tot = es.length ∧ off + len ≤ es.length ∧ esz = ts.size then
              match mx with
              | none => if 0 ≤ l ∧ l ≤ h ∧ (off : Int) + h ≤ es.length then some ⟨.osl id (off + l.toNat) (h - l).toNat tot, [id], [], nx⟩ else none
              | some m => if 0 ≤ l ∧ l ≤ h ∧ h ≤ m ∧ m ≤ len ∧ hi.isSome = true then some ⟨if l = m then .nilsl else .any, [id], [], nx⟩ else none
            else none
          | _ => none
        | _ => none
  | _, _, _ => none
@[simp] theorem slcA_T {t x lo hi mx} : slcA P t x lo hi mx g nx = slcT (isStr P t) (elt P t) x lo hi mx g nx := by
  unfold slcA slcT isStr
  cases numA lo with
  | none => rfl
  | some a => cases numA hi with
    | none => rfl
    | some b => cases numA mx with
      | none => rfl
      | some c =>
        cases x <;> try rfl
        dsimp only
        cases P.underlying t with
        | none => rfl
        | some d => cases d <;> rfl
def slR (e : α → AV) (o : Option (List α)) (nx : Nat) : Option Eff := match o with
  | some n => Eff.pure (.fsl (n.map e)) nx
  | none => none
@[simp] theorem slR_some {e : α → AV} {n} : slR e (some n) nx = Eff.pure (.fsl (n.map e)) nx := rfl
theorem slcT_f {st t ts b} {e : α → AV} {l : List α} (hw : wid e ts.size) {lo hi : Option AV} {a c : Option Int} (h1 : numA lo = some a) (h2 : numA hi = some c) :
    slcT st (some (t, ts, b)) (.fsl (l.map e)) lo hi none g nx = slR e (slc l (a.getD 0) (c.getD l.length)) nx := by
  unfold slcT
  rw [h1, h2]
  dsimp only [numA]
  unfold slR slc
  rw [wid_all hw]
  simp only [List.length_map, and_true]
  split <;> simp
@[simp] theorem slcT_f0 {st t ts b} {e : α → AV} {l : List α} (hw : wid e ts.size) : slcT st (some (t, ts, b)) (.fsl (l.map e)) none none none g nx = slR e (slc l 0 l.length) nx := slcT_f (a := none) (c := none) hw rfl rfl
@[simp] theorem slcT_f1 {st t ts b k a} {e : α → AV} {l : List α} (hw : wid e ts.size) : slcT st (some (t, ts, b)) (.fsl (l.map e)) (some (.int k a)) none none g nx = slR e (slc l a l.length) nx := slcT_f (a := some a) (c := none) hw rfl rfl
@[simp] theorem slcT_f2 {st t ts b k c} {e : α → AV} {l : List α} (hw : wid e ts.size) : slcT st (some (t, ts, b)) (.fsl (l.map e)) none (some (.int k c)) none g nx = slR e (slc l 0 c) nx := slcT_f (a := none) (c := some c) hw rfl rfl
@[simp] theorem slcT_f3 {st t ts b k k' a c} {e : α → AV} {l : List α} (hw : wid e ts.size) : slcT st (some (t, ts, b)) (.fsl (l.map e)) (some (.int k a)) (some (.int k' c)) none g nx = slR e (slc l a c) nx := slcT_f (a := some a) (c := some c) hw rfl rfl
def slS (o : Option (List UInt8)) (nx : Nat) : Option Eff := match o with
  | some n => Eff.pure (.str (bs n)) nx
  | none => none
@[simp] theorem slS_some {n} : slS (some n) nx = Eff.pure (.str (bs n)) nx := rfl
theorem slcT_s {el} {s : List UInt8} {lo hi : Option AV} {a c : Option Int} (h1 : numA lo = some a) (h2 : numA hi = some c) :
    slcT true el (.str (bs s)) lo hi none g nx = slS (slc s (a.getD 0) (c.getD s.length)) nx := by
  unfold slcT
  rw [h1, h2]
  dsimp only [numA]
  unfold slS slc
  have hsz : (bs s).size = s.length := rfl
  by_cases h : 0 ≤ a.getD 0 ∧ a.getD 0 ≤ c.getD s.length ∧ c.getD s.length ≤ s.length
  · have h' : (none : Option Int) = none ∧ 0 ≤ a.getD 0 ∧ a.getD 0 ≤ c.getD (bs s).size ∧ c.getD (bs s).size ≤ (bs s).size := ⟨rfl, h⟩
    rw [if_pos rfl, if_pos h, if_pos h']
    have : (bs s).extract (a.getD 0).toNat (c.getD s.length).toNat = bs (List.take ((c.getD s.length) - (a.getD 0)).toNat (List.drop (a.getD 0).toNat s)) := by
      unfold bs
      apply ByteArray.ext
      simp only [ByteArray.data_extract, List.extract_toArray, List.extract_eq_drop_take']
      congr 2
      rw [List.take_drop]; congr 2; omega
    rw [hsz, this]
  · have h' : ¬ ((none : Option Int) = none ∧ 0 ≤ a.getD 0 ∧ a.getD 0 ≤ c.getD (bs s).size ∧ c.getD (bs s).size ≤ (bs s).size) := fun x => h x.2
    rw [if_pos rfl, if_neg h, if_neg h']
@[simp] theorem slcT_s0 {el} {s : List UInt8} : slcT true el (.str (bs s)) none none none g nx = slS (slc s 0 s.length) nx := slcT_s (a := none) (c := none) rfl rfl
@[simp] theorem slcT_s1 {el k a} {s : List UInt8} : slcT true el (.str (bs s)) (some (.int k a)) none none g nx = slS (slc s a s.length) nx := slcT_s (a := some a) (c := none) rfl rfl
@[simp] theorem slcT_s2 {el k c} {s : List UInt8} : slcT true el (.str (bs s)) none (some (.int k c)) none g nx = slS (slc s 0 c) nx := slcT_s (a := none) (c := some c) rfl rfl
@[simp] theorem slcT_s3 {el k k' a c} {s : List UInt8} : slcT true el (.str (bs s)) (some (.int k a)) (some (.int k' c)) none g nx = slS (slc s a c) nx := slcT_s (a := some a) (c := some c) rfl rfl
def slO (ts : TS) (o : Option Ob) (id off len tot : Nat) (l h : Int) (nx : Nat) : Option Eff := match rowO o with
  | some (esz, es) =>
            if tot = es.length ∧ off + len ≤ es.length ∧ esz = ts.size then (if 0 ≤ l ∧ l ≤ h ∧ (off : Int) + h ≤ es.length then some ⟨.osl id (off + l.toNat) (h - l).toNat tot, [id], [], nx⟩ else none) else none
  | _ => none
theorem slcT_o {st t ts b id off len tot} {lo hi : Option AV} {a c : Option Int} (h1 : numA lo = some a) (h2 : numA hi = some c) :
    slcT st (some (t, ts, b)) (.osl id off len tot) lo hi none g nx = slO ts (g id) id off len tot (a.getD 0) (c.getD len) nx := by
  unfold slcT slO
  rw [h1, h2]
  rfl
@[simp] theorem slcT_o0 {st t ts b id off len tot} : slcT st (some (t, ts, b)) (.osl id off len tot) none none none g nx = slO ts (g id) id off len tot 0 len nx := slcT_o (a := none) (c := none) rfl rfl
@[simp] theorem slcT_o1 {st t ts b id off len tot k a} : slcT st (some (t, ts, b)) (.osl id off len tot) (some (.int k a)) none none g nx = slO ts (g id) id off len tot a len nx := slcT_o (a := some a) (c := none) rfl rfl
@[simp] theorem slcT_o2 {st t ts b id off len tot k c} : slcT st (some (t, ts, b)) (.osl id off len tot) none (some (.int k c)) none g nx = slO ts (g id) id off len tot 0 c nx := slcT_o (a := none) (c := some c) rfl rfl
@[simp] theorem slcT_o3 {st t ts b id off len tot k k' a c} : slcT st (some (t, ts, b)) (.osl id off len tot) (some (.int k a)) (some (.int k' c)) none g nx = slO ts (g id) id off len tot a c nx := slcT_o (a := some a) (c := some c) rfl rfl
@[simp] theorem slO_some {ts esz es r id off len tot l h} : slO ts (some (.arr esz es r)) id off len tot l h nx = if tot = es.length ∧ off + len ≤ es.length ∧ esz = ts.size then (if 0 ≤ l ∧ l ≤ h ∧ (off : Int) + h ≤ es.length then some ⟨.osl id (off + l.toNat) (h - l).toNat tot, [id], [], nx⟩ else none) else none := rfl
@[simp] theorem slO_nar {ts esz es r id off len tot l h} : slO ts (some (.nar esz es r)) id off len tot l h nx = if tot = es.length ∧ off + len ≤ es.length ∧ esz = ts.size then (if 0 ≤ l ∧ l ≤ h ∧ (off : Int) + h ≤ es.length then some ⟨.osl id (off + l.toNat) (h - l).toNat tot, [id], [], nx⟩ else none) else none := rfl
theorem slc_spec {l n : List α} {lo hi : Int} (h : slc l lo hi = some n) : (0 ≤ lo ∧ lo ≤ hi ∧ hi ≤ l.length) ∧ (hi - lo).toNat = n.length ∧ n = (l.drop lo.toNat).take (hi - lo).toNat := by
  unfold slc at h
  split at h
  · rename_i hc
    cases h
    refine ⟨hc, ?_, rfl⟩
    simp only [List.length_take, List.length_drop]; omega
  · cases h

/-! Elements written -/
def stE (ts : TS) (x : AV) (fx : Option AV) (ro : Option Hp) (o : Option Ob) (id ix off tot nx : Nat) : Option Eff :=
        match fx, ro with
        | some x', some ro => match o with
          | some (.arr esz es false) => if tot = es.length ∧ !(ids x).contains id then match es[ix]? with
            | some e => match sve e off x'.cells with
              | some e' => some ⟨.any, id :: ids x, (id, .arr esz (es.set ix e') false) :: ro, nx⟩
              | none => none
            | none => none
            else none
          | _ => none
        | _, _ => none
def stM (x : AV) (id ix off esz : Nat) (es : List AV) (zs : List Nat) (nx : Nat) (o : Option AV) : Option Eff := match o with
  | some e => match sve e off x.cells with
    | some e' => some ⟨.any, [id], [(id, .nar esz (es.set ix e') zs)], nx⟩
    | none => none
  | none => none
def stL (id ix esz : Nat) (es : List AV) (zs : List Nat) (nx : Nat) (o : Option AV) : Option Eff := match o with
    | some e' => some ⟨.any, [id], [(id, .nar esz (es.set ix e') zs)], nx⟩
    | none => none
@[simp] theorem stM_some {x id ix off esz es zs e} : stM x id ix off esz es zs nx (some e) = stL id ix esz es zs nx (sve e off x.cells) := rfl
@[simp] theorem stL_some {id ix esz es zs e} : stL id ix esz es zs nx (some e) = some ⟨.any, [id], [(id, .nar esz (es.set ix e) zs)], nx⟩ := rfl
def stN (o : Option Ob) (x : AV) (id ix off tot nx : Nat) (r : Option Eff) : Option Eff := match o with
        | some (.nar esz es zs) => if tot = es.length ∧ plain x = true then stM x id ix off esz es zs nx es[ix]? else none
        | _ => r
@[simp] theorem stN_nar {z es zs x id ix off tot q} : stN (some (.nar z es zs)) x id ix off tot nx q = if tot = es.length ∧ plain x = true then stM x id ix off z es zs nx es[ix]? else none := rfl
@[simp] theorem stN_arr {z es r x id ix off tot q} : stN (some (.arr z es r)) x id ix off tot nx q = q := rfl
@[simp] theorem stT_e {ts x id ix off tot} : stT (some ts) (.eptr id ix off tot) x g nx = if x.cells.length = ts.size ∧ x.cells.all AV.one then stN (g id) x id ix off tot nx (stE ts x (frz g x) (roAll g (addTo [] (ids x))) (g id) id ix off tot nx) else none := rfl
def stW (x : AV) (x' : List AV) (ro : Hp) (esz : Nat) (es : List AV) (e : Option AV) (id ix off nx : Nat) : Option Eff := match e with
            | some e => match sve e off x' with
              | some e' => some ⟨.any, id :: ids x, (id, .arr esz (es.set ix e') false) :: ro, nx⟩
              | none => none
            | none => none
@[simp] theorem stE_some {ts x x' ro esz es id ix off tot} : stE ts x (some x') (some ro) (some (.arr esz es false)) id ix off tot nx = if tot = es.length ∧ !(ids x).contains id then stW x x'.cells ro esz es es[ix]? id ix off nx else none := rfl
def stV (x : AV) (ro : Hp) (esz : Nat) (es : List AV) (e : Option AV) (id ix nx : Nat) : Option Eff := match e with
              | some e' => some ⟨.any, id :: ids x, (id, .arr esz (es.set ix e') false) :: ro, nx⟩
              | none => none
@[simp] theorem stW_some {x x' ro esz es e id ix off} : stW x x' ro esz es (some e) id ix off nx = stV x ro esz es (sve e off x') id ix nx := rfl
@[simp] theorem stV_some {x ro esz es e id ix} : stV x ro esz es (some e) id ix nx = some ⟨.any, id :: ids x, (id, .arr esz (es.set ix e) false) :: ro, nx⟩ := rfl
@[simp] theorem sve_agg {cs off new} : sve (.agg cs) off new = if off + new.length ≤ cs.length then some (.agg (spl cs off new)) else none := rfl
@[simp] theorem sve_int {k n v} : sve (.int k n) 0 [v] = some v := rfl
@[simp] theorem sve_bool {n v} : sve (.bool n) 0 [v] = some v := rfl
@[simp] theorem sve_str {n v} : sve (.str n) 0 [v] = some v := rfl
@[simp] theorem sve_fsl {n v} : sve (.fsl n) 0 [v] = some v := rfl

/-! Calls that are handed own objects -/
def obIds (o : Option Ob) : List Nat := match o with | some o => o.ids | none => []
@[simp] theorem obIds_some {o} : obIds (some o) = o.ids := rfl
@[simp] theorem clo_zero {l} : clo g 0 l = l := rfl
@[simp] theorem clo_succ {d l} : clo g (d + 1) l = clo g d (addTo l (l.flatMap fun i => obIds (g i))) := rfl
@[simp] theorem Ob_ids_box {cs} : Ob.ids (.box cs) = idsL cs := rfl
@[simp] theorem Ob_ids_arr {z es r} : Ob.ids (.arr z es r) = [] := rfl
@[simp] theorem Ob_ids_nar {z es r} : Ob.ids (.nar z es r) = idsL es := rfl
@[simp] theorem Ob_ids_gone {n} : Ob.ids (.gone n) = [] := rfl
def clsd (g : Nat → Option Ob) (all : List Nat) : List Nat → Bool
  | [] => true
  | i :: is => (obIds (g i)).all (all.contains ·) && clsd g all is
theorem closed_eq {l : List Nat} : ∀ {is : List Nat}, (is.all fun i => match g i with | some o => o.ids.all (l.contains ·) | none => true) = clsd g l is
  | [] => rfl
  | i :: is => by
    simp only [List.all_cons, clsd, closed_eq (is := is)]
    congr 1
    cases g i <;> rfl
@[simp] theorem closed_c {l} : closed g l = clsd g l l := closed_eq
@[simp] theorem clsd_nil {all} : clsd g all [] = true := rfl
@[simp] theorem clsd_cons {all i is} : clsd g all (i :: is) = ((obIds (g i)).all (all.contains ·) && clsd g all is) := rfl
@[simp] theorem outOf_nil : outOf g [] = some [] := rfl
def outC (o : Option Ob) (os : Option (List Ob)) : Option (List Ob) := match o, os with
  | some o, some os => some (o :: os)
  | _, _ => none
@[simp] theorem outOf_cons {i is} : outOf g (i :: is) = outC (g i) (outOf g is) := rfl
@[simp] theorem outC_some {o os} : outC (some o) (some os) = some (o :: os) := rfl
@[simp] theorem ixOf_nil {i} : ixOf [] i = 0 := rfl
@[simp] theorem ixOf_cons {x xs i} : ixOf (x :: xs) i = if x = i then 0 else ixOf xs i + 1 := rfl
@[simp] theorem ren_func {f : Nat → Nat} {fn a c} : ren f (.func fn a c) = .func fn (renL f a) (renL f c) := by simp [ren]
@[simp] theorem Ob_ren_box {f cs} : Ob.ren f (.box cs) = .box (renL f cs) := rfl
@[simp] theorem Ob_ren_arr {f z es r} : Ob.ren f (.arr z es r) = .arr z es r := rfl
@[simp] theorem Ob_ren_nar {f z es r} : Ob.ren f (.nar z es r) = .nar z (renL f es) r := rfl
@[simp] theorem Ob_ren_gone {f n} : Ob.ren f (.gone n) = .gone n := rfl
@[simp] theorem zipTo_nil {is} : zipTo is [] = [] := by cases is <;> rfl
@[simp] theorem zipTo_cons {i is o os} : zipTo (i :: is) (o :: os) = (i, o) :: zipTo is os := rfl
@[simp] theorem zipTo_no {os} : zipTo [] os = [] := rfl
@[simp] theorem plain_int {k n} : plain (.int k n) = true := by simp [plain]
@[simp] theorem plain_bool {n} : plain (.bool n) = true := by simp [plain]
@[simp] theorem plain_str {n} : plain (.str n) = true := by simp [plain]
@[simp] theorem plain_osl {i o l t} : plain (.osl i o l t) = true := by simp [plain]
@[simp] theorem plain_optr {i o t} : plain (.optr i o t) = true := by simp [plain]
@[simp] theorem plain_fsl {n} : plain (.fsl n) = false := by simp [plain]
@[simp] theorem plain_fptr {n o} : plain (.fptr n o) = false := by simp [plain]
@[simp] theorem plain_agg {cs} : plain (.agg cs) = plainL cs := by simp [plain]
@[simp] theorem plain_tup {cs} : plain (.tup cs) = plainL cs := by simp [plain]
@[simp] theorem Ob_plain_box {cs} : Ob.plain (.box cs) = plainL cs := rfl
@[simp] theorem Ob_plain_arr {z es r} : Ob.plain (.arr z es r) = (!r && plainL es) := rfl
@[simp] theorem Ob_plain_nar {z es r} : Ob.plain (.nar z es r) = true := rfl
/-- Are all values of this form plain? -/
structure pln (e : α → AV) : Prop where
  h : ∀ x, plain (e x) = true
@[simp] theorem pln_int {k : IntKind} : pln (AV.int k) = True := eq_true ⟨fun x => by simp [plain]⟩
@[simp] theorem pln_bool : pln AV.bool = True := eq_true ⟨fun x => by simp [plain]⟩
@[simp] theorem pln_s : pln eS = True := eq_true ⟨fun x => by simp [plain]⟩
@[simp] theorem plainL_map {e : α → AV} {l : List α} (h : pln e) : plainL (l.map e) = true := by
  induction l with
  | nil => simp [plainL]
  | cons x l ih => simp [plainL, h.h x, ih]
@[simp] theorem plainL_nil : plainL [] = true := by simp [plainL]
@[simp] theorem plainL_cons {c cs} : plainL (c :: cs) = (plain c && plainL cs) := by simp [plainL]

def callP (ld : Bool) (g : Nat → Option Ob) (nx : Nat) (is : List Nat) (r : Option (AV × List Ob)) : Option Eff := match r with
  | none => none
  | some (v, obs) => match (if is.isEmpty || (plain v && (obs.isEmpty || (ld && obs.all Ob.plain))) then some [] else roAll g is) with
        | none => none
        | some ro => some ⟨ren (nx + ·) v, is, zipAt nx (obs.map (Ob.ren (nx + ·))) ++ ro, nx + obs.length⟩
def callQ (cl : Cl) (ld : Bool) (f : FuncId) (g : Nat → Option Ob) (nx : Nat) (is : List Nat) (a : Option (List AV)) : Option Eff := match a with
  | none => none
  | some a => callP ld g nx is (cl f a [])
def backOf (is : List Nat) (nx : Nat) (i : Nat) : Nat := if i < is.length then is.getD i 0 else nx + (i - is.length)
def callB (nx : Nat) (is : List Nat) (r : Option (AV × List Ob)) : Option Eff := match r with
      | none => none
      | some (v, obs) => some ⟨ren (backOf is nx) v, is, zipTo is (obs.map (Ob.ren (backOf is nx))) ++ zipAt nx ((obs.map (Ob.ren (backOf is nx))).drop is.length), nx + (obs.length - is.length)⟩
def callO (cl : Cl) (f : FuncId) (args : List AV) (nx : Nat) (is : List Nat) (sub : Option (List Ob)) : Option Eff := match sub with
    | none => none
    | some sub => callB nx is (cl f (renL (ixOf is) args) (sub.map (Ob.ren (ixOf is))))
def callG (cl : Cl) (own ld : Bool) (f : FuncId) (args : List AV) (g : Nat → Option Ob) (nx : Nat) (is : List Nat) : Option Eff :=
  if closed g is = true then (match own with
    | true => callO cl f args nx is (outOf g is)
    | false => callQ cl ld f g nx is (frzL g args)) else none
@[simp low] theorem callV_g {f args} : callV cl E f args g nx = callG cl (E f).own (E f).lend f args g nx (clo g 3 (addTo [] (idsL args))) := by
  unfold callV callG
  dsimp only
  by_cases hc : closed g (clo g 3 (addTo [] (idsL args))) = true
  · rw [if_pos hc]
    simp only [hc, Bool.not_true, Bool.false_eq_true, if_false]
    cases ho : (E f).own with
    | true =>
      simp only [if_true, callO]
      cases outOf g (clo g 3 (addTo [] (idsL args))) with
      | none => rfl
      | some sub =>
        dsimp only [callB]
        cases cl f _ _ with
        | none => rfl
        | some r => obtain ⟨v, obs⟩ := r; simp only [callB, List.length_map]; rfl
    | false =>
      simp only [Bool.false_eq_true, if_false, callQ]
      cases frzL g args with
      | none => rfl
      | some a =>
        dsimp only [callP]
        cases cl f a [] with
        | none => rfl
        | some r => rfl
  · rw [if_neg hc]; simp only [hc, Bool.not_false, if_true]
@[simp] theorem callG_own {ld f args is} : callG cl true ld f args g nx is = if closed g is = true then callO cl f args nx is (outOf g is) else none := rfl
@[simp] theorem callG_fr {ld f args is} : callG cl false ld f args g nx is = if closed g is = true then callQ cl ld f g nx is (frzL g args) else none := rfl
@[simp] theorem callO_some {f args is sub} : callO cl f args nx is (some sub) = callB nx is (cl f (renL (ixOf is) args) (sub.map (Ob.ren (ixOf is)))) := rfl
@[simp] theorem callQ_some {ld f is a} : callQ cl ld f g nx is (some a) = callP ld g nx is (cl f a []) := rfl
@[simp] theorem callB_some {is v obs} : callB nx is (some (v, obs)) = some ⟨ren (backOf is nx) v, is, zipTo is (obs.map (Ob.ren (backOf is nx))) ++ zipAt nx ((obs.map (Ob.ren (backOf is nx))).drop is.length), nx + (obs.length - is.length)⟩ := rfl
def roIf (c : Bool) (g : Nat → Option Ob) (is : List Nat) : Option Hp := match c with
  | true => some []
  | false => roAll g is
def callR (nx : Nat) (is : List Nat) (v : AV) (obs : List Ob) (ro : Option Hp) : Option Eff := match ro with
        | none => none
        | some ro => some ⟨ren (nx + ·) v, is, zipAt nx (obs.map (Ob.ren (nx + ·))) ++ ro, nx + obs.length⟩
@[simp] theorem roIf_true {is} : roIf true g is = some [] := rfl
@[simp] theorem roIf_false {is} : roIf false g is = roAll g is := rfl
@[simp] theorem callR_some {is v obs ro} : callR nx is v obs (some ro) = some ⟨ren (nx + ·) v, is, zipAt nx (obs.map (Ob.ren (nx + ·))) ++ ro, nx + obs.length⟩ := rfl
@[simp] theorem callP_some {ld is v obs} : callP ld g nx is (some (v, obs)) = callR nx is v obs (roIf (is.isEmpty || (plain v && (obs.isEmpty || (ld && obs.all Ob.plain)))) g is) := by
  unfold callP callR roIf
  dsimp only
  cases (is.isEmpty || (plain v && (obs.isEmpty || (ld && obs.all Ob.plain)))) <;> rfl
@[simp] theorem backOf_eq {is i} : backOf is nx i = if i < is.length then is.getD i 0 else nx + (i - is.length) := rfl
/-- A call that makes objects. -/
@[simp] theorem callF_obs {v o os} : callF nx (some (v, o :: os)) = some ⟨ren (nx + ·) v, [], zipAt nx ((o :: os).map (Ob.ren (nx + ·))), nx + (os.length + 1)⟩ := rfl

/-- What a model answers, as values and objects. -/
def mapR {β : Type} (o : Option β) (res : β → AV × List Ob) : Option (AV × List Ob) := match o with
  | some r => some (res r)
  | none => none
@[simp] theorem mapR_some {β : Type} {r : β} {res : β → AV × List Ob} : mapR (some r) res = some (res r) := rfl
end

/-! Sameness of structs -/
section
variable {P : Program} {t : TypeId}
def eqv (o : Option Bool) : Option AV := match o with
  | some b => some (.bool b)
  | none => none
def eqn (o : Option Bool) : Option AV := match o with
  | some b => some (.bool (!b))
  | none => none
@[simp] theorem eqv_some {b} : eqv (some b) = some (.bool b) := rfl
@[simp] theorem eqn_some {b} : eqn (some b) = some (.bool (!b)) := rfl
/-- Both: not looked into. -/
def andB (a b : Bool) : Bool := a && b
theorem andB_eq {a b : Bool} : andB a b = (a && b) := rfl
def andO (b : Bool) (o : Option Bool) : Option Bool := match o with
  | some r => some (andB b r)
  | none => none
@[simp] theorem andO_some {b r} : andO b (some r) = some (andB b r) := rfl
theorem map_eqv {o : Option Bool} : o.map AV.bool = eqv o := by cases o <;> rfl
theorem map_eqn {o : Option Bool} : o.map (fun b => AV.bool (!b)) = eqn o := by cases o <;> rfl
def eqT (k : Option (Bool × List Kc)) (x y : AV) : Option Bool :=
  match k, x, y with
  | some (true, k), .agg as, .agg bs => eqK k as bs
  | some (false, k), .bool a, .bool b => eqK k [.bool a] [.bool b]
  | _, _, _ => none
@[simp high] theorem binA_aeq' {a b} : binA P .eql t (.agg a) (.agg b) = eqv (eqT (eqk P t) (.agg a) (.agg b)) := map_eqv
@[simp high] theorem binA_ane' {a b} : binA P .neq t (.agg a) (.agg b) = eqn (eqT (eqk P t) (.agg a) (.agg b)) := map_eqn
@[simp high] theorem binA_beq' {a b} : binA P .eql t (.bool a) (.bool b) = eqv (eqT (eqk P t) (.bool a) (.bool b)) := map_eqv
@[simp high] theorem binA_bne' {a b} : binA P .neq t (.bool a) (.bool b) = eqn (eqT (eqk P t) (.bool a) (.bool b)) := map_eqn
@[simp] theorem eqT_a {k a b} : eqT (some (true, k)) (.agg a) (.agg b) = eqK k a b := rfl
@[simp] theorem eqT_b {k a b} : eqT (some (false, k)) (.bool a) (.bool b) = eqK k [.bool a] [.bool b] := rfl
@[simp] theorem eqK_nil : eqK [] [] [] = some true := rfl
@[simp] theorem eqK_b {ks x y as bs} : eqK (.b :: ks) (.bool x :: as) (.bool y :: bs) = andO (decide (x = y)) (eqK ks as bs) := by
  simp only [eqK]; cases eqK ks as bs <;> rfl
@[simp] theorem eqK_i {ks k x y as bs} : eqK (.i :: ks) (.int k x :: as) (.int k y :: bs) = andO (decide (x = y)) (eqK ks as bs) := by
  simp only [eqK, if_true]; cases eqK ks as bs <;> rfl
@[simp] theorem eqK_s {ks x y as bs} : eqK (.s :: ks) (.str x :: as) (.str y :: bs) = andO (decide (x = y)) (eqK ks as bs) := by
  simp only [eqK]; cases eqK ks as bs <;> rfl
end

/-! Results -/
section
variable {g : Nat → Option Ob}
@[simp] theorem range_0 : List.range 0 = [] := rfl
@[simp] theorem range_1 : List.range 1 = [0] := rfl
@[simp] theorem range_2 : List.range 2 = [0, 1] := rfl
@[simp] theorem range_3 : List.range 3 = [0, 1, 2] := rfl
@[simp] theorem range_4 : List.range 4 = [0, 1, 2, 3] := rfl
@[simp] theorem range_5 : List.range 5 = [0, 1, 2, 3, 4] := rfl
@[simp] theorem range_6 : List.range 6 = [0, 1, 2, 3, 4, 5] := rfl
@[simp] theorem range_7 : List.range 7 = [0, 1, 2, 3, 4, 5, 6] := rfl
@[simp] theorem range_8 : List.range 8 = [0, 1, 2, 3, 4, 5, 6, 7] := rfl
def outK (o : Option (List Ob)) (all : List Nat) (v : AV) : Option (AV × List Ob) := match o with
  | some obs => some (ren (ixOf all) v, obs.map (Ob.ren (ixOf all)))
  | none => none
@[simp] theorem outK_some {obs all v} : outK (some obs) all v = some (ren (ixOf all) v, obs.map (Ob.ren (ixOf all))) := rfl
def doneK (g : Nat → Option Ob) (all : List Nat) (v : AV) : Option (AV × List Ob) := if closed g all = true then outK (outOf g all) all v else none
@[simp] theorem doneK_eq {all v} : doneK g all v = if closed g all = true then outK (outOf g all) all v else none := rfl
def outN (fv : Option AV) (o : Option (List Ob)) (reach : List Nat) : Option (AV × List Ob) := match fv, o with
    | some v, some obs => some (v, obs.map (Ob.ren (ixOf reach)))
    | _, _ => none
@[simp] theorem outN_some {v obs reach} : outN (some v) (some obs) reach = some (v, obs.map (Ob.ren (ixOf reach))) := rfl
def doneN (g : Nat → Option Ob) (reach own : List Nat) (v : AV) : Option (AV × List Ob) :=
  if (closed g reach && (closed g own && !own.any (reach.contains ·))) = true then outN (frz g v) (outOf g reach) reach else none
@[simp] theorem doneN_eq {reach own v} : doneN g reach own v = if (closed g reach && (closed g own && !own.any (reach.contains ·))) = true then outN (frz g v) (outOf g reach) reach else none := rfl
@[simp low] theorem doneV_g {md : Md} {k : Nat} {v : AV} : doneV md k g v = selQ md.keep (doneK g (clo g 3 (addTo (clo g 3 (List.range k)) (ids v))) v) (doneN g (clo g 3 (List.range k)) (clo g 3 (addTo [] (ids v))) v) := by
  unfold doneV
  cases md.keep with
  | true =>
    simp only [if_true, selQ_true]
    unfold doneK
    cases closed g (clo g 3 (addTo (clo g 3 (List.range k)) (ids v))) with
    | false => rfl
    | true =>
      simp only [Bool.not_true, Bool.false_eq_true, if_false, if_true]
      unfold outK
      cases outOf g (clo g 3 (addTo (clo g 3 (List.range k)) (ids v))) <;> rfl
  | false =>
    simp only [Bool.false_eq_true, if_false, selQ_false]
    unfold doneN
    cases closed g (clo g 3 (List.range k)) with
    | false => rfl
    | true =>
      cases closed g (clo g 3 (addTo [] (ids v))) with
      | false => rfl
      | true =>
        cases (clo g 3 (addTo [] (ids v))).any ((clo g 3 (List.range k)).contains ·) with
        | true => rfl
        | false => rfl
end

/-! ## Functions -/
def tabC (L : List (Nat × (List AV → List Ob → Option (AV × List Ob)))) : Cl := fun f args obs => match lkp L f with
  | some x => x args obs
  | none => none
def tbl (o : Option (List AV → List Ob → Option (AV × List Ob))) (args : List AV) (obs : List Ob) : Option (AV × List Ob) := match o with
  | some x => x args obs
  | none => none
@[simp] theorem tabC_eq {L f args obs} : tabC L f args obs = tbl (lkp L f) args obs := rfl
@[simp] theorem tbl_some {x args obs} : tbl (some x) args obs = x args obs := rfl

def Sound (P : Program) (f : FuncId) (x : List AV → List Ob → Option (AV × List Ob)) : Prop :=
  ∀ args obs v obs', x args obs = some (v, obs') → Bodied P f ∧ CallOK P f args obs v obs'

theorem tab_nil {P : Program} : ClS' P (tabC []) := fun f args obs v obs' h => by simp at h; cases h
theorem tab_cons {P : Program} {f : FuncId} {x : List AV → List Ob → Option (AV × List Ob)} {L : List (Nat × (List AV → List Ob → Option (AV × List Ob)))} (h : Sound P f x) (k : ClS' P (tabC L)) : ClS' P (tabC ((f, x) :: L)) := by
  intro f' args obs v obs' hh
  simp only [tabC_eq, lkp_cons] at hh
  split at hh
  · rename_i e; subst e; exact h args obs v obs' hh
  · exact k f' args obs v obs' (by simpa using hh)

open Classical in
/-- A contract: for arguments of this form, what the model answers. -/
noncomputable def xOf {α β : Type} (e : α → List AV × List Ob) (m : α → Option β) (res : α → β → AV × List Ob) : List AV → List Ob → Option (AV × List Ob) := fun args obs =>
  if h : ∃ a, e a = (args, obs) then mapR (m h.choose) (res h.choose) else none
theorem xOf_eq {α β : Type} {e : α → List AV × List Ob} {m : α → Option β} {res : α → β → AV × List Ob} (hi : ∀ a b, e a = e b → a = b) (a : α) : xOf e m res (e a).1 (e a).2 = mapR (m a) (res a) := by
  unfold xOf
  have h : ∃ b, e b = ((e a).1, (e a).2) := ⟨a, rfl⟩
  rw [dif_pos h]
  have := hi _ _ h.choose_spec
  rw [this]
theorem xOf_sound {P : Program} {f : FuncId} {α β : Type} {e : α → List AV × List Ob} {m : α → Option β} {res : α → β → AV × List Ob}
    (h : ∀ a r, m a = some r → Bodied P f ∧ CallOK P f (e a).1 (e a).2 (res a r).1 (res a r).2) : Sound P f (xOf e m res) := by
  intro args obs v obs' hx
  unfold xOf at hx
  split at hx
  · rename_i hh
    have he := hh.choose_spec
    cases hm : m hh.choose with
    | none => rw [hm] at hx; cases hx
    | some r =>
      rw [hm, mapR_some] at hx
      have := h _ r hm
      simp only [Option.some.injEq] at hx
      rw [he, hx] at this
      exact this
  · cases hx

theorem xOf_lim {P : Program} {f : FuncId} {α β : Type} {e : α → List AV × List Ob} {res : α → β → AV × List Ob} (F : Nat → α → Option β) (hi : ∀ a b, e a = e b → a = b)
    (h : ∀ k, Sound P f (xOf e (F k) res)) : Sound P f (xOf e (fun a => lim fun k => F k a) res) := by
  refine xOf_sound fun a r hr => ?_
  unfold lim at hr
  split at hr
  · rename_i hh
    refine h hh.choose (e a).1 (e a).2 _ _ ?_
    have hr' : F hh.choose a = some r := hr
    rw [xOf_eq hi, hr', mapR_some]
  · cases hr

/-- Two contracts for one function. -/
def altX (x y : List AV → List Ob → Option (AV × List Ob)) : List AV → List Ob → Option (AV × List Ob) := fun args obs => match x args obs with
  | some r => some r
  | none => y args obs
theorem alt_ok {P : Program} {f : FuncId} {x y : List AV → List Ob → Option (AV × List Ob)} (h : Sound P f x) (k : Sound P f y) : Sound P f (altX x y) := by
  intro args obs v obs' hh
  unfold altX at hh
  split at hh
  · rename_i r hr; cases hh; exact h _ _ _ _ hr
  · exact k _ _ _ _ hh

/-- What is asked where a function is left. -/
def Rfn (P : Program) (E : FuncId → Md) (f : FuncId) (fn : Func) (n : Nat) (out : AV × List Ob) : Pst := fun ex s => fin P E f fn n (some (ex, s)) = some out
@[simp] theorem Rfn_ret {P : Program} {E f fn n out s} : Rfn P E f fn n out .ret s = (don (E f) n (lkp s.hp) (resV P fn s) = some out) := rfl
@[simp] theorem Rfn_normal {P : Program} {E f fn n out s} : Rfn P E f fn n out .normal s = (don (E f) n (lkp s.hp) (resV P fn s) = some out) := rfl

theorem fn_ok {P : Program} (E : FuncId → Md) {f : FuncId} {fn : Func} {b : Code} (hm : P.follows .mixedOrders = true) (hf : P.funcs[f]? = some fn) (hb : fn.body = some b) (hc : chkF fn = true)
    {args : List AV} {obs : List Ob} {v : AV} {obs' : List Ob} (hal : decide (args.length ≤ fn.ntmps) = true)
    (h : ∀ Γ : Cx, Γ.n = fn.ntmps → Γ.k = obs.length → Tr P Γ b (startS args obs) (Rfn P E f fn obs.length (v, obs'))) : Bodied P f ∧ CallOK P f args obs v obs' := by
  have hal' := of_decide_eq_true hal
  unfold chkF at hc
  rw [hb] at hc
  simp only [Bool.and_eq_true] at hc
  refine ⟨⟨fn, b, hf, hb, by simpa using hc.2⟩, ?_⟩
  intro φ m w cargs hv hinv hmn
  have hcs : cargs.size = args.length := by simpa using VRL_len hv
  have hz : lkp (zipAt 0 obs) = fun i => obs[i]? := by funext i; rw [lkp_zipAt]; simp
  have hr0 : Rel P fn.ntmps φ m (fun i => obs[i]?) w (startS args obs) { tmps := cargs ++ Array.replicate (fn.ntmps - cargs.size) undef, defers := [] } w := by
    refine ⟨φ, m, ⟨?_, fun t => ?_, ?_, ?_, rfl⟩, ?_⟩
    · simp; omega
    · show VR φ m (lk (tm0 0 args) t) _
      rw [lk_tm0]
      simp only [Nat.zero_le, if_true, Nat.sub_zero]
      cases ha : args[t]? with
      | none => simp [VR]
      | some x =>
        obtain ⟨cx, h1, h2⟩ := VRL_get hv ha
        have ht : t < cargs.size := by have := (List.getElem?_eq_some_iff.1 ha).1; omega
        have h3 : cargs[t]? = some cx := by simpa using h1
        have : (cargs ++ Array.replicate (fn.ntmps - cargs.size) undef).getD t undef = cx := by
          rw [Array.getD_eq_getD_getElem?, Array.getElem?_append_left ht, h3]; rfl
        simp only [this, Option.getD_some]; exact h2
    · show Inv φ m (lkp (zipAt 0 obs)) w
      rw [hz]; exact hinv
    · exact hmn
    · show Fr φ m (fun i => obs[i]?) w φ m (lkp (zipAt 0 obs)) w
      rw [hz]; exact Fr.refl ..
  have ht := h ⟨fn.ntmps, obs.length, φ, m, fun i => obs[i]?, w, hmn⟩ rfl rfl
  refine calls_of_wp hf hb (ht _ _ _ hr0 fun ex s' a w' hp hr => ?_)
  obtain ⟨φ1, m1, h1, h2⟩ := hr
  unfold Rfn at hp
  have key : don (E f) obs.length (lkp s'.hp) (resV P fn s') = some (v, obs') → a.defers = [] ∧ ∃ cv, (results fn a.tmps).run P w' = .ok cv w' ∧ ∃ cv', Ending.returned cv = .returned cv' ∧ ∃ φ' m', VR φ' m' v cv' ∧ Inv φ' m' (fun i => obs'[i]?) w' ∧ Fr φ m (fun i => obs[i]?) w φ' m' (fun i => obs'[i]?) w' ∧ (∀ i, obs'.length ≤ i → m' i = none) ∧ obs.length ≤ obs'.length := by
    intro hp
    cases hv0 : resV P fn s' with
    | none => rw [hv0] at hp; simp [don] at hp
    | some v0 =>
      rw [hv0, don_some] at hp
      obtain ⟨cv, r1, r2⟩ := results_run (P := P) (fn := fn) h1 hv0
      obtain ⟨φ', m', p1, p2, p3, p4, p5⟩ := done_sound hp h1.inv r2 hmn h2
      exact ⟨h1.df, cv, r1, cv, rfl, φ', m', p1, p2, p3, p4, p5⟩
  cases ex with
  | exit i => simp [fin] at hp
  | normal => exact key (by simpa using hp)
  | ret => exact key (by simpa using hp)
end Go.Proofs.YtapchldnmkfkoabDoor.Am
