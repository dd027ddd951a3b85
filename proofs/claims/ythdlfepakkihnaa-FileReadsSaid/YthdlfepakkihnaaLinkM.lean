/- Modules linked into one memory, as plain data. Conditions: none. -/
import Derived.Test.YthdlfepakkihnaaMods
import Derived.Test.YthdlfepakkihnaaSetS
namespace Go.Proofs.Ythdlfepakkihnaa
open Go.RowKit
set_option linter.unusedVariables false
set_option linter.unusedSimpArgs false
set_option maxRecDepth 100000
structure Place where
  base : Int
  code : Int
  data : Int
  tag : Int
theorem Place.ext_iff' {a b : Place} : (a.base = b.base ∧ a.code = b.code ∧ a.data = b.data ∧ a.tag = b.tag) ↔ a = b := by
  constructor
  · rintro ⟨h0, h1, h2, h3⟩
    cases a; cases b; simp_all
  · rintro rfl; exact ⟨rfl, rfl, rfl, rfl⟩
instance : DecidableEq Place := fun a b => decidable_of_iff (a.base = b.base ∧ a.code = b.code ∧ a.data = b.data ∧ a.tag = b.tag) Place.ext_iff'
structure Place.Wf (k : Place) : Prop where
  base : i64 k.base
  code : i64 k.code
  data : i64 k.data
  tag : i64 k.tag
def encC (x : Place) : List Value := [.int .i64 x.base, .int .i64 x.code, .int .i64 x.data, .int .i64 x.tag]
theorem cells_Place : Try.prog.cellsOf 55 = 4 := by kernel_rfl
section
variable {H : Type} {enc : TypeId × Value → H} {w : World} {base : Nat} {sp : Nat → Bool} {held : Bool}
theorem trod_Place {fuel : Nat} {cs : List Value} {x : DataW H × List MemPlace} (h : DataW.trod enc Try.prog w base sp held fuel 55 cs = some x) : ∃ k : Place, k.Wf ∧ cs = encC k := by
  obtain ⟨xs, n, rfl, rfl, hl, hx, hf⟩ := DataW.trod_struct Try.underlying55 h
  have hl' : cs.length = 4 := hl.trans cells_Place
  have hx' : xs.length = 4 := hx
  match cs, hl' with
  | [c0, c1, c2, c3], _ =>
    obtain ⟨y0, e0⟩ := some_at hx' (i := 0) (by omega)
    have g0 : DataW.trod enc Try.prog w base sp held n 3 [c0] = some y0 := field_at hf (i := 0) rfl rfl rfl cells_int e0
    obtain ⟨n0, z0, _, w0⟩ := DataW.trod_int Try.underlying3 g0
    obtain ⟨y1, e1⟩ := some_at hx' (i := 1) (by omega)
    have g1 : DataW.trod enc Try.prog w base sp held n 3 [c1] = some y1 := field_at hf (i := 1) rfl rfl rfl cells_int e1
    obtain ⟨n1, z1, _, w1⟩ := DataW.trod_int Try.underlying3 g1
    obtain ⟨y2, e2⟩ := some_at hx' (i := 2) (by omega)
    have g2 : DataW.trod enc Try.prog w base sp held n 3 [c2] = some y2 := field_at hf (i := 2) rfl rfl rfl cells_int e2
    obtain ⟨n2, z2, _, w2⟩ := DataW.trod_int Try.underlying3 g2
    obtain ⟨y3, e3⟩ := some_at hx' (i := 3) (by omega)
    have g3 : DataW.trod enc Try.prog w base sp held n 3 [c3] = some y3 := field_at hf (i := 3) rfl rfl rfl cells_int e3
    obtain ⟨n3, z3, _, w3⟩ := DataW.trod_int Try.underlying3 g3
    refine ⟨⟨n0, n1, n2, n3⟩, ⟨i64_of_wf w0, i64_of_wf w1, i64_of_wf w2, i64_of_wf w3⟩, ?_⟩
    simp only [List.cons.injEq, and_true] at z0 z1 z2 z3
    simp only [encC, List.cons.injEq, and_true]
    simp only [z0, z1, z2, z3, and_self]
end
theorem el_C : ElT Try.prog encC 40 55 4 32 where
  under := Try.underlying40
  info := by
    obtain ⟨i0, hi, hz0, hz1, hz2⟩ := info_parts (show (Try.prog.info? 55).map (fun i => (i.zero, i.size, i.bytes)) = some (some (.agg #[.int .i64 0, .int .i64 0, .int .i64 0, .int .i64 0]), 4, 32) by kernel_rfl)
    exact ⟨i0, _, hi, hz0, hz1, hz2, rfl⟩
  pos := by decide
  len := fun _ => rfl
  one := fun x u hu => by
    simp only [encC, List.mem_cons, List.not_mem_nil, or_false] at hu
    rcases hu with rfl | rfl | rfl | rfl <;> rfl
theorem Lies.cellsC {w : World} {B k : Nat} {A : Option Addr} {xs : List Place} (h : Lies encC 4 w B A xs) (hk : k < xs.length) : ∃ b o p, A = some ⟨b, o, none⟩ ∧ b < B ∧ xs[k]? = some p ∧ w.cell? ⟨b, o + k * 4, none⟩ = some (.int .i64 p.base) ∧ w.cell? ⟨b, o + k * 4 + 1, none⟩ = some (.int .i64 p.code) ∧ w.cell? ⟨b, o + k * 4 + 2, none⟩ = some (.int .i64 p.data) ∧ w.cell? ⟨b, o + k * 4 + 3, none⟩ = some (.int .i64 p.tag) := by
  obtain ⟨b, o, p, hA, hb, hp, hc⟩ := h.at_ hk
  exact ⟨b, o, p, hA, hb, hp, hc 0 (by omega), hc 1 (by omega), hc 2 (by omega), hc 3 (by omega)⟩
def namesOf (m : Mod) : List ByteArray := m.exports.map (·.name)
def allNames (ms : List Mod) : List ByteArray := ms.flatMap namesOf
def twiceF (l : List ByteArray) (k : Nat) (s : ByteArray) : Int := if isIn (l.take k) s = true then 8 else 0
def sizeM (m : Mod) : Nat := m.code.length + m.data.length
def cellsN (ms : List Mod) : Nat := (ms.map sizeM).sum
def noneF (l : List ByteArray) (x : Import) : Int := if isIn l x.name = true then 0 else 7
def impsE (l : List ByteArray) (m : Mod) : Int := firstE (noneF l) m.imports
/-- may they be together -/
def linkE (ms : List Mod) : Int :=
  if 8 < ms.length then 2
  else seqE (firstE modE ms) (seqE (fromI (twiceF (allNames ms)) (allNames ms) 0) (if 400 < cellsN ms then 9 else firstE (impsE (allNames ms)) ms))
/-- a list made module by module, each told where it begins and the how manieth it is -/
def fillAt {α : Type} (f : Nat → Nat → Mod → List α) : List Mod → Nat → Nat → List α
  | [], _, _ => []
  | m :: l, b, n => f b n m ++ fillAt f l (b + sizeM m) (n + 1)
theorem cellsN_snoc (l : List Mod) (m : Mod) : cellsN (l ++ [m]) = cellsN l + sizeM m := by simp [cellsN]
theorem cellsN_cons (m : Mod) (l : List Mod) : cellsN (m :: l) = sizeM m + cellsN l := by simp [cellsN]
theorem fillAt_snoc {α : Type} (f : Nat → Nat → Mod → List α) (m : Mod) : ∀ (l : List Mod) (b n : Nat), fillAt f (l ++ [m]) b n = fillAt f l b n ++ f (b + cellsN l) (n + l.length) m
  | [], b, n => by simp [fillAt, cellsN]
  | x :: l, b, n => by
    rw [List.cons_append, fillAt, fillAt, fillAt_snoc f m l, List.append_assoc, cellsN_cons]
    congr 3
    · omega
    · simp; omega
def placeOf (b n : Nat) (m : Mod) : List Place := [⟨b, m.code.length, m.data.length, n + 1⟩]
def entryOf (b n : Nat) (m : Mod) (x : Label) : Entry :=
  ⟨x.name, ⟨5, b, m.code.length, b + x.pos, n + 1⟩, ⟨27, (b : Int) + m.code.length, m.data.length, (b : Int) + m.code.length, n + 1⟩⟩
def entriesOf (b n : Nat) (m : Mod) : List Entry := m.exports.map (entryOf b n m)
def linkP (ms : List Mod) : List Place := fillAt placeOf ms 0 0
def linkEs (ms : List Mod) : List Entry := fillAt entriesOf ms 0 0
def numV (n : Int) : Val := ⟨false, n, Key.zero⟩
def keyV' (k : Key) : Val := ⟨true, 0, k⟩
/-- what an import makes of the cell c of a module's data -/
def wired (es : List Entry) (c : Nat) (v : Val) (x : Import) : Val :=
  if (c : Int) = x.slot then keyV' (findE es x.name).1.code else if (c : Int) = x.slot + 1 then keyV' (findE es x.name).1.data else v
def wireAt (es : List Entry) (l : List Import) (c : Nat) (n : Int) : Val := l.foldl (wired es c) (numV n)
def dataW (es : List Entry) (l : List Import) : List Int → Nat → List Val
  | [], _ => []
  | n :: d, c => wireAt es l c n :: dataW es l d (c + 1)
def modW (es : List Entry) (l : List Import) (m : Mod) : List Val := m.code.map numV ++ dataW es l m.data 0
def linkMem (ms : List Mod) : List Val := ms.flatMap fun m => modW (linkEs ms) m.imports m
def linkF (ms : List Mod) : (List Val × List Place × List Entry) × Int := if linkE ms = 0 then ((linkMem ms, linkP ms, linkEs ms), 0) else (([], [], []), linkE ms)
theorem dataW_len (es : List Entry) (l : List Import) : ∀ (d : List Int) (c : Nat), (dataW es l d c).length = d.length
  | [], _ => rfl
  | n :: d, c => by rw [dataW, List.length_cons, dataW_len es l d, List.length_cons]
theorem modW_len (es : List Entry) (l : List Import) (m : Mod) : (modW es l m).length = sizeM m := by
  unfold modW sizeM; rw [List.length_append, List.length_map, dataW_len]
theorem dataW_at (es : List Entry) (l : List Import) : ∀ (d : List Int) (c i : Nat), (dataW es l d c)[i]? = (d[i]?).map (wireAt es l (c + i))
  | [], _, i => by simp [dataW]
  | n :: d, c, 0 => by simp [dataW]
  | n :: d, c, i + 1 => by
    rw [dataW, List.getElem?_cons_succ, List.getElem?_cons_succ, dataW_at es l d]
    rw [show c + 1 + i = c + (i + 1) by omega]
theorem dataW_nil (es : List Entry) : ∀ (d : List Int) (c : Nat), dataW es [] d c = d.map numV
  | [], _ => rfl
  | n :: d, c => by rw [dataW, dataW_nil es d, List.map_cons]; rfl
theorem modW_nil (es : List Entry) (m : Mod) : modW es [] m = (m.code ++ m.data).map numV := by unfold modW; rw [dataW_nil, List.map_append]
theorem dataW_snoc (es : List Entry) (l : List Import) (n : Int) : ∀ (d : List Int) (c : Nat), dataW es l (d ++ [n]) c = dataW es l d c ++ [wireAt es l (c + d.length) n]
  | [], c => by simp [dataW]
  | x :: d, c => by
    rw [List.cons_append, dataW, dataW, dataW_snoc es l n d, List.cons_append]
    rw [show c + 1 + d.length = c + (x :: d).length by simp; omega]
/-- one import's two cells laid -/
theorem modW_wire (es : List Entry) (l : List Import) (x : Import) (m : Mod) {s : Nat} (hs : x.slot = s) (h : s + 1 < m.data.length) :
    ((modW es l m).set (m.code.length + s) (keyV' (findE es x.name).1.code)).set (m.code.length + s + 1) (keyV' (findE es x.name).1.data) = modW es (l ++ [x]) m := by
  apply List.ext_getElem?
  intro i
  have hw : ∀ c n, wireAt es (l ++ [x]) c n = wired es c (wireAt es l c n) x := fun c n => by unfold wireAt; rw [List.foldl_append]; rfl
  have hlen := modW_len es l m
  unfold sizeM at hlen
  rw [List.getElem?_set, List.getElem?_set, List.length_set, hlen]
  unfold modW
  rcases Nat.lt_or_ge i m.code.length with hi | hi
  · rw [if_neg (by omega), if_neg (by omega), List.getElem?_append_left (by simpa using hi), List.getElem?_append_left (by simpa using hi)]
  · rw [List.getElem?_append_right (by simpa using hi), List.getElem?_append_right (by simpa using hi), List.length_map, dataW_at, dataW_at]
    obtain ⟨j, rfl⟩ : ∃ j, i = m.code.length + j := ⟨i - m.code.length, by omega⟩
    rw [show m.code.length + j - m.code.length = j by omega, Nat.zero_add]
    by_cases h1 : j = s + 1
    · subst h1
      rw [if_pos (by omega), if_pos (by omega), List.getElem?_eq_getElem h, Option.map_some, hw]
      unfold wired
      rw [if_neg (by omega), if_pos (by omega)]
    · rw [if_neg (by omega)]
      by_cases h2 : j = s
      · subst h2
        rw [if_pos (by omega), if_pos (by omega), List.getElem?_eq_getElem (by omega), Option.map_some, hw]
        unfold wired
        rw [if_pos (by omega)]
      · rw [if_neg (by omega)]
        congr 1
        funext n
        rw [hw]
        unfold wired
        rw [if_neg (by omega), if_neg (by omega)]
/-- the memory when k modules are wired, and l of the next one's imports -/
def memAt (es : List Entry) (ms : List Mod) (k : Nat) (m : Mod) (l : List Import) : List Val :=
  (ms.take k).flatMap (fun m => modW es m.imports m) ++ modW es l m ++ (ms.drop (k + 1)).flatMap (fun m => modW es [] m)
theorem flatW_len (es : List Entry) (f : Mod → List Import) : ∀ ms : List Mod, (ms.flatMap fun m => modW es (f m) m).length = cellsN ms
  | [] => rfl
  | m :: ms => by rw [List.flatMap_cons, List.length_append, modW_len, flatW_len es f ms, cellsN_cons]
theorem memAt_len (es : List Entry) (ms : List Mod) (k : Nat) (m : Mod) (l : List Import) : (memAt es ms k m l).length = cellsN (ms.take k) + sizeM m + cellsN (ms.drop (k + 1)) := by
  unfold memAt
  rw [List.length_append, List.length_append, flatW_len es (·.imports), modW_len, flatW_len es (fun _ => [])]
theorem memAt_wire (es : List Entry) (ms : List Mod) (k : Nat) (m : Mod) (l : List Import) (x : Import) {s : Nat} (hs : x.slot = s) (h : s + 1 < m.data.length) :
    ((memAt es ms k m l).set (cellsN (ms.take k) + m.code.length + s) (keyV' (findE es x.name).1.code)).set (cellsN (ms.take k) + m.code.length + s + 1) (keyV' (findE es x.name).1.data) = memAt es ms k m (l ++ [x]) := by
  have hl := flatW_len es (·.imports) (ms.take k)
  have hm := modW_len es l m
  unfold sizeM at hm
  unfold memAt
  rw [← modW_wire es l x m hs h, List.append_assoc, List.append_assoc]
  rw [List.set_append_right _ _ (by omega), List.set_append_right _ _ (by omega)]
  congr 1
  rw [List.set_append_left _ _ (by omega), List.set_append_left _ _ (by rw [List.length_set]; omega)]
  congr 3 <;> first | omega | (congr 1; omega)
theorem memAt_next {es : List Entry} {ms : List Mod} {k : Nat} {m m' : Mod} (h : ms[k]? = some m) (h' : ms[k + 1]? = some m') : memAt es ms k m m.imports = memAt es ms (k + 1) m' [] := by
  unfold memAt
  rw [List.take_add_one, h, List.flatMap_append]
  obtain ⟨hk, he⟩ := List.getElem?_eq_some_iff.1 h'
  rw [show ms.drop (k + 1) = m' :: ms.drop (k + 1 + 1) by rw [← he]; exact List.drop_eq_getElem_cons hk, List.flatMap_cons]
  simp
theorem memAt_last {es : List Entry} {ms : List Mod} {k : Nat} {m : Mod} (h : ms[k]? = some m) (h' : ms.length ≤ k + 1) : memAt es ms k m m.imports = ms.flatMap fun m => modW es m.imports m := by
  unfold memAt
  rw [List.drop_eq_nil_of_le h', List.flatMap_nil, List.append_nil]
  have hk := (List.getElem?_eq_some_iff.1 h).1
  have : ms = ms.take k ++ [m] := by
    have h1 := List.take_of_length_le (l := ms) (i := k + 1) h'
    rw [List.take_add_one, h] at h1
    exact h1.symm
  rw [show (ms.flatMap fun m => modW es m.imports m) = (ms.take k ++ [m]).flatMap fun m => modW es m.imports m from congrArg _ this, List.flatMap_append]
  simp
theorem memAt_first {es : List Entry} {ms : List Mod} {m : Mod} (h : ms[0]? = some m) : (ms.flatMap fun m => (m.code ++ m.data).map numV) = memAt es ms 0 m [] := by
  unfold memAt
  match ms, h with
  | x :: l, h =>
    cases h
    simp [modW_nil, List.flatMap_cons]
/-- the names of the first k modules, and of the next one's first j -/
def nmAt (ms : List Mod) (k : Nat) (m : Mod) (j : Nat) : List ByteArray := allNames (ms.take k) ++ (m.exports.take j).map (·.name)
theorem nmAt_zero (ms : List Mod) (k : Nat) (m : Mod) : nmAt ms k m 0 = allNames (ms.take k) := by simp [nmAt]
theorem allNames_next {ms : List Mod} {k : Nat} {m : Mod} (h : ms[k]? = some m) : allNames (ms.take (k + 1)) = allNames (ms.take k) ++ m.exports.map (·.name) := by
  unfold allNames; rw [List.take_add_one, h, List.flatMap_append]; simp [namesOf]
theorem nmAt_end {ms : List Mod} {k j : Nat} {m : Mod} (h : ms[k]? = some m) (hj : m.exports.length ≤ j) : nmAt ms k m j = allNames (ms.take (k + 1)) := by
  unfold nmAt; rw [allNames_next h, List.take_of_length_le hj]
theorem nmAt_succ {ms : List Mod} {k j : Nat} {m : Mod} {x : Label} (hx : m.exports[j]? = some x) : nmAt ms k m (j + 1) = nmAt ms k m j ++ [x.name] := by
  unfold nmAt; rw [List.take_add_one, hx]; simp
theorem allNames_split {ms : List Mod} {k : Nat} {m : Mod} (h : ms[k]? = some m) : allNames ms = allNames (ms.take k) ++ m.exports.map (·.name) ++ allNames (ms.drop (k + 1)) := by
  rw [← allNames_next h]
  unfold allNames
  rw [← List.flatMap_append, List.take_append_drop]
theorem nmAt_at {ms : List Mod} {k j : Nat} {m : Mod} {x : Label} (h : ms[k]? = some m) (hx : m.exports[j]? = some x) : (allNames ms)[(nmAt ms k m j).length]? = some x.name ∧ (allNames ms).take (nmAt ms k m j).length = nmAt ms k m j := by
  have hj := (List.getElem?_eq_some_iff.1 hx).1
  have hl : (nmAt ms k m j).length = (allNames (ms.take k)).length + j := by unfold nmAt; simp; omega
  have e : allNames ms = nmAt ms k m j ++ (x.name :: ((m.exports.drop (j + 1)).map (·.name) ++ allNames (ms.drop (k + 1)))) := by
    rw [allNames_split h]
    unfold nmAt
    have : m.exports = m.exports.take j ++ x :: m.exports.drop (j + 1) := by
      rw [← (List.getElem?_eq_some_iff.1 hx).2, ← List.drop_eq_getElem_cons hj, List.take_append_drop]
    rw [show m.exports.map (·.name) = (m.exports.take j ++ x :: m.exports.drop (j + 1)).map (·.name) from congrArg _ this]
    simp
  rw [e]
  refine ⟨?_, ?_⟩
  · rw [List.getElem?_append_right (Nat.le_refl _), Nat.sub_self]; rfl
  · rw [List.take_append_of_le_length (Nat.le_refl _), List.take_length]
theorem twiceF_no {l : List ByteArray} {k : Nat} {s : ByteArray} {N : List ByteArray} (hN : l.take k = N) (h : isIn N s = false) : twiceF l k s = 0 := by unfold twiceF; rw [hN, if_neg (by simp [h])]
theorem twiceF_yes {l : List ByteArray} {k : Nat} {s : ByteArray} {N : List ByteArray} (hN : l.take k = N) (h : isIn N s = true) : twiceF l k s = 8 := by unfold twiceF; rw [hN, if_pos h]
theorem modE_sizes {m : Mod} (h : (modE m != 0) = false) : m.code.length ≤ 120 ∧ m.data.length ≤ 60 ∧ m.exports.length ≤ 20 ∧ m.imports.length ≤ 20 := by
  cases hl : largeB m
  · simp only [largeB, Bool.or_eq_false_iff, decide_eq_false_iff_not] at hl; omega
  · unfold modE at h; rw [if_pos hl] at h; cases h
/-- the memory when k modules are wired -/
def memK (es : List Entry) (ms : List Mod) (k : Nat) : List Val := (ms.take k).flatMap (fun m => modW es m.imports m) ++ (ms.drop k).flatMap (fun m => modW es [] m)
theorem memAt_nil {es : List Entry} {ms : List Mod} {k : Nat} {m : Mod} (h : ms[k]? = some m) : memAt es ms k m [] = memK es ms k := by
  obtain ⟨hk, he⟩ := List.getElem?_eq_some_iff.1 h
  unfold memAt memK
  rw [show ms.drop k = m :: ms.drop (k + 1) by rw [← he]; exact List.drop_eq_getElem_cons hk, List.flatMap_cons, List.append_assoc]
theorem memAt_all {es : List Entry} {ms : List Mod} {k : Nat} {m : Mod} (h : ms[k]? = some m) : memAt es ms k m m.imports = memK es ms (k + 1) := by
  unfold memAt memK
  rw [List.take_add_one, h, List.flatMap_append]
  simp
theorem memK_all {es : List Entry} {ms : List Mod} {k : Nat} (h : ms.length ≤ k) : memK es ms k = ms.flatMap fun m => modW es m.imports m := by
  unfold memK
  rw [List.take_of_length_le h, List.drop_eq_nil_of_le h]; simp
/-- the numbers of some modules -/
def mem0 (ms : List Mod) : List Val := ms.flatMap fun m => (m.code ++ m.data).map numV
theorem memK_zero (es : List Entry) (ms : List Mod) : memK es ms 0 = mem0 ms := by
  unfold memK mem0
  simp [modW_nil]
theorem mem0_next {ms : List Mod} {k : Nat} {m : Mod} (h : ms[k]? = some m) : mem0 (ms.take (k + 1)) = mem0 (ms.take k) ++ (m.code ++ m.data).map numV := by
  unfold mem0; rw [List.take_add_one, h, List.flatMap_append]; simp
theorem mem0_len : ∀ ms : List Mod, (mem0 ms).length = cellsN ms
  | [] => rfl
  | m :: ms => by
    have := mem0_len ms
    unfold mem0 at this ⊢
    rw [List.flatMap_cons, List.length_append, this, cellsN_cons]
    simp [sizeM]
theorem linkP_next {ms : List Mod} {k : Nat} {m : Mod} (h : ms[k]? = some m) : linkP (ms.take (k + 1)) = linkP (ms.take k) ++ [⟨cellsN (ms.take k), m.code.length, m.data.length, k + 1⟩] := by
  have hk := (List.getElem?_eq_some_iff.1 h).1
  unfold linkP
  rw [List.take_add_one, h, Option.toList_some, fillAt_snoc, List.length_take, Nat.zero_add, Nat.zero_add, Nat.min_eq_left (by omega)]
  rfl
theorem linkEs_next {ms : List Mod} {k : Nat} {m : Mod} (h : ms[k]? = some m) : linkEs (ms.take (k + 1)) = linkEs (ms.take k) ++ entriesOf (cellsN (ms.take k)) k m := by
  have hk := (List.getElem?_eq_some_iff.1 h).1
  unfold linkEs
  rw [List.take_add_one, h, Option.toList_some, fillAt_snoc, List.length_take, Nat.zero_add, Nat.zero_add, Nat.min_eq_left (by omega)]
theorem fillAt_app {α : Type} (f : Nat → Nat → Mod → List α) (r : List Mod) : ∀ (l : List Mod) (b n : Nat), fillAt f (l ++ r) b n = fillAt f l b n ++ fillAt f r (b + cellsN l) (n + l.length)
  | [], b, n => by simp [fillAt, cellsN]
  | x :: l, b, n => by
    rw [List.cons_append, fillAt, fillAt, fillAt_app f r l, List.append_assoc, cellsN_cons]
    congr 3
    · omega
    · simp; omega
theorem fillP_len (ms : List Mod) (b n : Nat) : (fillAt placeOf ms b n).length = ms.length := by
  induction ms generalizing b n with
  | nil => rfl
  | cons m ms ih => rw [fillAt, List.length_append, ih]; simp [placeOf]; omega
theorem linkP_at {ms : List Mod} {k : Nat} {m : Mod} (h : ms[k]? = some m) : (linkP ms)[k]? = some ⟨cellsN (ms.take k), m.code.length, m.data.length, k + 1⟩ := by
  obtain ⟨hk, he⟩ := List.getElem?_eq_some_iff.1 h
  have e : ms = ms.take k ++ m :: ms.drop (k + 1) := by rw [← he, ← List.drop_eq_getElem_cons hk, List.take_append_drop]
  have hl : (fillAt placeOf (ms.take k) 0 0).length = k := by rw [fillP_len, List.length_take]; omega
  unfold linkP
  rw [show fillAt placeOf ms 0 0 = fillAt placeOf (ms.take k ++ m :: ms.drop (k + 1)) 0 0 from congrArg (fun l => fillAt placeOf l 0 0) e, fillAt_app, List.getElem?_append_right (by omega), hl, Nat.sub_self, fillAt, List.length_take, Nat.zero_add, Nat.zero_add, Nat.min_eq_left (by omega)]
  rfl
theorem fillAt_len {α : Type} {f : Nat → Nat → Mod → List α} {c : Nat} (hf : ∀ b n m, (f b n m).length ≤ c ∨ ¬ (modE m = 0)) : ∀ {ms : List Mod} {b n : Nat}, (∀ m ∈ ms, modE m = 0) → (fillAt f ms b n).length ≤ c * ms.length
  | [], _, _, _ => Nat.zero_le _
  | m :: ms, b, n, h => by
    rw [fillAt, List.length_append, List.length_cons, Nat.mul_succ]
    have h1 := (hf b n m).resolve_right (fun hn => hn (h m (List.mem_cons_self ..)))
    have h2 := fillAt_len hf (ms := ms) (b := b + sizeM m) (n := n + 1) fun m' hm => h m' (List.mem_cons_of_mem _ hm)
    omega
theorem linkEs_len {ms : List Mod} (h : ∀ m ∈ ms, modE m = 0) : (linkEs ms).length ≤ 20 * ms.length :=
  fillAt_len (fun b n m => by
    by_cases hm : modE m = 0
    · left
      have := modE_sizes (show (modE m != 0) = false by simp [hm])
      unfold entriesOf; rw [List.length_map]; omega
    · exact .inr hm) h
theorem linkP_len (ms : List Mod) : (linkP ms).length = ms.length := by
  have : ∀ (ms : List Mod) (b n : Nat), (fillAt placeOf ms b n).length = ms.length := by
    intro ms
    induction ms with
    | nil => intro b n; rfl
    | cons m ms ih => intro b n; rw [fillAt, List.length_append, ih]; simp [placeOf]; omega
  exact this ms 0 0
/-- what the test says of modules that may be together -/
theorem linkE_ok {ms : List Mod} (h : linkE ms = 0) : ms.length ≤ 8 ∧ (∀ m ∈ ms, modE m = 0) ∧ cellsN ms ≤ 400 ∧ (fromI (twiceF (allNames ms)) (allNames ms) 0 = 0) ∧ ∀ m ∈ ms, ∀ x ∈ m.imports, isIn (allNames ms) x.name = true := by
  unfold linkE at h
  split at h
  · cases h
  · rename_i h8
    have h0 : (seqE (firstE modE ms) (seqE (fromI (twiceF (allNames ms)) (allNames ms) 0) (if 400 < cellsN ms then 9 else firstE (impsE (allNames ms)) ms)) != 0) = false := by rw [h]; rfl
    obtain ⟨h1, h2⟩ := seqE_zero.1 h0
    obtain ⟨h3, h4⟩ := seqE_zero.1 h2
    have h5 : ¬ 400 < cellsN ms := fun hc => by rw [if_pos hc] at h4; cases h4
    rw [if_neg h5] at h4
    refine ⟨by omega, firstE_all h1, by omega, by simpa using h3, fun m hm x hx => ?_⟩
    have h6 := firstE_all h4 m hm
    have h7 := firstE_all (show (firstE (noneF (allNames ms)) m.imports != 0) = false by rw [show firstE (noneF (allNames ms)) m.imports = 0 from h6]; rfl) x hx
    cases h8 : isIn (allNames ms) x.name
    · unfold noneF at h7; rw [if_neg (by simp [h8])] at h7; cases h7
    · rfl
theorem modE_imp {m : Mod} (h : modE m = 0) {x : Import} (hx : x ∈ m.imports) : ∃ s : Nat, x.slot = s ∧ s + 1 < m.data.length := by
  unfold modE at h
  split at h
  · cases h
  · split at h
    · obtain ⟨-, h2⟩ := seqE_zero.1 (show (seqE (fromI (expE m) m.exports 0) (fromI (impE m) m.imports 0) != 0) = false by rw [h]; rfl)
      have key : ∀ (l : List Import) (k : Nat), (firstI (impE m) l k != 0) = false → ∀ x ∈ l, inR x.slot 0 (m.data.length - 2) = true := by
        intro l
        induction l with
        | nil => intro k _ x hx; cases hx
        | cons y l ih =>
          intro k hf x hx
          rw [firstI] at hf
          split at hf
          · rename_i h3; rw [h3] at hf; cases hf
          · rename_i h3
            rcases List.mem_cons.1 hx with rfl | hx
            · cases h4 : inR x.slot 0 (m.data.length - 2)
              · exfalso
                apply h3
                unfold impE
                split
                · rw [if_neg (by simp [h4])]; rfl
                · rfl
              · rfl
            · exact ih _ hf x hx
      have h3 := inR_iff.1 (key m.imports 0 (by unfold fromI at h2; rw [List.drop_zero] at h2; exact h2) x hx)
      exact ⟨x.slot.toNat, by omega, by omega⟩
    · cases h
theorem modE_exp {m : Mod} (h : modE m = 0) {x : Label} (hx : x ∈ m.exports) : 0 ≤ x.pos ∧ x.pos < m.code.length := by
  unfold modE at h
  split at h
  · cases h
  · split at h
    · obtain ⟨h2, -⟩ := seqE_zero.1 (show (seqE (fromI (expE m) m.exports 0) (fromI (impE m) m.imports 0) != 0) = false by rw [h]; rfl)
      have key : ∀ (l : List Label) (k : Nat), (firstI (expE m) l k != 0) = false → ∀ x ∈ l, inR x.pos 0 (m.code.length - 1) = true := by
        intro l
        induction l with
        | nil => intro k _ x hx; cases hx
        | cons y l ih =>
          intro k hf x hx
          rw [firstI] at hf
          split at hf
          · rename_i h3; rw [h3] at hf; cases hf
          · rename_i h3
            rcases List.mem_cons.1 hx with rfl | hx
            · cases h4 : inR x.pos 0 (m.code.length - 1)
              · exfalso
                apply h3
                unfold expE
                split
                · split
                  · rfl
                  · rw [if_neg (by simp [h4])]; rfl
                · rfl
              · rfl
            · exact ih _ hf x hx
      have h3 := inR_iff.1 (key m.exports 0 (by unfold fromI at h2; rw [List.drop_zero] at h2; exact h2) x hx)
      omega
    · cases h
theorem cellsN_take : ∀ (ms : List Mod) (k : Nat), cellsN (ms.take k) ≤ cellsN ms
  | [], k => by simp [cellsN]
  | m :: ms, 0 => Nat.zero_le _
  | m :: ms, k + 1 => by rw [List.take_succ_cons, cellsN_cons, cellsN_cons]; have := cellsN_take ms k; omega
theorem cellsN_split {ms : List Mod} {k : Nat} {m : Mod} (h : ms[k]? = some m) : cellsN (ms.take k) + sizeM m + cellsN (ms.drop (k + 1)) = cellsN ms := by
  obtain ⟨hk, he⟩ := List.getElem?_eq_some_iff.1 h
  have : ms = ms.take k ++ m :: ms.drop (k + 1) := by
    rw [← he, ← List.drop_eq_getElem_cons hk, List.take_append_drop]
  conv => rhs; rw [this]
  simp [cellsN]; omega
theorem cellsN_to {ms : List Mod} {k : Nat} {m : Mod} (h : ms[k]? = some m) : cellsN (ms.take k) + sizeM m ≤ cellsN ms := by
  have := cellsN_take ms (k + 1)
  rw [List.take_add_one, h, Option.toList_some, cellsN_snoc] at this
  exact this
end Go.Proofs.Ythdlfepakkihnaa
