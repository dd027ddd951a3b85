/- strconv.Atoi at every string, strings.Split at one byte, TrimPrefix: as plain data tells it. Conditions: Go's tables and errors hold what they were laid with. -/
import Derived.Test.YtbkjhdohkdeniaaDoorTextE
namespace Go.Proofs.YtbkjhdohkdeniaaDoor
open Go.RowKit
set_option linter.unusedVariables false
set_option linter.unusedSimpArgs false
set_option maxRecDepth 100000
structure EnvE (w : World) : Prop where
  envT : EnvT w
  eSyn : ∃ tp p, w.var? Tryd.prog "strconv.ErrSyntax" = some #[.iface tp p]
  eRng : ∃ tp p, w.var? Tryd.prog "strconv.ErrRange" = some #[.iface tp p]
theorem gSyn : Tryd.prog.globalNamed "strconv.ErrSyntax" = some 5 := by kernel_rfl
theorem gRng : Tryd.prog.globalNamed "strconv.ErrRange" = some 6 := by kernel_rfl
theorem EnvE.below {w w' : World} (h : EnvE w) (hb : Below w.heap.size w w') : EnvE w' := by
  obtain ⟨hT, ⟨t1, p1, h1⟩, ⟨t2, p2, h2⟩⟩ := h
  exact ⟨hT.below hb, ⟨t1, p1, Go.Joins.var_stays gSyn h1 hb (Nat.le_refl _)⟩, ⟨t2, p2, Go.Joins.var_stays gRng h2 hb (Nat.le_refl _)⟩⟩
theorem EnvE.inv {w w' : World} {rs : List Res} (h : EnvE w) (hI : Inv w rs w') : EnvE w' := h.below hI.below
/-- what Atoi gives beside its number: nothing, or an error -/
def errV (l : List UInt8) (v : Value) : Prop := ((∃ m, Lib.atoiAll l = .ok m) ∧ v = .nilIface) ∨ ((∀ m, Lib.atoiAll l ≠ .ok m) ∧ ∃ t g, v = .iface t (.pointer (some ⟨g, 0, none⟩)))
theorem c_Atoi (l : List UInt8) (hl : l.length ≤ 281474976710656) (w : World) (hE : EnvE w) :
    Calls Tryd.prog 35 #[.string (str l)] w fun e w' => ∃ v, e = .returned (.tuple #[.int .i64 (atoiN l), v]) ∧ errV l v ∧ Below w.heap.size w w' := by
  have hz : (str l).size = l.length := str_size l
  have hd := str_list l
  obtain ⟨_, ⟨t1, p1, h1⟩, ⟨t2, p2, h2⟩⟩ := hE
  have hN : atoiN l = match Lib.atoiAll l with | .ok v => v | .range => Lib.atoiSat l | _ => 0 := rfl
  unfold errV
  cases h : Lib.atoiAll l with
  | ok m =>
    rw [h] at hN
    refine (Tryd.strconv_Atoi_ok (str l) (by omega) m (by rw [hd]; exact h) w).mono ?_
    rintro e w' ⟨rfl, hw⟩
    refine ⟨_, by rw [hN], .inl ⟨⟨m, rfl⟩, rfl⟩, ?_⟩
    rcases hw with rfl | ⟨t, rfl⟩
    · exact Below.refl _ _
    · exact Lib.bytesWorld_below w _ t
  | range =>
    rw [h] at hN
    refine (Tryd.strconv_Atoi_range_var (str l) (by omega) (by rw [hd]; exact h) t2 p2 w h2).mono ?_
    rintro e w' ⟨N, rfl, _, _, hb⟩
    exact ⟨_, by rw [hN, hd], .inr ⟨(fun m hm => by cases hm), _, _, rfl⟩, hb⟩
  | _ =>
    rw [h] at hN
    refine (Any.strconv_Atoi_syntax_var Tryd.laysC172 (str l) (by omega) (by rw [hd]; exact h) t1 p1 w h1).mono ?_
    rintro e w' ⟨N, rfl, _, _, hb⟩
    exact ⟨_, by rw [hN], .inr ⟨(fun m hm => by cases hm), _, _, rfl⟩, hb⟩
def strCells (ws : List (List UInt8)) : Array Value := (ws.map fun x => Value.string (str x)).toArray
theorem strCells_at {ws : List (List UInt8)} {k : Nat} {x : List UInt8} (h : ws[k]? = some x) : (strCells ws)[k]? = some (.string (str x)) := by
  unfold strCells; rw [List.getElem?_toArray, List.getElem?_map, h]; rfl
theorem strCells_size (ws : List (List UInt8)) : (strCells ws).size = ws.length := by simp [strCells]
theorem c_SplitB {w0 w : World} {rs : List Res} (hI : Inv w0 rs w) (hE : Env w0) (c : UInt8) (l : List UInt8) (hl : l.length ≤ 4000000000) :
    Calls Tryd.prog 26 #[.string (str l), .string ⟨#[c]⟩] w fun e w' => ∃ g, e = .returned (.slice (some ⟨g, 0, none⟩) (splitL c l).length (splitL c l).length) ∧ Inv w0 (rs ++ [.box g 9 (strCells (splitL c l))]) w' := by
  have h := c_Split (str l) ⟨#[c]⟩ w (hE.inv hI) (by rw [str_size]; omega) (Nat.le_refl 1) ((splitL c l).map str) (by have := splitB_one c (str l); rw [str_list] at this; exact this)
  refine h.mono ?_
  rintro e w' ⟨g, rfl, rfl, rfl⟩
  rw [List.length_map]
  refine ⟨_, rfl, ?_⟩
  have := hI.alloc 9 (strCells (splitL c l))
  unfold strCells at this ⊢
  rw [List.map_map]
  exact this
theorem c_TrimB (l : List UInt8) (c : UInt8) (w : World) : Calls Tryd.prog 36 #[.string (str l), .string ⟨#[c]⟩] w fun e w' => e = .returned (.string (str (Lib.trimPrefix l [c]))) ∧ w = w' := by
  refine (Tryd.strings_TrimPrefix (str l) ⟨#[c]⟩ w).mono ?_
  rintro e w' ⟨rfl, rfl⟩
  refine ⟨?_, rfl⟩
  show Ending.returned (.string (str (Lib.trimPrefix (str l).data.toList [c]))) = _
  rw [str_list]
theorem c_HasB (l : List UInt8) (p : ByteArray) (w : World) : Calls Tryd.prog 38 #[.string (str l), .string p] w fun e w' => e = .returned (.bool (p.data.toList.isPrefixOf l)) ∧ w = w' := by
  refine (Tryd.strings_HasPrefix (str l) p w).mono ?_
  rintro e w' ⟨rfl, rfl⟩
  refine ⟨?_, rfl⟩
  rw [str_list]; rfl
end Go.Proofs.YtbkjhdohkdeniaaDoor
