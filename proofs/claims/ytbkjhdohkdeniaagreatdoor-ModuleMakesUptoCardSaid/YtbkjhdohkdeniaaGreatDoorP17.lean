/- What the parts say: Programs' texts as plain data: told, and read again. Conditions: none. -/
import Derived.Test.YtbkjhdohkdeniaaGreatDoorP15
import Derived.Test.YtbkjhdohkdeniaaGreatDoorP16
set_option linter.unusedVariables false
set_option linter.unusedSimpArgs false
namespace Go.Proofs.YtbkjhdohkdeniaaGreatDoor
open Go.RowKit
set_option maxRecDepth 100000
def isNum (n : Int) : Bool := inR n (-2147483648) 2147483647
def wordP : List UInt8 := [119, 111, 114, 100, 32]
/-! Reading -/
inductive LineK where
  | large | empty | bad
  | label (name : List UInt8)
  | cell (n : Int)
  | hole (i : Inst) (name : List UInt8)
def zeroT : List UInt8 := [48]
def jumpW (ws : List (List UInt8)) : Inst × Int := parseF (Lib.join (ws.dropLast ++ [zeroT]) [32])
def isHole (ws : List (List UInt8)) : Bool := decide (1 < ws.length) && (nameB (ws.getLastD []) && (decide ((jumpW ws).2 = 0) && (decide ((jumpW ws).1.op = 8) || decide ((jumpW ws).1.op = 9))))
def isWordN (r : List UInt8) : Bool := decide (Lib.itoa (atoiN r) = r) && isNum (atoiN r)
def lineK (s : List UInt8) : LineK :=
  if 80 < s.length then .large else if s.getLast? = some 58 then .label s.dropLast else if s = [] then .empty
  else if wordP.isPrefixOf s = true then (if isWordN (s.drop 5) = true then .cell (atoiN (s.drop 5)) else .bad)
  else if isHole (splitL 32 s) = true then .hole (jumpW (splitL 32 s)).1 ((splitL 32 s).getLastD [])
  else if (parseF s).2 = 0 then .cell (packF (parseF s).1).1 else .bad
structure Lab where
  name : List UInt8
  pos : Int
def findL (ls : List Lab) (nm : List UInt8) : Option Int := (ls.find? fun l => l.name == nm).map (·.pos)
def labErr (ls : List Lab) : LineK → Int
  | .large => 2
  | .bad => 3
  | .label nm => if nameB nm = false then 3 else if (findL ls nm).isSome = true then 8 else if ls.length = 20 then 9 else 0
  | _ => 0
structure St1 where
  count : Int
  labs : List Lab
def step1 (st : St1) : LineK → St1
  | .label nm => ⟨st.count, st.labs ++ [⟨nm, st.count⟩]⟩
  | .cell _ => ⟨st.count + 1, st.labs⟩
  | .hole _ _ => ⟨st.count + 1, st.labs⟩
  | _ => st
def run1 : List LineK → St1 → Int → (Int × Int) ⊕ List Lab
  | [], st, _ => .inr st.labs
  | k :: ks, st, n => if labErr st.labs k ≠ 0 then .inl (n + 1, labErr st.labs k) else run1 ks (step1 st k) (n + 1)
def run2 (ls : List Lab) : List LineK → List Int → Int → (Int × Int) ⊕ List Int
  | [], code, _ => .inr code
  | .cell v :: ks, code, n => run2 ls ks (code ++ [v]) (n + 1)
  | .hole i nm :: ks, code, n => match findL ls nm with
    | none => .inl (n + 1, 7)
    | some to => if instOk { i with c := to - code.length } = true then run2 ls ks (code ++ [(packF { i with c := to - code.length }).1]) (n + 1) else .inl (n + 1, 13)
  | _ :: ks, code, n => run2 ls ks code (n + 1)
structure ProgR where
  code : List Int
  labs : List Lab
  line : Int
  err : Int
def progL (ks : List LineK) : ProgR :=
  match run1 ks ⟨0, []⟩ 0 with
  | .inl (n, e) => ⟨[], [], n, e⟩
  | .inr ls => match run2 ls ks [] 0 with
    | .inl (n, e) => ⟨[], [], n, e⟩
    | .inr code => ⟨code, ls, 0, 0⟩
def progR (s : List UInt8) : ProgR := if 150 < (splitL 10 s).length then ⟨[], [], 0, 2⟩ else progL ((splitL 10 s).map lineK)
/-! The program's way: cells and holes as they come, then the holes -/
structure Hole where
  line : Int
  pos : Int
  i : Inst
  name : List UInt8
def code0 : List LineK → List Int
  | [] => []
  | .cell v :: ks => v :: code0 ks
  | .hole _ _ :: ks => 0 :: code0 ks
  | _ :: ks => code0 ks
def holes0 : List LineK → Int → Int → List Hole
  | [], _, _ => []
  | .cell _ :: ks, p, n => holes0 ks (p + 1) (n + 1)
  | .hole i nm :: ks, p, n => ⟨n + 1, p, i, nm⟩ :: holes0 ks (p + 1) (n + 1)
  | _ :: ks, p, n => holes0 ks p (n + 1)
def runH (ls : List Lab) : List Hole → List Int → (Int × Int) ⊕ List Int
  | [], code => .inr code
  | h :: hs, code => match findL ls h.name with
    | none => .inl (h.line, 7)
    | some to => if instOk { h.i with c := to - h.pos } = true then runH ls hs (code.set h.pos.toNat (packF { h.i with c := to - h.pos }).1) else .inl (h.line, 13)
theorem runH_run2 (ls : List Lab) : ∀ (ks : List LineK) (done : List Int) (n : Int), runH ls (holes0 ks done.length n) (done ++ code0 ks) = run2 ls ks done n := by
  intro ks
  induction ks with
  | nil => intro done n; simp [holes0, code0, runH, run2]
  | cons k ks ih =>
    intro done n
    cases k with
    | large => exact ih done (n + 1)
    | empty => exact ih done (n + 1)
    | bad => exact ih done (n + 1)
    | label nm => exact ih done (n + 1)
    | cell v =>
      have := ih (done ++ [v]) (n + 1)
      simp only [holes0, code0, run2]
      rw [← this]
      simp
    | hole i nm =>
      simp only [holes0, code0, run2, runH]
      cases findL ls nm with
      | none => rfl
      | some to =>
        dsimp only
        split
        · have := ih (done ++ [(packF { i with c := to - done.length }).1]) (n + 1)
          rw [← this]
          simp
        · rfl
theorem holes0_app : ∀ (a b : List LineK) (p n : Int), holes0 (a ++ b) p n = holes0 a p n ++ holes0 b (p + (code0 a).length) (n + a.length) := by
  intro a
  induction a with
  | nil => intro b p n; simp [holes0, code0]
  | cons k a ih =>
    intro b p n
    have e1 : ∀ (x : Int) (m : Nat), x + ((m + 1 : Nat) : Int) = x + 1 + (m : Int) := fun x m => by omega
    cases k <;> simp only [List.cons_append, holes0, code0, ih, List.length_cons, List.cons_append, e1]
theorem code0_app (a b : List LineK) : code0 (a ++ b) = code0 a ++ code0 b := by
  induction a with
  | nil => rfl
  | cons k a ih => cases k <;> simp [code0, ih]
theorem holes0_names (ks : List LineK) (p n : Int) : ∀ h ∈ holes0 ks p n, p ≤ h.pos ∧ h.pos < p + (code0 ks).length := by
  induction ks generalizing p n with
  | nil => intro h hh; simp [holes0] at hh
  | cons k ks ih =>
    cases k with
    | hole i nm =>
      intro h hh
      simp only [holes0, List.mem_cons] at hh
      simp only [code0, List.length_cons]
      rcases hh with rfl | hh
      · dsimp only; omega
      · have := ih _ _ h hh; omega
    | cell v => intro h hh; have := ih _ _ h hh; simp only [code0, List.length_cons]; omega
    | _ => intro h hh; exact ih _ _ h hh
theorem run1_next {ks : List LineK} {j : Nat} {k : LineK} (st : St1) (n : Int) (h : ks[j]? = some k) : run1 (ks.drop j) st n = if labErr st.labs k ≠ 0 then .inl (n + 1, labErr st.labs k) else run1 (ks.drop (j + 1)) (step1 st k) (n + 1) := by
  obtain ⟨hj, rfl⟩ := List.getElem?_eq_some_iff.1 h
  rw [List.drop_eq_getElem_cons hj]
  rfl
end Go.Proofs.YtbkjhdohkdeniaaGreatDoor
