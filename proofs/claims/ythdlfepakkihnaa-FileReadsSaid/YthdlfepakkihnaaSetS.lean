/- A set of strings as a map of the call's own. Conditions: none. -/
import Derived.Test.YthdlfepakkihnaaMapS
namespace Go.Proofs.Ythdlfepakkihnaa
open Go.RowKit Go.MapKept Go.ChangeMaps
set_option linter.unusedVariables false
set_option linter.unusedSimpArgs false
set_option maxRecDepth 100000
def isIn (l : List ByteArray) (s : ByteArray) : Bool := l.any fun y => decide (y = s)
theorem ba_eq (a b : ByteArray) : (a == b) = decide (a = b) := by
  by_cases h : a = b
  · subst h; rw [ba_beq]; simp
  · rw [decide_eq_false h, Bool.eq_false_iff]
    intro e
    apply h
    cases a with | mk x => cases b with | mk y =>
    exact congrArg _ (eq_of_beq (show (x == y) = true from e))
def setL : List ByteArray → Nat → List MapEntry
  | [], _ => []
  | s :: l, n => ⟨.string s, .bool true, n⟩ :: setL l (n + 1)
def setO (l : List ByteArray) : Obj := .map (setL l 0).toArray l.length
theorem setL_snoc (s : ByteArray) : ∀ (l : List ByteArray) (n : Nat), setL (l ++ [s]) n = setL l n ++ [⟨.string s, .bool true, n + l.length⟩]
  | [], n => rfl
  | x :: l, n => by rw [List.cons_append, setL, setL, setL_snoc s l, List.cons_append, List.length_cons, show n + 1 + l.length = n + (l.length + 1) by omega]
theorem findNow_no {s : ByteArray} : ∀ {l : List ByteArray} {n i : Nat}, isIn l s = false → Instr.findNow .string (.string s) (setL l n) i = some none
  | [], n, i, _ => rfl
  | x :: l, n, i, h => by
    simp only [isIn, List.any_cons, Bool.or_eq_false_iff, decide_eq_false_iff_not] at h
    have hs : (s == x) = false := by rw [ba_eq]; exact decide_eq_false fun e => h.1 e.symm
    rw [setL, Instr.findNow]
    simp only [Instr.sameNow, hs]
    exact findNow_no h.2
theorem findNow_yes {s : ByteArray} : ∀ {l : List ByteArray} {n i : Nat}, isIn l s = true → ∃ j, Instr.findNow .string (.string s) (setL l n) i = some (some (j, .bool true))
  | [], n, i, h => by simp [isIn] at h
  | x :: l, n, i, h => by
    rw [setL, Instr.findNow]
    by_cases hx : s = x
    · subst hx
      simp only [Instr.sameNow, ba_beq]
      exact ⟨_, rfl⟩
    · have hs : (s == x) = false := by rw [ba_eq]; exact decide_eq_false hx
      simp only [Instr.sameNow, hs]
      refine findNow_yes ?_
      simp only [isIn, List.any_cons, Bool.or_eq_true, decide_eq_true_eq] at h
      rcases h with h | h
      · exact absurd h.symm hx
      · exact h
section
variable {P : Program} {o : Oper} {a : Act} {T : Nat → Prop} {w0 w : World} {rs : List Res} {K : Act → World → Prop} {Q : Exit → Act → World → Prop}
theorem run_lookSet (t : TypeId) {kt e : TypeId} (ht : P.underlying t = some (.map kt e)) (hk : P.underlying kt = some .string) (hz : ∀ w, (zeroValue e).run P w = .ok (.bool false) w) {g : Nat} {l : List ByteArray} (hb : w.heap[g]? = some (setO l)) (s : ByteArray) :
    (Instr.lookup t (.map (some g)) (.string s) false).run P w = .ok (.bool (isIn l s)) w := by
  unfold setO at hb
  cases h : isIn l s
  · have hf := findNow_no (n := 0) (i := 0) h
    simp [Instr.lookup, run_underlying ht, MapKept.run_getObj_map hb, run_checkKey hk (show IsKey .string (.string s) from trivial), run_findKey hk hf, Result.andThen, hz]
  · obtain ⟨j, hf⟩ := findNow_yes (n := 0) (i := 0) h
    simp [Instr.lookup, run_underlying ht, MapKept.run_getObj_map hb, run_checkKey hk (show IsKey .string (.string s) from trivial), run_findKey hk hf, Result.andThen]
theorem wpI_setLook (t : TypeId) (m x : Operand) (ho : o.op = .lookup t m x false) {kt e : TypeId} (ht : P.underlying t = some (.map kt e)) (hk : P.underlying kt = some .string) (hz : ∀ w, (zeroValue e).run P w = .ok (.bool false) w) (hI : InvT T w0 rs w) {g : Nat} (hm : a.eval m = .map (some g)) (i : Nat) {l : List ByteArray} (hi : rs[i]? = some (.obj g (setO l)))
    {s : ByteArray} (hx : a.eval x = .string s) (h : K (a.put o.dst (.bool (isIn l s))) w) : o.wp P a w K Q := by
  have hr := run_lookSet (P := P) t ht hk hz (show w.heap[g]? = some (setO l) from hI.ok i _ hi) s
  unfold Oper.wp execOp
  simp only [ho, hm, hx, Sem.run_bind, Sem.run_pure, Result.andThen_ok, hr]
  exact h
theorem wpI_makeSet (t : TypeId) (ho : o.op = .makeMap t none) (hI : InvT T w0 rs w) (h : ∀ g w', InvT T w0 (rs ++ [.obj g (setO [])]) w' → Below w.heap.size w w' → K (a.put o.dst (.map (some g))) w') : o.wp P a w K Q :=
  wpI_makeMap t ho hI h
theorem wpI_setIns (t : TypeId) (m x y : Operand) (ho : o.op = .mapUpdate t m x y) {kt e : TypeId} (ht : P.underlying t = some (.map kt e)) (hk : P.underlying kt = some .string) (hI : InvT T w0 rs w) {g : Nat} (hm : a.eval m = .map (some g)) (i : Nat) {l : List ByteArray} (hi : rs[i]? = some (.obj g (setO l)))
    {s : ByteArray} (hx : a.eval x = .string s) (hv : a.eval y = .bool true) (hn : isIn l s = false) (h : ∀ w', InvT T w0 (rs.set i (.obj g (setO (l ++ [s])))) w' → K (a.put o.dst undef) w') : o.wp P a w K Q := by
  refine wpI_mapNew t m x y ho ht hk hI hm i (es := (setL l 0).toArray) (clock := l.length) hi hx hv (findNow_no hn) fun w' hI' => h w' ?_
  have : (Obj.map ((setL l 0).toArray.push ⟨.string s, .bool true, l.length⟩) (l.length + 1)) = setO (l ++ [s]) := by
    unfold setO
    rw [setL_snoc, List.push_toArray, List.length_append, Nat.zero_add]; rfl
  rw [← this]
  exact hI'
end
end Go.Proofs.Ythdlfepakkihnaa
