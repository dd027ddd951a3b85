/- What the parts say: Labels as a map of the call's own, told by a list. Conditions: none. -/
import Derived.Test.YtbkjhdohkdeniaaGreatDoorP29
import Derived.Test.YtbkjhdohkdeniaaGreatDoorP17
set_option linter.unusedVariables false
set_option linter.unusedSimpArgs false
namespace Go.Proofs.YtbkjhdohkdeniaaGreatDoor
open Go.RowKit Go.MapKept Go.ChangeMaps
set_option maxRecDepth 100000
theorem ba_eqd (a b : ByteArray) : (a == b) = decide (a = b) := by
  by_cases h : a = b
  · subst h; rw [ba_beq]; simp
  · rw [decide_eq_false h, Bool.eq_false_iff]
    intro e
    apply h
    cases a with | mk x => cases b with | mk y =>
    exact congrArg _ (eq_of_beq (show (x == y) = true from e))
theorem str_eqd (a b : List UInt8) : (str a == str b) = (a == b) := by
  rw [ba_eqd, Bool.eq_iff_iff, decide_eq_true_eq, beq_iff_eq]
  exact ⟨fun h => by have := congrArg (·.data.toList) h; simpa [str] using this, fun h => by rw [h]⟩
def labL : List Lab → Nat → List MapEntry
  | [], _ => []
  | x :: l, n => ⟨.string (str x.name), .int .i64 x.pos, n⟩ :: labL l (n + 1)
def labO (l : List Lab) : Obj := .map (labL l 0).toArray l.length
theorem labL_snoc (x : Lab) : ∀ (l : List Lab) (n : Nat), labL (l ++ [x]) n = labL l n ++ [⟨.string (str x.name), .int .i64 x.pos, n + l.length⟩]
  | [], n => rfl
  | y :: l, n => by rw [List.cons_append, labL, labL, labL_snoc x l, List.cons_append, List.length_cons, show n + 1 + l.length = n + (l.length + 1) by omega]
theorem lab_no {s : List UInt8} : ∀ {l : List Lab} {n i : Nat}, findL l s = none → Instr.findNow .string (.string (str s)) (labL l n) i = some none
  | [], n, i, _ => rfl
  | x :: l, n, i, h => by
    unfold findL at h
    rw [List.find?_cons] at h
    cases hx : x.name == s
    · rw [hx] at h
      have hs : (str s == str x.name) = false := by rw [str_eqd]; rw [beq_eq_false_iff_ne] at hx ⊢; exact fun e => hx e.symm
      rw [labL, Instr.findNow]
      simp only [Instr.sameNow, hs]
      exact lab_no (by unfold findL; exact h)
    · rw [hx] at h; cases h
theorem lab_yes {s : List UInt8} {p : Int} : ∀ {l : List Lab} {n i : Nat}, findL l s = some p → ∃ j, Instr.findNow .string (.string (str s)) (labL l n) i = some (some (j, .int .i64 p))
  | [], n, i, h => by cases h
  | x :: l, n, i, h => by
    unfold findL at h
    rw [List.find?_cons] at h
    rw [labL, Instr.findNow]
    cases hx : x.name == s
    · rw [hx] at h
      have hs : (str s == str x.name) = false := by rw [str_eqd]; rw [beq_eq_false_iff_ne] at hx ⊢; exact fun e => hx e.symm
      simp only [Instr.sameNow, hs]
      exact lab_yes (by unfold findL; exact h)
    · rw [hx] at h
      simp only [Option.map_some, Option.some.injEq] at h
      have hs : (str s == str x.name) = true := by rw [str_eqd]; rw [beq_iff_eq] at hx ⊢; exact hx.symm
      simp only [Instr.sameNow, hs]
      exact ⟨_, by rw [h]⟩
def lookV (l : List Lab) (s : List UInt8) : Value := match findL l s with | none => .tuple #[.int .i64 0, .bool false] | some p => .tuple #[.int .i64 p, .bool true]
section
variable {P : Program} {o : Oper} {a : Act} {T : Nat → Prop} {w0 w : World} {rs : List Res} {K : Act → World → Prop} {Q : Exit → Act → World → Prop}
theorem run_lookLab (t : TypeId) {kt e : TypeId} (ht : P.underlying t = some (.map kt e)) (hk : P.underlying kt = some .string) (hz : ∀ w, (zeroValue e).run P w = .ok (.int .i64 0) w) {g : Nat} {l : List Lab} (hb : w.heap[g]? = some (labO l)) (s : List UInt8) :
    (Instr.lookup t (.map (some g)) (.string (str s)) true).run P w = .ok (lookV l s) w := by
  unfold labO at hb
  unfold lookV
  cases h : findL l s with
  | none =>
    have hf := lab_no (n := 0) (i := 0) h
    simp [Instr.lookup, run_underlying ht, MapKept.run_getObj_map hb, run_checkKey hk (show IsKey .string (.string (str s)) from trivial), run_findKey hk hf, Result.andThen, hz]
  | some p =>
    obtain ⟨j, hf⟩ := lab_yes (n := 0) (i := 0) h
    simp [Instr.lookup, run_underlying ht, MapKept.run_getObj_map hb, run_checkKey hk (show IsKey .string (.string (str s)) from trivial), run_findKey hk hf, Result.andThen]
theorem wpI_labLook (t : TypeId) (m x : Operand) (ho : o.op = .lookup t m x true) {kt e : TypeId} (ht : P.underlying t = some (.map kt e)) (hk : P.underlying kt = some .string) (hz : ∀ w, (zeroValue e).run P w = .ok (.int .i64 0) w) (hI : InvT T w0 rs w) {g : Nat} (hm : a.eval m = .map (some g)) (i : Nat) {l : List Lab} (hi : rs[i]? = some (.obj g (labO l)))
    {s : List UInt8} (hx : a.eval x = .string (str s)) (h : K (a.put o.dst (lookV l s)) w) : o.wp P a w K Q := by
  have hr := run_lookLab (P := P) t ht hk hz (show w.heap[g]? = some (labO l) from hI.ok i _ hi) s
  unfold Oper.wp execOp
  simp only [ho, hm, hx, Sem.run_bind, Sem.run_pure, Result.andThen_ok, hr]
  exact h
theorem wpI_makeLab (t : TypeId) (ho : o.op = .makeMap t none) (hI : InvT T w0 rs w) (h : ∀ g w', InvT T w0 (rs ++ [.obj g (labO [])]) w' → Below w.heap.size w w' → K (a.put o.dst (.map (some g))) w') : o.wp P a w K Q :=
  wpI_makeMap t ho hI h
theorem wpI_labIns (t : TypeId) (m x y : Operand) (ho : o.op = .mapUpdate t m x y) {kt e : TypeId} (ht : P.underlying t = some (.map kt e)) (hk : P.underlying kt = some .string) (hI : InvT T w0 rs w) {g : Nat} (hm : a.eval m = .map (some g)) (i : Nat) {l : List Lab} (hi : rs[i]? = some (.obj g (labO l)))
    {s : List UInt8} {p : Int} (hx : a.eval x = .string (str s)) (hv : a.eval y = .int .i64 p) (hn : findL l s = none) (h : ∀ w', InvT T w0 (rs.set i (.obj g (labO (l ++ [⟨s, p⟩])))) w' → K (a.put o.dst undef) w') : o.wp P a w K Q := by
  refine wpI_mapNew t m x y ho ht hk hI hm i hi hx hv (lab_no hn) fun w' hI' => h w' ?_
  have e : labO (l ++ [⟨s, p⟩]) = .map ((labL l 0).toArray.push ⟨.string (str s), .int .i64 p, l.length⟩) (l.length + 1) := by
    unfold labO
    rw [labL_snoc, Nat.zero_add, List.length_append]
    simp
  rw [e]
  exact hI'
end
end Go.Proofs.YtbkjhdohkdeniaaGreatDoor
