/- A set of keys as a map of the call's own, looked up, written, walked over in whatever order. Conditions: none. -/
import Derived.Test.YthdlfepakkihnaaMapS
import Derived.Test.YthdlfepakkihnaaEq
import Derived.Maps.RangeRun
namespace Go.Proofs.Ythdlfepakkihnaa
open Go.RowKit Go.MapKept Go.ChangeMaps
set_option linter.unusedVariables false
set_option linter.unusedSimpArgs false
set_option maxRecDepth 100000
def setKL : List Key → Nat → List MapEntry
  | [], _ => []
  | k :: l, n => ⟨.agg #[.int .i64 k.perm, .int .i64 k.base, .int .i64 k.len, .int .i64 k.pos, .int .i64 k.tag], .agg #[], n⟩ :: setKL l (n + 1)
def setKO (l : List Key) : Obj := .map (setKL l 0).toArray l.length
theorem setKL_snoc (s : Key) : ∀ (l : List Key) (n : Nat), setKL (l ++ [s]) n = setKL l n ++ [⟨.agg #[.int .i64 s.perm, .int .i64 s.base, .int .i64 s.len, .int .i64 s.pos, .int .i64 s.tag], .agg #[], n + l.length⟩]
  | [], n => rfl
  | x :: l, n => by rw [List.cons_append, setKL, setKL, setKL_snoc s l, List.cons_append, List.length_cons, show n + 1 + l.length = n + (l.length + 1) by omega]
theorem setKL_at : ∀ (l : List Key) (n i : Nat), (setKL l n)[i]? = (l[i]?).map fun k => ⟨.agg #[.int .i64 k.perm, .int .i64 k.base, .int .i64 k.len, .int .i64 k.pos, .int .i64 k.tag], .agg #[], n + i⟩
  | [], n, i => by simp [setKL]
  | k :: l, n, 0 => rfl
  | k :: l, n, i + 1 => by
    rw [setKL, List.getElem?_cons_succ, List.getElem?_cons_succ, setKL_at l (n + 1) i, show n + 1 + i = n + (i + 1) by omega]
theorem setKL_len : ∀ (l : List Key) (n : Nat), (setKL l n).length = l.length
  | [], n => rfl
  | k :: l, n => by rw [setKL, List.length_cons, setKL_len l, List.length_cons]
theorem setKL_mem {l : List Key} {e : MapEntry} (h : e ∈ setKL l 0) : ∃ p k, l[p]? = some k ∧ e = ⟨.agg #[.int .i64 k.perm, .int .i64 k.base, .int .i64 k.len, .int .i64 k.pos, .int .i64 k.tag], .agg #[], p⟩ := by
  obtain ⟨p, hp, he⟩ := List.getElem_of_mem h
  have h1 : (setKL l 0)[p]? = some e := by rw [List.getElem?_eq_getElem hp, he]
  rw [setKL_at] at h1
  cases hk : l[p]? with
  | none => rw [hk] at h1; cases h1
  | some k => rw [hk, Nat.zero_add] at h1; exact ⟨p, k, hk, (Option.some.inj h1).symm⟩
theorem setKL_born (l : List Key) : ∀ n, (setKL l n).map (·.born) = List.range' n l.length := by
  induction l with
  | nil => intro n; rfl
  | cons k l ih => intro n; rw [setKL, List.map_cons, ih]; rfl
section
variable {w : World}
theorem run_ckI (em : Bool) (n : Nat) (v : Int) : (Instr.checkKey em (n + 1) 3 (.int .i64 v)).run Try.prog w = .ok () w := by
  rw [Instr.checkKey]
  simp only [Sem.run_bind, run_underlying Try.underlying3, Result.andThen_ok, Sem.run_pure]
theorem run_ckK (em : Bool) (n : Nat) (k : Key) : (Instr.checkKey em (n + 2) 23 (.agg #[.int .i64 k.perm, .int .i64 k.base, .int .i64 k.len, .int .i64 k.pos, .int .i64 k.tag])).run Try.prog w = .ok () w := by
  rw [Instr.checkKey]
  simp only [Sem.run_bind, run_underlying Try.underlying23, Result.andThen_ok]
  rw [← Array.forIn_toList]
  simp [go_sem, run_ckI]
theorem run_checkKeyK (em : Bool) (k : Key) : (Instr.checkKey em 10000 23 (.agg #[.int .i64 k.perm, .int .i64 k.base, .int .i64 k.len, .int .i64 k.pos, .int .i64 k.tag])).run Try.prog w = .ok () w := run_ckK em 9998 k
theorem run_askK (k : Key) : ∀ (l : List Key) (n i : Nat), ∃ r, (Instr.findAsking 23 (.agg #[.int .i64 k.perm, .int .i64 k.base, .int .i64 k.len, .int .i64 k.pos, .int .i64 k.tag]) (setKL l n) i).run Try.prog w = .ok r w ∧ (k ∈ l → ∃ j, r = some (j, .agg #[])) ∧ (¬ k ∈ l → r = none)
  | [], n, i => ⟨none, rfl, (fun h => by cases h), fun _ => rfl⟩
  | x :: l, n, i => by
    have he : (Op.equal 23 (.agg #[.int .i64 k.perm, .int .i64 k.base, .int .i64 k.len, .int .i64 k.pos, .int .i64 k.tag]) (.agg #[.int .i64 x.perm, .int .i64 x.base, .int .i64 x.len, .int .i64 x.pos, .int .i64 x.tag])).run Try.prog w = .ok (decide (k = x)) w := by
      have := eqf_key 9996 k.perm k.base k.len k.pos k.tag x.perm x.base x.len x.pos x.tag w
      exact this
    obtain ⟨r, hr, h1, h2⟩ := run_askK k l (n + 1) (i + 1)
    by_cases hx : k = x
    · refine ⟨some (i, .agg #[]), ?_, fun _ => ⟨i, rfl⟩, fun h => absurd (List.mem_cons.2 (.inl hx)) h⟩
      rw [setKL, Instr.findAsking]
      simp only [Sem.run_bind, he, Result.andThen_ok, decide_eq_true hx, if_true, Sem.run_pure]
    · refine ⟨r, ?_, fun h => h1 ((List.mem_cons.1 h).resolve_left hx), fun h => h2 fun h3 => h (List.mem_cons_of_mem _ h3)⟩
      rw [setKL, Instr.findAsking]
      simp only [Sem.run_bind, he, Result.andThen_ok, decide_eq_false hx, Bool.false_eq_true, if_false]
      exact hr
theorem run_findK (k : Key) (l : List Key) : ∃ r, (Instr.findKey 23 (.agg #[.int .i64 k.perm, .int .i64 k.base, .int .i64 k.len, .int .i64 k.pos, .int .i64 k.tag]) (setKL l 0)).run Try.prog w = .ok r w ∧ (k ∈ l → ∃ j, r = some (j, .agg #[])) ∧ (¬ k ∈ l → r = none) := by
  cases l with
  | nil => exact ⟨none, by simp [Instr.findKey, setKL, Instr.findNow, run_underlying Try.underlying23], (fun h => by cases h), fun _ => rfl⟩
  | cons x l =>
    obtain ⟨r, hr, h1⟩ := run_askK (w := w) k (x :: l) 0 0
    refine ⟨r, ?_, h1⟩
    simp only [Instr.findKey, Sem.run_bind, run_underlying Try.underlying23, Result.andThen_ok]
    rw [setKL] at hr ⊢
    simp only [Instr.findNow, Instr.sameNow]
    exact hr
theorem run_lookK (l : List Key) {g : Nat} (hb : w.heap[g]? = some (setKO l)) (k : Key) :
    (Instr.lookup 117 (.map (some g)) (.agg #[.int .i64 k.perm, .int .i64 k.base, .int .i64 k.len, .int .i64 k.pos, .int .i64 k.tag]) true).run Try.prog w = .ok (.tuple #[.agg #[], .bool (decide (k ∈ l))]) w := by
  unfold setKO at hb
  obtain ⟨r, hr, h1, h2⟩ := run_findK (w := w) k l
  have hz : ∀ w, (zeroValue 118).run Try.prog w = .ok (.agg #[]) w := fun w => Try.zeroValue118 w
  by_cases h : k ∈ l
  · obtain ⟨j, rfl⟩ := h1 h
    simp [Instr.lookup, run_underlying Try.underlying117, MapKept.run_getObj_map hb, run_checkKeyK, hr, Result.andThen, h]
  · obtain rfl := h2 h
    simp [Instr.lookup, run_underlying Try.underlying117, MapKept.run_getObj_map hb, run_checkKeyK, hr, Result.andThen, h, hz]
end
section
variable {T : Nat → Prop} {w0 w : World} {rs : List Res}
theorem InvT.setObj' (h : InvT T w0 rs w) {i g : Nat} {o : Obj} (hi : rs[i]? = some (.obj g o)) (o' : Obj) : InvT T w0 (rs.set i (.obj g o')) (setBlock w g o') := by
  have hb : w.heap[g]? = some o := h.ok i _ hi
  have hlt : g < w.heap.size := (Array.getElem?_eq_some_iff.1 hb).1
  have hs : (setBlock w g o').heap[g]? = some o' := by simp [setBlock, hlt]
  exact h.turn (r' := .obj g o') hi (row := some g) ⟨rfl, rfl, rfl, by simp [setBlock], fun k _ hk => by
    have : ¬ g = k := fun e => hk (by rw [e])
    simp [setBlock, Array.getElem?_setIfInBounds, this]⟩ (fun k hk => .inl hk) hs fun k hk => .inl hk
variable {o : Oper} {a : Act} {K : Act → World → Prop} {Q : Exit → Act → World → Prop}
theorem wpI_keyLook (m x : Operand) (ho : o.op = .lookup 117 m x true) (hI : InvT T w0 rs w) {g : Nat} (hm : a.eval m = .map (some g)) (i : Nat) {l : List Key} (hi : rs[i]? = some (.obj g (setKO l))) (k : Key) (hx : a.eval x = .agg #[.int .i64 k.perm, .int .i64 k.base, .int .i64 k.len, .int .i64 k.pos, .int .i64 k.tag])
    (h : K (a.put o.dst (.tuple #[.agg #[], .bool (decide (k ∈ l))])) w) : o.wp Try.prog a w K Q := by
  have hr := run_lookK l (show w.heap[g]? = some (setKO l) from hI.ok i _ hi) k
  unfold Oper.wp execOp
  simp only [ho, hm, hx, Sem.run_bind, Sem.run_pure, Result.andThen_ok, hr]
  exact h
theorem takes_lookK {m x : Operand} (ho : o.op = .lookup 117 m x true) {g : Nat} (hm : a.eval m = .map (some g)) {k : Key} (hx : a.eval x = .agg #[.int .i64 k.perm, .int .i64 k.base, .int .i64 k.len, .int .i64 k.pos, .int .i64 k.tag]) {l : List Key} (hb : w.heap[g]? = some (setKO l)) : (execOp a.eval o).run Try.prog w = .ok (.value (.tuple #[.agg #[], .bool (decide (k ∈ l))])) w := by
  unfold execOp
  simp only [ho, hm, hx, Sem.run_bind, Sem.run_pure, Result.andThen_ok, run_lookK l hb k]
theorem wpI_keyIns (m x y : Operand) (ho : o.op = .mapUpdate 117 m x y) (hI : InvT T w0 rs w) {g : Nat} (hm : a.eval m = .map (some g)) (i : Nat) {l : List Key} (hi : rs[i]? = some (.obj g (setKO l))) (k : Key) (hx : a.eval x = .agg #[.int .i64 k.perm, .int .i64 k.base, .int .i64 k.len, .int .i64 k.pos, .int .i64 k.tag]) (hy : a.eval y = .agg #[]) (hn : ¬ k ∈ l)
    (h : ∀ w', InvT T w0 (rs.set i (.obj g (setKO (l ++ [k])))) w' → K (a.put o.dst undef) w') : o.wp Try.prog a w K Q := by
  have hb : w.heap[g]? = some (.map (setKL l 0).toArray l.length) := hI.ok i _ hi
  obtain ⟨r, hr, _, h2⟩ := run_findK (w := w) k l
  obtain rfl := h2 hn
  have hr : (Instr.mapUpdate 117 (.map (some g)) (.agg #[.int .i64 k.perm, .int .i64 k.base, .int .i64 k.len, .int .i64 k.pos, .int .i64 k.tag]) (.agg #[])).run Try.prog w = .ok () (setBlock w g (setKO (l ++ [k]))) := by
    have e : setKO (l ++ [k]) = .map ((setKL l 0).toArray.push ⟨.agg #[.int .i64 k.perm, .int .i64 k.base, .int .i64 k.len, .int .i64 k.pos, .int .i64 k.tag], .agg #[], l.length⟩) (l.length + 1) := by
      unfold setKO
      rw [setKL_snoc, List.push_toArray, List.length_append, Nat.zero_add]; rfl
    rw [e]
    simp [Instr.mapUpdate, run_underlying Try.underlying117, MapKept.run_getObj_map hb, run_checkKeyK, hr, MapKept.run_setObj_map _ hb, Result.andThen, setBlock]
  unfold Oper.wp execOp
  simp only [ho, hm, hx, hy, Sem.run_bind, Sem.run_pure, Result.andThen_ok, hr]
  exact h _ (hI.setObj' hi _)
theorem wpI_keyMap (ho : o.op = .makeMap 117 none) (hI : InvT T w0 rs w) (h : ∀ g w', InvT T w0 (rs ++ [.obj g (setKO [])]) w' → Below w.heap.size w w' → K (a.put o.dst (.map (some g))) w') : o.wp Try.prog a w K Q :=
  wpI_makeMap _ ho hI h
/-- an iterator over such a set: the places seen so far -/
def iterO (g : Nat) (l : List Key) (sn : Array Nat) : Obj := .mapIter (some g) l.length sn l.length
theorem wpI_keyRange (x : Operand) (ho : o.op = .range 117 x) (hI : InvT T w0 rs w) {g : Nat} (hx : a.eval x = .map (some g)) (i : Nat) {l : List Key} (hi : rs[i]? = some (.obj g (setKO l)))
    (h : ∀ r w', InvT T w0 (rs ++ [.obj r (iterO g l #[])]) w' → Below w.heap.size w w' → K (a.put o.dst (.pointer (some ⟨r, 0, none⟩))) w') : o.wp Try.prog a w K Q := by
  have hb : w.heap[g]? = some (.map (setKL l 0).toArray l.length) := hI.ok i _ hi
  have hr := run_range_map w _ _ _ g _ _ Try.underlying117 hb
  unfold Oper.wp execOp
  simp only [ho, hx, Sem.run_bind, Sem.run_pure, Result.andThen_ok, hr]
  exact h _ _ (hI.allocObj _) ((Below.refl _ _).alloc (Nat.le_refl _) _)
theorem wpI_keyNext (x : Operand) (ho : o.op = .next x false) (hI : InvT T w0 rs w) {r : Nat} (hx : a.eval x = .pointer (some ⟨r, 0, none⟩)) (i j : Nat) {g : Nat} {l : List Key} {sn : Array Nat} (hi : rs[i]? = some (.obj g (setKO l))) (hj : rs[j]? = some (.obj r (iterO g l sn)))
    (h1 : (∀ p, p < l.length → p ∈ sn) → K (a.put o.dst (.tuple #[.bool false])) w)
    (h2 : ∀ p k w', l[p]? = some k → ¬ p ∈ sn → InvT T w0 (rs.set j (.obj r (iterO g l (sn.push p)))) w' → K (a.put o.dst (.tuple #[.bool true, .agg #[.int .i64 k.perm, .int .i64 k.base, .int .i64 k.len, .int .i64 k.pos, .int .i64 k.tag], .agg #[]])) w') : o.wp Try.prog a w K Q := by
  have hb : w.heap[g]? = some (.map (setKL l 0).toArray l.length) := hI.ok i _ hi
  have hr : w.heap[r]? = some (.mapIter (some g) l.length sn l.length) := hI.ok j _ hj
  unfold Oper.wp execOp
  rcases run_next_at (P := Try.prog) w o.type r g l.length l.length sn _ _ hr hb (fun x hx => by
      obtain ⟨p, k, hp, rfl⟩ := setKL_mem (by simpa using hx)
      exact (List.getElem?_eq_some_iff.1 hp).1) (Nat.le_refl _) with ⟨h0, hrun⟩ | ⟨e, he, w1, hw1, hrun⟩
  · simp only [ho, hx, Sem.run_bind, Sem.run_pure, Result.andThen_ok, hrun]
    refine h1 fun p hp => ?_
    by_cases hm : p ∈ sn
    · exact hm
    · exfalso
      obtain ⟨kk, hk⟩ : ∃ kk, l[p]? = some kk := ⟨_, List.getElem?_eq_getElem hp⟩
      have hmem : (⟨.agg #[.int .i64 kk.perm, .int .i64 kk.base, .int .i64 kk.len, .int .i64 kk.pos, .int .i64 kk.tag], .agg #[], p⟩ : MapEntry) ∈ leftOf (setKL l 0).toArray sn := by
        unfold leftOf
        rw [Array.mem_filter]
        refine ⟨?_, by simpa using hm⟩
        rw [List.mem_toArray]
        refine List.mem_of_getElem? (i := p) ?_
        rw [setKL_at, hk, Nat.zero_add]; rfl
      have := Array.size_pos_of_mem hmem
      omega
  · simp only [ho, hx, Sem.run_bind, Sem.run_pure, Result.andThen_ok, hrun]
    have he' := he
    unfold leftOf at he
    rw [← Array.mem_def, Array.mem_filter, List.mem_toArray] at he
    obtain ⟨p, k, hp, rfl⟩ := setKL_mem he.1
    refine h2 p k _ hp (by simpa using he.2) ?_
    have hI1 : InvT T w0 rs w1 := by
      rcases hw1 with rfl | rfl
      · exact hI
      · exact hI.drew
    exact hI1.setObj' hj _
theorem wpI_keyEntry (x : Operand) (ho : o.op = .entry x) (hI : InvT T w0 rs w) {r : Nat} (hx : a.eval x = .pointer (some ⟨r, 0, none⟩)) (i j : Nat) {g p : Nat} {l : List Key} {sn : Array Nat} (hi : rs[i]? = some (.obj g (setKO l))) (hj : rs[j]? = some (.obj r (iterO g l (sn.push p)))) {k : Key} (hk : l[p]? = some k)
    (h : K (a.put o.dst (.tuple #[.agg #[.int .i64 k.perm, .int .i64 k.base, .int .i64 k.len, .int .i64 k.pos, .int .i64 k.tag], .agg #[]])) w) : o.wp Try.prog a w K Q := by
  have hb : w.heap[g]? = some (.map (setKL l 0).toArray l.length) := hI.ok i _ hi
  have hr : w.heap[r]? = some (.mapIter (some g) l.length (sn.push p) l.length) := hI.ok j _ hj
  have hrun := run_entry_at (P := Try.prog) w r g l.length sn _ l.length ⟨.agg #[.int .i64 k.perm, .int .i64 k.base, .int .i64 k.len, .int .i64 k.pos, .int .i64 k.tag], .agg #[], p⟩ hr hb (by
    refine List.mem_of_getElem? (i := p) ?_
    show (setKL l 0)[p]? = _
    rw [setKL_at, hk, Nat.zero_add]; rfl) (by
    show ((setKL l 0).map (·.born)).Nodup
    rw [setKL_born]; exact List.nodup_range')
  unfold Oper.wp execOp
  simp only [ho, hx, Sem.run_bind, Sem.run_pure, Result.andThen_ok, hrun]
  exact h
end
end Go.Proofs.Ythdlfepakkihnaa
