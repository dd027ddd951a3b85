/- What the parts say: Maps of the call's own whose entries are known, keys strings: made, written, read. Conditions: none. -/
import Derived.Test.YthmpnnfejghhfaaGreatDoorP15
import Derived.ChangeMaps4
import Derived.ChangeMaps5
import Derived.Carry
import Derived.Test.YthmpnnfejghhfaaGreatDoorP12
import Derived.Test.YthmpnnfejghhfaaGreatDoorP14
set_option linter.unusedVariables false
set_option linter.unusedSimpArgs false
namespace Go.Proofs.YthmpnnfejghhfaaGreatDoor
theorem az64 {P : Prop} (h : P := by
  unfold Oper.wp execOp
  simp only [ho, hm, hx, hv, Sem.run_bind, Sem.run_pure, Result.andThen_ok, hr]
  exact h _ (hI.setObj hi _)) : P := h
theorem az67 {P : Prop} (h : P := by
  have hlt : e.on < L0.size := by
    rcases Nat.lt_or_ge e.on L0.size with h3 | h3
    · exact h3
    · simp [Array.getElem?_eq_none h3] at h2
  refine hdone (fun hI => ?_) h2
  have := hIL0 _ hI
  rw [getD_lt hlt true false, h2] at this
  cases this) : P := h
theorem am179 {P Q : Prop} (k : Q) (h : Hq Q → P := by (intro k_; (refine tg 0 ?_; (try simp only [np, Act.put])); (refine tg 1 ?_; (try simp only [np, Act.put])); (refine tg 3 ?_; (try simp only [np, Act.put])); exact k_.out)) : P := h ⟨k⟩
open Go.RowKit Go.MapKept Go.ChangeMaps
set_option maxRecDepth 100000
theorem ba_beq (s : ByteArray) : (s == s) = true := by
  cases s with | mk d => exact beq_self_eq_true d
section
variable {T : Nat → Prop} {w0 w : World} {rs : List Res}
theorem InvT.allocObj (h : InvT T w0 rs w) (o : Obj) : InvT T w0 (rs ++ [.obj w.heap.size o]) (w.alloc o) :=
  h.more ((Below.refl _ _).alloc (Nat.le_refl _) _) (MapKept.heap_alloc w o).1 fun k hk => by cases hk; exact Nat.le_refl _
theorem InvT.setObj (h : InvT T w0 rs w) {i g : Nat} {es : Array MapEntry} {clock : Nat} (hi : rs[i]? = some (.obj g (.map es clock))) (o : Obj) : InvT T w0 (rs.set i (.obj g o)) (setBlock w g o) := by
  have hb : w.heap[g]? = some (.map es clock) := h.ok i _ hi
  exact h.turn (r' := .obj g o) hi (row := some g) ⟨rfl, rfl, rfl, by simp [setBlock], fun k _ hk => heap_setBlock_other hb _ (fun e => hk (by rw [e]))⟩ (fun k hk => .inl hk) (heap_setBlock_same hb _) fun k hk => .inl hk
end
section
variable {P : Program} {o : Oper} {a : Act} {T : Nat → Prop} {w0 w : World} {rs : List Res} {K : Act → World → Prop} {Q : Exit → Act → World → Prop}
theorem wpI_makeMap (t : TypeId) (ho : o.op = .makeMap t none) (hI : InvT T w0 rs w) (h : ∀ g w', InvT T w0 (rs ++ [.obj g (.map #[] 0)]) w' → Below w.heap.size w w' → K (a.put o.dst (.map (some g))) w') : o.wp P a w K Q := by
  unfold Oper.wp execOp
  simp only [ho, Sem.run_bind, Sem.run_pure, Result.andThen_ok, Option.map_none, run_makeMap]
  exact h _ _ (hI.allocObj _) ((Below.refl _ _).alloc (Nat.le_refl _) _)
theorem wpI_insNew (t : TypeId) (m x y : Operand) (ho : o.op = .insert t m x y) {kt e : TypeId} (ht : P.underlying t = some (.map kt e)) (hk : P.underlying kt = some .string) (hI : InvT T w0 rs w) {g : Nat} (hm : a.eval m = .map (some g)) (i : Nat) {es : Array MapEntry} {clock : Nat} (hi : rs[i]? = some (.obj g (.map es clock)))
    {s : ByteArray} {v : Value} (hx : a.eval x = .string s) (hv : a.eval y = v) (hf : Instr.findNow .string (.string s) es.toList 0 = some none) (h : ∀ w', InvT T w0 (rs.set i (.obj g (.map (es.push ⟨.string s, v, clock⟩) (clock + 1)))) w' → K (a.put o.dst undef) w') : o.wp P a w K Q := by
  have hb : w.heap[g]? = some (.map es clock) := hI.ok i _ hi
  have hr : (Instr.mapUpdate t (.map (some g)) (.string s) v).run P w = .ok () (setBlock w g (.map (es.push ⟨.string s, v, clock⟩) (clock + 1))) := by
    simp [Instr.mapUpdate, run_underlying ht, MapKept.run_getObj_map hb, run_checkKey hk (show IsKey .string (.string s) from trivial), run_findKey hk hf, MapKept.run_setObj_map _ hb, Result.andThen, setBlock]
  exact az64
theorem wpI_mapOld (t : TypeId) (m x y : Operand) (ho : o.op = .mapUpdate t m x y) {kt e : TypeId} (ht : P.underlying t = some (.map kt e)) (hk : P.underlying kt = some .string) (hI : InvT T w0 rs w) {g : Nat} (hm : a.eval m = .map (some g)) (i : Nat) {es : Array MapEntry} {clock : Nat} (hi : rs[i]? = some (.obj g (.map es clock)))
    {s : ByteArray} {v u : Value} {j : Nat} (hx : a.eval x = .string s) (hv : a.eval y = v) (hf : Instr.findNow .string (.string s) es.toList 0 = some (some (j, u))) (hj : (es[j]?).map (·.key) = some (.string s)) {es' : Array MapEntry} (he : es.modify j (fun e => { e with key := .string s, val := v }) = es')
    (h : ∀ w', InvT T w0 (rs.set i (.obj g (.map es' clock))) w' → K (a.put o.dst undef) w') : o.wp P a w K Q := by
  subst he
  have hb : w.heap[g]? = some (.map es clock) := hI.ok i _ hi; have hst : (Instr.keyThatStays (.string s) (.string s)).run P w = .ok (.string s) w := (by simp [Instr.keyThatStays, Instr.sameBits, ba_beq s])
  have hr : (Instr.mapUpdate t (.map (some g)) (.string s) v).run P w = .ok () (setBlock w g (.map (es.modify j (fun e => { e with key := .string s, val := v })) clock)) := by
    simp [Instr.mapUpdate, run_underlying ht, MapKept.run_getObj_map hb, run_checkKey hk (show IsKey .string (.string s) from trivial), run_findKey hk hf, MapKept.run_setObj_map _ hb, Result.andThen, setBlock, hj, hst]
  exact az64
theorem run_lookS (t : TypeId) {kt e : TypeId} (ht : P.underlying t = some (.map kt e)) (hk : P.underlying kt = some .string) {g : Nat} {es : Array MapEntry} {clock : Nat} (hb : w.heap[g]? = some (.map es clock)) {s : ByteArray} {u : Value} {j : Nat} (hf : Instr.findNow .string (.string s) es.toList 0 = some (some (j, u))) :
    (Instr.lookup t (.map (some g)) (.string s) false).run P w = .ok u w := by
  simp [Instr.lookup, run_underlying ht, MapKept.run_getObj_map hb, run_checkKey hk (show IsKey .string (.string s) from trivial), run_findKey hk hf, Result.andThen]
theorem wpI_look (t : TypeId) (m x : Operand) (ho : o.op = .lookup t m x false) {kt e : TypeId} (ht : P.underlying t = some (.map kt e)) (hk : P.underlying kt = some .string) (hI : InvT T w0 rs w) {g : Nat} (hm : a.eval m = .map (some g)) (i : Nat) {es : Array MapEntry} {clock : Nat} (hi : rs[i]? = some (.obj g (.map es clock)))
    {s : ByteArray} {u : Value} {j : Nat} (hx : a.eval x = .string s) (hf : Instr.findNow .string (.string s) es.toList 0 = some (some (j, u))) (h : K (a.put o.dst u) w) : o.wp P a w K Q := by
  have hr := run_lookS (P := P) t ht hk (show w.heap[g]? = some (.map es clock) from hI.ok i _ hi) hf
  unfold Oper.wp execOp
  simp only [ho, hm, hx, Sem.run_bind, Sem.run_pure, Result.andThen_ok, hr]
  exact h
end
end Go.Proofs.YthmpnnfejghhfaaGreatDoor
namespace Go.Proofs.YthmpnnfejghhfaaGreatDoor
open Go.RowKit Go.MapKept Go.ChangeMaps
set_option maxRecDepth 100000

section
variable {P : Program} {ops : Array Oper} {rest : List Oper} {a : Act} {w : World} {Q : Exit → Act → World → Prop} {d : Option Tmp} {t ty : TypeId} {x y : Operand} {ps : String} {g : Option (Nat × Bool)} {af : Array Edge}
theorem at_alloc (h : wpList P ops Q (⟨d, .alloc ty, t, ps, af, g⟩ :: rest) a w) : wpList P ops Q (⟨d, .alloc ty, t, ps, af, g⟩ :: rest) a w := h
theorem at_box (h : wpList P ops Q (⟨d, .box ty x, t, ps, af, g⟩ :: rest) a w) : wpList P ops Q (⟨d, .box ty x, t, ps, af, g⟩ :: rest) a w := h
theorem at_store (h : wpList P ops Q (⟨d, .store ty x y, t, ps, af, g⟩ :: rest) a w) : wpList P ops Q (⟨d, .store ty x y, t, ps, af, g⟩ :: rest) a w := h
theorem at_load (h : wpList P ops Q (⟨d, .load ty x, t, ps, af, g⟩ :: rest) a w) : wpList P ops Q (⟨d, .load ty x, t, ps, af, g⟩ :: rest) a w := h
end
def left (I : List Nat) (listed : Array Bool) : Nat := I.countP fun i => !listed.getD i true
theorem left_set {I : List Nat} (hn : I.Nodup) {listed : Array Bool} {i : Nat} (hi : i ∈ I) (hl : listed.getD i true = false) : left I (listed.setIfInBounds i true) + 1 = left I listed := by
  have hsz : i < listed.size := by
    rcases Nat.lt_or_ge i listed.size with h | h
    · exact h
    · simp [Array.getElem?_eq_none h] at hl
  have hself : (listed.setIfInBounds i true).getD i true = true := (by simp [hsz])
  induction I with
  | nil => cases hi
  | cons j I ih =>
    unfold left at *
    rw [List.countP_cons, List.countP_cons]
    rw [List.nodup_cons] at hn
    rcases List.mem_cons.1 hi with rfl | hi
    · have hrest : I.countP (fun k => !(listed.setIfInBounds i true).getD k true) = I.countP (fun k => !listed.getD k true) := by
        refine List.countP_congr fun k hk => ?_
        rw [getD_set_ne true (i := i) (j := k) (fun e => hn.1 (by rw [e]; exact hk))]
      rw [hrest, hself, hl]
      simp
    · have hji : i ≠ j := fun e => hn.1 (e ▸ hi)
      have := ih hn.2 hi
      rw [getD_set_ne true hji]
      omega
section
variable {P : Program} {ops : Array Oper} {Q : Exit → Act → World → Prop} {md : Region.Mode} {S : World → Prop}
theorem phaseH {I : List Nat} (hn : I.Nodup) (c : Nat) (E : Array Bool → Prop) (G : Array Bool → Act → World → Prop)
    (fin : ∀ k listed a w, G listed a w → E listed → left I listed = k → wpAnyH P md ops Q S (k + c) listed a w)
    (step : ∀ listed a w, G listed a w → ¬ E listed → Region.ready md ops listed ≠ [] ∧ ∀ i ∈ Region.ready md ops listed, i ∈ I ∧ wpOp P ops Q i (fun a' w' => S w' ∧ G (listed.setIfInBounds i true) a' w') a w) :
    ∀ k listed a w, G listed a w → left I listed = k → wpAnyH P md ops Q S (k + c) listed a w := by
  intro k
  induction k with
  | zero =>
    intro listed a w hG hk
    by_cases hE : E listed
    · exact fin 0 listed a w hG hE hk
    · obtain ⟨hne, hall⟩ := step listed a w hG hE
      exfalso
      obtain ⟨i, hi⟩ : ∃ i, i ∈ Region.ready md ops listed := List.exists_mem_of_ne_nil _ hne
      have := left_set hn (hall i hi).1 (mem_ready.1 hi).1
      omega
  | succ k ih =>
    intro listed a w hG hk
    by_cases hE : E listed
    · exact fin (k + 1) listed a w hG hE hk
    · obtain ⟨hne, hall⟩ := step listed a w hG hE
      rw [show k + 1 + c = (k + c) + 1 by omega]
      refine ⟨fun h => absurd h hne, fun i hi => ?_⟩; obtain ⟨hiI, hop⟩ := hall i hi; have hl := left_set hn hiI (mem_ready.1 hi).1
      exact wpOp_mono (fun a' w' h => ⟨h.1, ih _ a' w' h.2 (by omega)⟩) hop
theorem phaseStep {i : Nat} {o : Oper} {a : Act} {w : World} {R : Act → World → Prop} (hi : ops[i]? = some o) (hg : o.guard = none) (h : ∀ K : Act → World → Prop, (∀ a w, R a w → K a w) → o.wp P a w K Q) : wpOp P ops Q i R a w := by
  unfold wpOp
  rw [hi]
  simp only [Region.wanted, hg, if_true]
  exact .inl (h R fun _ _ h => h)
end
def Finds (es : Array MapEntry) (f : Int → Option Value) : Prop := ∀ k : Int, ∃ r : Option (Nat × Value), Instr.findNow (.int .i64) (.int .i64 k) es.toList 0 = some r ∧ r.map (·.2) = f k
theorem Finds.empty : Finds #[] fun _ => none := fun k => ⟨none, rfl, rfl⟩
theorem findNow_snoc (k k0 : Int) (v0 : Value) (b : Nat) : ∀ (es : List MapEntry) (n : Nat) (r : Option (Nat × Value)), Instr.findNow (.int .i64) (.int .i64 k) es n = some r →
    Instr.findNow (.int .i64) (.int .i64 k) (es ++ [⟨.int .i64 k0, v0, b⟩]) n = some (match r with | some x => some x | none => if k = k0 then some (n + es.length, v0) else none)
  | [], n, r, h => by
    cases h
    by_cases hk : k = k0
    · subst hk; simp [Instr.findNow, Instr.sameNow]
    · have : (k == k0) = false := by simpa using hk
      simp [Instr.findNow, Instr.sameNow, hk, this]
  | e :: es, n, r, h => by
    rw [List.cons_append]
    unfold Instr.findNow at h ⊢
    split at h
    · rename_i hs; cases h; rfl
    · rename_i hs
      have := findNow_snoc k k0 v0 b es (n + 1) r h
      rw [this]
      simp [Nat.add_comm, Nat.add_left_comm]
    · cases h
theorem Finds.push {es : Array MapEntry} {f : Int → Option Value} (h : Finds es f) (k0 : Int) (v0 : Value) (b : Nat) (hk : f k0 = none) : Finds (es.push ⟨.int .i64 k0, v0, b⟩) fun k => if k = k0 then some v0 else f k := fun k => by
  obtain ⟨r, hr, hf⟩ := h k
  have := findNow_snoc k k0 v0 b es.toList 0 r hr
  rw [Array.toList_push]
  refine ⟨_, this, ?_⟩
  dsimp only
  by_cases hk0 : k = k0
  · subst hk0
    rw [if_pos rfl]
    cases r with
    | none => simp
    | some x => rw [← hf] at hk; cases hk
  · rw [if_neg hk0, ← hf]
    cases r with
    | none => simp [hk0]
    | some x => simp [hk0]
theorem Finds.none_ {es : Array MapEntry} {f : Int → Option Value} (h : Finds es f) {k : Int} (hk : f k = none) : Instr.findNow (.int .i64) (.int .i64 k) es.toList 0 = some none := by
  obtain ⟨r, hr, hf⟩ := h k
  cases r with
  | none => exact hr
  | some x => rw [hk] at hf; cases hf
section
variable {P : Program} {o : Oper} {a : Act} {T : Nat → Prop} {w0 w : World} {rs : List Res} {K : Act → World → Prop} {Q : Exit → Act → World → Prop}
theorem wpI_insInt (t : TypeId) (m x y : Operand) (ho : o.op = .insert t m x y) {kt e : TypeId} (ht : P.underlying t = some (.map kt e)) (hk : P.underlying kt = some (.int .i64)) (hI : InvT T w0 rs w) {g : Nat} (hm : a.eval m = .map (some g)) (i : Nat) {es : Array MapEntry} {clock : Nat} (hi : rs[i]? = some (.obj g (.map es clock)))
    {s : Int} {v : Value} (hx : a.eval x = .int .i64 s) (hv : a.eval y = v) (hf : Instr.findNow (.int .i64) (.int .i64 s) es.toList 0 = some none) (h : ∀ w', InvT T w0 (rs.set i (.obj g (.map (es.push ⟨.int .i64 s, v, clock⟩) (clock + 1)))) w' → K (a.put o.dst undef) w') : o.wp P a w K Q := by
  have hb : w.heap[g]? = some (.map es clock) := hI.ok i _ hi
  have hr : (Instr.mapUpdate t (.map (some g)) (.int .i64 s) v).run P w = .ok () (setBlock w g (.map (es.push ⟨.int .i64 s, v, clock⟩) (clock + 1))) := by
    simp [Instr.mapUpdate, run_underlying ht, MapKept.run_getObj_map hb, run_checkKey hk (show IsKey (.int .i64) (.int .i64 s) from rfl), run_findKey hk hf, MapKept.run_setObj_map _ hb, Result.andThen, setBlock]
  exact az64
theorem wpI_lookInt (t : TypeId) (m x : Operand) (ho : o.op = .lookup t m x false) {kt e : TypeId} (ht : P.underlying t = some (.map kt e)) (hk : P.underlying kt = some (.int .i64)) {z : Value} (hz : ∀ w, (zeroValue e).run P w = .ok z w) (hI : InvT T w0 rs w) {g : Nat} (hm : a.eval m = .map (some g)) (i : Nat) {es : Array MapEntry} {clock : Nat} (hi : rs[i]? = some (.obj g (.map es clock)))
    {s : Int} {f : Int → Option Value} (hx : a.eval x = .int .i64 s) (hf : Finds es f) (h : K (a.put o.dst ((f s).getD z)) w) : o.wp P a w K Q := by
  have hb : w.heap[g]? = some (.map es clock) := hI.ok i _ hi; obtain ⟨r, hr, hfs⟩ := hf s
  have hl : (Instr.lookup t (.map (some g)) (.int .i64 s) false).run P w = .ok ((f s).getD z) w := by
    rw [← hfs]
    cases r with
    | none => simp [Instr.lookup, run_underlying ht, MapKept.run_getObj_map hb, run_checkKey hk (show IsKey (.int .i64) (.int .i64 s) from rfl), run_findKey hk hr, Result.andThen, hz]
    | some x => simp [Instr.lookup, run_underlying ht, MapKept.run_getObj_map hb, run_checkKey hk (show IsKey (.int .i64) (.int .i64 s) from rfl), run_findKey hk hr, Result.andThen]
  unfold Oper.wp execOp
  simp only [ho, hm, hx, Sem.run_bind, Sem.run_pure, Result.andThen_ok, hl]
  exact h
end
def entF (ins : List (Nat × Int × Value)) (listed : Array Bool) (k : Int) : Option Value := (ins.find? fun x => x.2.1 == k && listed.getD x.1 false).map (·.2.2)
theorem entF_none {ins : List (Nat × Int × Value)} {listed : Array Bool} {x : Nat × Int × Value} (hn : (ins.map (·.2.1)).Nodup) (hx : x ∈ ins) (hl : listed.getD x.1 false = false) : entF ins listed x.2.1 = none := by
  unfold entF
  rw [Option.map_eq_none_iff, List.find?_eq_none]
  intro y hy h
  rw [Bool.and_eq_true, beq_iff_eq] at h
  have : y = x := by
    clear hl
    induction ins with
    | nil => cases hx
    | cons z ins ih =>
      rw [List.map_cons, List.nodup_cons] at hn
      rcases List.mem_cons.1 hx with hx1 | hx1 <;> rcases List.mem_cons.1 hy with hy1 | hy1
      · rw [hx1, hy1]
      · exact absurd (List.mem_map.2 ⟨y, hy1, by rw [h.1, hx1]⟩) hn.1
      · exact absurd (List.mem_map.2 ⟨x, hx1, by rw [← h.1, hy1]⟩) hn.1
      · exact ih hn.2 hx1 hy1
  subst this
  rw [hl] at h
  exact absurd h.2 (by simp)
theorem getD_set_self {listed : Array Bool} {i : Nat} (h : i < listed.size) (d : Bool) : (listed.setIfInBounds i true).getD i d = true := by simp [h]
theorem entF_set {ins : List (Nat × Int × Value)} {listed : Array Bool} {x : Nat × Int × Value} (hn : (ins.map (·.2.1)).Nodup) (hn1 : (ins.map (·.1)).Nodup) (hx : x ∈ ins) (hs : x.1 < listed.size) : (fun k => if k = x.2.1 then some x.2.2 else entF ins listed k) = entF ins (listed.setIfInBounds x.1 true) := by
  funext k
  unfold entF
  induction ins with
  | nil => cases hx
  | cons z ins ih =>
    rw [List.map_cons, List.nodup_cons] at hn hn1
    rw [List.find?_cons, List.find?_cons]
    rcases List.mem_cons.1 hx with rfl | hx
    · by_cases hk : k = x.2.1
      · subst hk
        rw [if_pos rfl, getD_set_self hs, beq_self_eq_true]
        rfl
      · have hk' : (x.2.1 == k) = false := (by simpa using fun e : x.2.1 = k => hk e.symm)
        rw [if_neg hk, hk']
        simp only [Bool.false_and]
        congr 1
        have : ∀ l : List (Nat × Int × Value), (∀ y ∈ l, y.1 ≠ x.1) → l.find? (fun x => x.2.1 == k && listed.getD x.1 false) = l.find? (fun y => y.2.1 == k && (listed.setIfInBounds x.1 true).getD y.1 false) := fun l hl => by
          induction l with
          | nil => rfl
          | cons y l ihl =>
            rw [List.find?_cons, List.find?_cons, getD_set_ne false (fun e => hl y (by simp) e.symm), ihl fun u hu => hl u (by simp [hu])]
        exact this ins fun y hy e => hn1.1 (List.mem_map.2 ⟨y, hy, e⟩)
    · have hzx : z.1 ≠ x.1 := fun e => hn1.1 (List.mem_map.2 ⟨x, hx, e.symm⟩)
      rw [getD_set_ne false (Ne.symm hzx)]
      have hi := ih hn.2 hn1.2 hx
      by_cases hk : k = x.2.1
      · have hzk : (z.2.1 == k) = false := by
          simpa using fun e : z.2.1 = k => hn.1 (List.mem_map.2 ⟨x, hx, by rw [← hk, e]⟩)
        rw [hzk]
        simpa using hi
      · rw [if_neg hk] at hi ⊢
        cases z.2.1 == k && listed.getD z.1 false
        · exact hi
        · rfl
theorem put_getD (a : Act) (d j : Nat) (v : Value) (h : j ≠ d) : (a.put (some d) v).eval (.tmp j) = a.eval (.tmp j) := by
  simp [Act.put, Act.eval, Array.getElem?_setIfInBounds_ne (Ne.symm h)]
theorem put_self (a : Act) (d : Nat) (v : Value) (h : d < a.tmps.size) : (a.put (some d) v).eval (.tmp d) = v := by
  simp [Act.put, Act.eval, h]
def stAct (a1 : Act) (dp dl dq : Nat) (m v p : Value) (lp ll lq : Bool) : Act :=
  match lp, ll, lq with
  | false, _, false => a1
  | false, _, true => a1.put (some dq) p
  | true, false, false => a1.put (some dp) m
  | true, false, true => (a1.put (some dp) m).put (some dq) p
  | true, true, false => (a1.put (some dp) m).put (some dl) v
  | true, true, true => ((a1.put (some dp) m).put (some dl) v).put (some dq) p
section
variable {a1 : Act} {dp dl dq : Nat} {m v p : Value}
theorem stAct_eval {j : Nat} (h1 : j ≠ dp) (h2 : j ≠ dl) (h3 : j ≠ dq) (lp ll lq : Bool) : (stAct a1 dp dl dq m v p lp ll lq).eval (.tmp j) = a1.eval (.tmp j) := by
  unfold stAct
  cases lp <;> cases ll <;> cases lq <;> simp only [put_getD _ _ _ _ h1, put_getD _ _ _ _ h2, put_getD _ _ _ _ h3]
theorem stAct_p (h : dp ≠ dq) (lq : Bool) : (stAct a1 dp dl dq m v p false false lq).put (some dp) m = stAct a1 dp dl dq m v p true false lq := by
  unfold stAct
  cases lq
  · rfl
  · exact Act.put_comm a1 p m (by simpa using h)
theorem stAct_l (h : dl ≠ dq) (lq : Bool) : (stAct a1 dp dl dq m v p true false lq).put (some dl) v = stAct a1 dp dl dq m v p true true lq := by
  unfold stAct
  cases lq
  · rfl
  · exact Act.put_comm _ p v (by simpa using h)
theorem stAct_q (lp ll : Bool) : (stAct a1 dp dl dq m v p lp ll false).put (some dq) p = stAct a1 dp dl dq m v p lp ll true := by
  cases lp <;> cases ll <;> rfl
theorem stAct_m (h : dp < a1.tmps.size) (h1 : dp ≠ dl) (h2 : dp ≠ dq) (lq : Bool) : (stAct a1 dp dl dq m v p true false lq).eval (.tmp dp) = m := by
  unfold stAct
  cases lq
  · exact put_self _ _ _ h
  · rw [put_getD _ _ _ _ h2]; exact put_self _ _ _ h
theorem stAct_anyp (p' : Value) (lp ll : Bool) : stAct a1 dp dl dq m v p lp ll false = stAct a1 dp dl dq m v p' lp ll false := by cases lp <;> cases ll <;> rfl
end
def entA (ins : List (Nat × Int × Value)) (k : Int) : Option Value := (ins.find? fun x => x.2.1 == k).map (·.2.2)
theorem entF_all {ins : List (Nat × Int × Value)} {listed : Array Bool} (h : ∀ x ∈ ins, listed.getD x.1 false = true) : entF ins listed = entA ins := by
  funext k
  unfold entF entA
  induction ins with
  | nil => rfl
  | cons z ins ih =>
    rw [List.find?_cons, List.find?_cons, h z (by simp), Bool.and_true]
    cases z.2.1 == k
    · exact ih fun x hx => h x (by simp [hx])
    · rfl
theorem getD_lt {listed : Array Bool} {i : Nat} (h : i < listed.size) (d e : Bool) : listed.getD i d = listed.getD i e := by simp [h]
section
variable {P : Program} {ops : Array Oper} {Q : Exit → Act → World → Prop} {md : Region.Mode} {T : Nat → Prop} {w0 : World} {rsH rs : List Res} {J : List Nat}
set_option maxHeartbeats 1000000 in
theorem mapPhase (ins : List (Nat × Int × Value)) (p l q dp dl dq mt ds : Nat) (L0 L1 : Array Bool) (t kt e zt : TypeId) (z : Value) (zc : Array Value) (s : Int) (a1 : Act) (gm ga0 : Nat) (Iq : List Nat) (q0 : Bool) (hIq : Iq = if q0 then [] else [q]) (hq2 : q ≠ p ∧ q ≠ l ∧ q ∉ ins.map (·.1))
    (hnk : (ins.map (·.2.1)).Nodup) (hni : (p :: l :: (Iq ++ ins.map (·.1))).Nodup)
    (hd : dp ≠ dl ∧ dp ≠ dq ∧ dl ≠ dq ∧ mt ≠ dp ∧ mt ≠ dl ∧ mt ≠ dq ∧ ds ≠ dp ∧ ds ≠ dl ∧ ds ≠ dq) (hsz : dp < a1.tmps.size)
    (ht : P.underlying t = some (.map kt e)) (hk : P.underlying kt = some (.int .i64)) (hz : ∀ w, (zeroValue e).run P w = .ok z w)
    (hm : a1.eval (.tmp mt) = .map (some gm)) (hs : a1.eval (.tmp ds) = .int .i64 s)
    (hins : ∀ x ∈ ins, ∃ o d, ops[x.1]? = some o ∧ o.guard = none ∧ o.dst = none ∧ o.op = .insert t (.tmp mt) (.const (.int .i64 x.2.1)) (.tmp d) ∧ d ≠ dp ∧ d ≠ dl ∧ d ≠ dq ∧ a1.eval (.tmp d) = x.2.2 ∧ (o.after.all fun e => !Region.binds md e || (L0.getD e.on false && !(p :: l :: (Iq ++ ins.map (·.1))).contains e.on)) = true)
    (hp : ∃ o, ops[p]? = some o ∧ o.guard = none ∧ o.dst = some dp ∧ o.op = .move (.tmp mt) ∧ (∀ x ∈ ins, ∃ e ∈ o.after, Region.binds md e = true ∧ e.on = x.1) ∧ (o.after.all fun e => !Region.binds md e || L0.getD e.on false || (ins.map (·.1)).contains e.on) = true)
    (hl : ∃ o, ops[l]? = some o ∧ o.guard = none ∧ o.dst = some dl ∧ o.op = .lookup t (.tmp dp) (.tmp ds) false ∧ (∃ e ∈ o.after, Region.binds md e = true ∧ e.on = p) ∧ (o.after.all fun e => !Region.binds md e || L0.getD e.on false || e.on == p) = true)
    (hq : ∃ o, ops[q]? = some o ∧ o.guard = none ∧ o.dst = some dq ∧ o.op = .alloc zt ∧ o.after = #[])
    {zv : Value} (hzt : ∀ w, (zeroValue zt).run P w = .ok zv w) (hzc : zv.cells = zc)
    (hL : L0.size = ops.size) (hL0 : (∀ x ∈ ins, L0.getD x.1 true = false) ∧ L0.getD p true = false ∧ L0.getD l true = false ∧ L0.getD q true = q0 ∧ q < L0.size)
    (hend : ((List.range ops.size).all fun i => (p :: l :: (Iq ++ ins.map (·.1))).contains i || L0.getD i false || (match ops[i]? with | some o => (o.after.any fun e => Region.binds md e && e.on == l) && (o.after.any fun e => Region.binds md e && e.on == q) | none => true)) = true)
    (hL1 : L1.size = L0.size ∧ ∀ i, i < L0.size → L1.getD i true = ((p :: l :: (Iq ++ ins.map (·.1))).contains i || L0.getD i true))
    (hJ : ∀ i ∈ J, i < rs.length ∧ rs[i]? = rsH[i]?) (c : Nat)
    (fin : ∀ es clock ga w, InvT T w0 (rs ++ [.obj gm (.map es clock), .box ga zt zc]) w → Held T w0 rsH J w →
      wpAnyH P md ops Q (Held T w0 rsH J) c L1 (((a1.put (some dp) (.map (some gm))).put (some dl) ((entA ins s).getD z)).put (some dq) (.pointer (some ⟨ga, 0, none⟩))) w)
    {w : World} (hI : InvT T w0 (rs ++ (.obj gm (.map #[] 0) :: if q0 = true then [.box ga0 zt zc] else [])) w) {n : Nat} (hn : n = ins.length + (2 + Iq.length) + c) :
    wpAnyH P md ops Q (Held T w0 rsH J) n L0 (if q0 = true then a1.put (some dq) (.pointer (some ⟨ga0, 0, none⟩)) else a1) w := by
  subst hn
  obtain ⟨hd1, hd2, hd3, hd4, hd5, hd6, hd7, hd8, hd9⟩ := hd; obtain ⟨hL0i, hL0p, hL0l, hL0q, hqs⟩ := hL0; obtain ⟨hqp, hql, hqn⟩ := hq2
  have hmq : ∀ {i : Nat}, i ∈ Iq → i = q ∧ q0 = false := fun {i} hi => by
    cases h : q0
    · rw [hIq, h] at hi; exact ⟨by simpa using hi, rfl⟩
    · rw [hIq, h] at hi; simp at hi
  have hqI : q0 = false → q ∈ Iq := fun h => by rw [hIq, h]; simp
  have hIL0 : ∀ i ∈ (p :: l :: (Iq ++ ins.map (·.1))), L0.getD i true = false := fun i hi => by
    rcases List.mem_cons.1 hi with rfl | hi
    · exact hL0p
    rcases List.mem_cons.1 hi with rfl | hi
    · exact hL0l
    rcases List.mem_append.1 hi with hi | hi
    · rw [(hmq hi).1, hL0q]; exact (hmq hi).2
    obtain ⟨x, hx, rfl⟩ := List.mem_map.1 hi
    exact hL0i x hx
  have hlt0 : ∀ {i : Nat} {A : Array Bool}, A.getD i true = false → i < A.size := fun {i A} h => by
    rcases Nat.lt_or_ge i A.size with h1 | h1
    · exact h1
    · simp [Array.getElem?_eq_none h1] at h
  let I := p :: l :: (Iq ++ ins.map (·.1))
  let E : Array Bool → Prop := fun listed => listed.getD q true = true ∧ ∀ i ∈ I, listed.getD i true = true
  let v := (entA ins s).getD z
  let G : Array Bool → Act → World → Prop := fun listed a w => listed.size = L0.size ∧ (∀ j, j ∉ I → listed.getD j true = L0.getD j true) ∧ (listed.getD l true = true → listed.getD p true = true) ∧ (listed.getD p true = true → ∀ x ∈ ins, listed.getD x.1 true = true) ∧
    ∃ es clock ga, Finds es (entF ins listed) ∧ a = stAct a1 dp dl dq (.map (some gm)) v (.pointer (some ⟨ga, 0, none⟩)) (listed.getD p true) (listed.getD l true) (listed.getD q true) ∧ InvT T w0 (rs ++ (.obj gm (.map es clock) :: if listed.getD q true = true then [.box ga zt zc] else [])) w
  have hHeld : ∀ {listed a w}, G listed a w → Held T w0 rsH J w := fun {listed a w} hG => by
    obtain ⟨_, _, _, _, es, clock, ga, _, _, hI⟩ := hG; refine hI.held fun i hi => ?_
    rw [List.getElem?_append_left (hJ i hi).1]
    exact (hJ i hi).2
  have key : ∀ k listed a w, G listed a w → left I listed = k → wpAnyH P md ops Q (Held T w0 rsH J) (k + c) listed a w := by
    refine phaseH hni c E G (fun k listed a w hG hE hk => ?_) (fun listed a w hG hE => ?_)
    · -- all have come
      have hk0 : k = 0 := by
        rw [← hk]
        exact List.countP_eq_zero.2 fun i hi => by rw [hE.2 i hi]; simp
      subst hk0
      have hH := hHeld hG; obtain ⟨hsl, hout, _, _, es, clock, ga, _, ha, hI⟩ := hG
      have e1 : listed = L1 := by
        apply Array.ext
        · rw [hsl, hL1.1]
        · intro i h1 h2; have h3 := hL1.2 i (by omega); have e2 : listed.getD i true = listed[i] := (by simp [h1]); have e3 : L1.getD i true = L1[i] := (by simp [h2])
          rw [← e2, ← e3, h3]
          by_cases hi : i ∈ I
          · rw [hE.2 i hi]
            have : I.contains i = true := by simpa using hi
            rw [show (p :: l :: (Iq ++ ins.map (·.1))).contains i = true from this]
            rfl
          · rw [hout i hi]
            have : I.contains i = false := by simpa using hi
            rw [show (p :: l :: (Iq ++ ins.map (·.1))).contains i = false from this]
            simp
      rw [hE.2 p (by simp [I]), hE.2 l (by simp [I]), hE.1] at ha
      rw [hE.1, if_pos rfl] at hI
      subst ha e1
      rw [Nat.zero_add]
      exact fin es clock ga w hI hH
    · obtain ⟨hsl, hout, hlp, hpi, es, clock, ga, hF, ha, hI⟩ := hG
      have hdone : ∀ {j : Nat}, j ∉ I → L0.getD j false = true → listed.getD j false = true := fun {j} hj h => by
        have hjs : j < L0.size := by
          rcases Nat.lt_or_ge j L0.size with h1 | h1
          · exact h1
          · simp [Array.getElem?_eq_none h1] at h
        rw [getD_lt (by omega) false true, hout j hj, getD_lt hjs true false]
        exact h
      constructor
      · -- something may come up
        intro hr
        have no : ∀ i, i ∉ Region.ready md ops listed := fun i => by rw [hr]; simp
        have hall : ∀ x ∈ ins, listed.getD x.1 true = true := fun x hx => by
          cases hx1 : listed.getD x.1 true
          · obtain ⟨o, d, ho, hg, hdst, hop, _, _, _, hv, haf⟩ := hins x hx; refine absurd (mem_ready.2 ⟨hx1, o, ho, fun e he hb => ?_⟩) (no x.1); have h1 := Array.all_eq_true_iff_forall_mem.1 haf e he
            rw [hb] at h1
            simp only [Bool.not_true, Bool.false_or, Bool.and_eq_true, Bool.not_eq_true'] at h1
            exact hdone (by simpa [I] using h1.2) h1.1
          · rfl
        have hpt : listed.getD p true = true := by
          cases hx1 : listed.getD p true
          · obtain ⟨o, ho, hg, hdst, hop, _, haf⟩ := hp; refine absurd (mem_ready.2 ⟨hx1, o, ho, fun e he hb => ?_⟩) (no p); have h1 := Array.all_eq_true_iff_forall_mem.1 haf e he
            rw [hb] at h1
            simp only [Bool.not_true, Bool.false_or, Bool.or_eq_true] at h1
            by_cases hi : e.on ∈ ins.map (·.1)
            · obtain ⟨x, hx, hxe⟩ := List.mem_map.1 hi
              rw [← hxe, getD_lt (by have := hlt0 (hL0i x hx); omega) false true]
              exact hall x hx
            · have h2 : L0.getD e.on false = true := by
                rcases h1 with h1 | h1
                · exact h1
                · exact absurd (by simpa using h1) hi
              exact az67
          · rfl
        have hlt : listed.getD l true = true := by
          cases hx1 : listed.getD l true
          · obtain ⟨o, ho, hg, hdst, hop, _, haf⟩ := hl; refine absurd (mem_ready.2 ⟨hx1, o, ho, fun e he hb => ?_⟩) (no l); have h1 := Array.all_eq_true_iff_forall_mem.1 haf e he
            rw [hb] at h1
            simp only [Bool.not_true, Bool.false_or, Bool.or_eq_true, beq_iff_eq] at h1
            rcases h1 with h2 | h2
            · exact az67
            · rw [h2, getD_lt (by have := hlt0 hL0p; omega) false true]; exact hpt
          · rfl
        have hqt : listed.getD q true = true := by
          cases hx1 : listed.getD q true
          · obtain ⟨o, ho, hg, hdst, hop, haf⟩ := hq; refine absurd (mem_ready.2 ⟨hx1, o, ho, fun e he hb => ?_⟩) (no q)
            rw [haf] at he
            simp at he
          · rfl
        refine hE ⟨hqt, fun i hi => ?_⟩
        rcases List.mem_cons.1 hi with rfl | hi
        · exact hpt
        rcases List.mem_cons.1 hi with rfl | hi
        · exact hlt
        rcases List.mem_append.1 hi with hi | hi
        · rw [(hmq hi).1]; exact hqt
        obtain ⟨x, hx, rfl⟩ := List.mem_map.1 hi
        exact hall x hx
      · intro i hir; obtain ⟨hiu, oi, hoi, hdep⟩ := mem_ready.1 hir; have his := hlt0 hiu
        have hiI : i ∈ I := by
          refine Classical.byContradiction fun hi => ?_; have h1 := List.all_eq_true.1 hend i (List.mem_range.2 (by omega)); have h2 : I.contains i = false := (by simpa using hi)
          have h3 : L0.getD i false = false := by rw [getD_lt (by omega) false true, ← hout i hi]; exact hiu
          rw [show (p :: l :: (Iq ++ ins.map (·.1))).contains i = false from h2, h3, hoi] at h1
          simp only [Bool.false_or, Bool.and_eq_true] at h1; obtain ⟨e1, he1, hb1⟩ := Array.any_eq_true'.1 h1.1; obtain ⟨e2, he2, hb2⟩ := Array.any_eq_true'.1 h1.2
          rw [Bool.and_eq_true, beq_iff_eq] at hb1 hb2
          have hlt := hdep e1 he1 hb1.1; have hqt := hdep e2 he2 hb2.1
          rw [hb1.2, getD_lt (by have := hlt0 hL0l; omega) false true] at hlt
          rw [hb2.2, getD_lt (by omega) false true] at hqt
          refine hE ⟨hqt, fun j hj => ?_⟩
          rcases List.mem_cons.1 hj with rfl | hj
          · exact hlp hlt
          rcases List.mem_cons.1 hj with rfl | hj
          · exact hlt
          rcases List.mem_append.1 hj with hj | hj
          · rw [(hmq hj).1]; exact hqt
          obtain ⟨x, hx, rfl⟩ := List.mem_map.1 hj
          exact hpi (hlp hlt) x hx
        refine ⟨hiI, ?_⟩; have hn1 := List.nodup_cons.1 hni; have hn2 := List.nodup_cons.1 hn1.2; have hn3 := List.nodup_append.1 hn2.2
        have hout' : ∀ j, j ∉ I → (listed.setIfInBounds i true).getD j true = L0.getD j true := fun j hj => by
          rw [getD_set_ne true (i := i) (j := j) (fun e => hj (e ▸ hiI))]; exact hout j hj
        have hset : (listed.setIfInBounds i true).getD i true = true := getD_set_self his true
        have mono : ∀ {j : Nat}, listed.getD j true = true → (listed.setIfInBounds i true).getD j true = true := fun {j} h => by
          by_cases hij : i = j
          · subst hij; exact hset
          · rw [getD_set_ne true hij]; exact h
        have hHW : ∀ {a' w'}, G (listed.setIfInBounds i true) a' w' → Held T w0 rsH J w' ∧ G (listed.setIfInBounds i true) a' w' := fun h => ⟨hHeld h, h⟩; have hpn : p ∉ ins.map (·.1) := fun h => hn1.1 (List.mem_cons_of_mem _ (List.mem_append_right _ h)); have hln : l ∉ ins.map (·.1) := fun h => hn2.1 (List.mem_append_right _ h); have hpl : p ≠ l := fun h => hn1.1 (by rw [h]; exact List.mem_cons_self); have hpq : p ≠ q := Ne.symm hqp; have hlq : l ≠ q := Ne.symm hql
        have hsl' : (listed.setIfInBounds i true).size = L0.size := by rw [Array.size_setIfInBounds]; exact hsl
        have hentS : i ∉ ins.map (·.1) → entF ins (listed.setIfInBounds i true) = entF ins listed := fun hi => by
          funext k
          unfold entF
          congr 1
          have : ∀ u : List (Nat × Int × Value), (∀ y ∈ u, y.1 ≠ i) → u.find? (fun x => x.2.1 == k && (listed.setIfInBounds i true).getD x.1 false) = u.find? (fun x => x.2.1 == k && listed.getD x.1 false) := fun u hu => by
            induction u with
            | nil => rfl
            | cons y u ihu =>
              rw [List.find?_cons, List.find?_cons, getD_set_ne false (fun e => hu y (by simp) e.symm), ihu fun z hz => hu z (by simp [hz])]
          exact this ins fun y hy e => hi (List.mem_map.2 ⟨y, hy, e⟩)
        have hobj : ∀ tl : List Res, (rs ++ (.obj gm (.map es clock) :: tl))[rs.length]? = some (.obj gm (.map es clock)) := fun tl => by
          rw [List.getElem?_append_right (Nat.le_refl _), Nat.sub_self]; rfl
        rcases List.mem_cons.1 hiI with hip | hiI
        · subst hip
          obtain ⟨o, ho, hg, hdst, hop, hafx, _⟩ := hp
          obtain rfl : o = oi := Option.some.inj (ho.symm.trans hoi)
          have hl0 : listed.getD l true = false := by
            cases h : listed.getD l true
            · rfl
            · rw [hlp h] at hiu; cases hiu
          have hall : ∀ x ∈ ins, listed.getD x.1 true = true := fun x hx => by
            obtain ⟨e, he, hb, hex⟩ := hafx x hx
            rw [← hex, getD_lt (by rw [hex]; have := hlt0 (hL0i x hx); omega) true false]
            exact hdep e he hb
          refine phaseStep ho hg fun K hK => ?_
          have hev : a.eval (.tmp mt) = .map (some gm) := by rw [ha, stAct_eval hd4 hd5 hd6]; exact hm
          unfold Oper.wp execOp
          simp only [hop, hdst, Sem.run_bind, Sem.run_pure, Result.andThen_ok, Oper.upon, hev]
          refine hK _ _ (hHW ⟨hsl', hout', fun _ => hset, fun _ x hx => mono (hall x hx), es, clock, ga, ?_, ?_, ?_⟩)
          · rw [hentS hpn]; exact hF
          · rw [ha, hset, getD_set_ne true hpl, getD_set_ne true hpq, hiu, hl0]; exact stAct_p hd2 _
          · rw [getD_set_ne true hpq]; exact hI
        rcases List.mem_cons.1 hiI with hil | hiI
        · subst hil
          obtain ⟨o, ho, hg, hdst, hop, ⟨e, he, hb, hex⟩, _⟩ := hl
          obtain rfl : o = oi := Option.some.inj (ho.symm.trans hoi)
          have hpt : listed.getD p true = true := by
            rw [← hex, getD_lt (by rw [hex]; have := hlt0 hL0p; omega) true false]
            exact hdep e he hb
          have hall : ∀ x ∈ ins, listed.getD x.1 true = true := hpi hpt
          rw [hpt, hiu] at ha
          have hev : a.eval (.tmp dp) = .map (some gm) := by rw [ha]; exact stAct_m hsz hd1 hd2 _
          have hes : a.eval (.tmp ds) = .int .i64 s := by rw [ha, stAct_eval hd7 hd8 hd9]; exact hs
          have hFA : Finds es (entA ins) := by
            rw [← entF_all (ins := ins) (listed := listed) fun x hx => by rw [getD_lt (by have := hlt0 (hL0i x hx); omega) false true]; exact hall x hx]; exact hF
          refine phaseStep ho hg fun K hK => ?_; refine wpI_lookInt t (.tmp dp) (.tmp ds) hop ht hk hz hI hev rs.length (hobj _) hes hFA ?_
          rw [hdst]
          refine hK _ _ (hHW ⟨hsl', hout', fun _ => by rw [getD_set_ne true (Ne.symm hpl)]; exact hpt, fun _ x hx => mono (hall x hx), es, clock, ga, ?_, ?_, ?_⟩)
          · rw [hentS hln]; exact hF
          · rw [ha, hset, getD_set_ne true (Ne.symm hpl), getD_set_ne true hlq, hpt]; exact stAct_l hd3 _
          · rw [getD_set_ne true hlq]; exact hI
        rcases List.mem_append.1 hiI with hiq | hiI
        · obtain ⟨hiq, hq0⟩ := hmq hiq
          subst hiq
          obtain ⟨o, ho, hg, hdst, hop, _⟩ := hq
          obtain rfl : o = oi := Option.some.inj (ho.symm.trans hoi)
          rw [hiu, if_neg (by simp)] at hI
          rw [hiu] at ha
          refine phaseStep ho hg fun K hK => ?_; refine wpI_alloc zt hop hI hzt hzc fun gx w' hI' _ => ?_
          rw [hdst]
          refine hK _ _ (hHW ⟨hsl', hout', fun h => mono (hlp (by rwa [getD_set_ne true (Ne.symm hlq)] at h)), fun h x hx => mono (hpi (by rwa [getD_set_ne true (Ne.symm hpq)] at h) x hx), es, clock, gx, ?_, ?_, ?_⟩)
          · rw [hentS hqn]; exact hF
          · rw [ha, hset, getD_set_ne true (Ne.symm hpq), getD_set_ne true (Ne.symm hlq), stAct_anyp (.pointer (some ⟨gx, 0, none⟩))]; exact stAct_q _ _
          · rw [hset, if_pos rfl]
            rw [List.append_assoc] at hI'
            exact hI'
        obtain ⟨x, hx, rfl⟩ := List.mem_map.1 hiI
        obtain ⟨o, d, ho, hg, hdst, hop, hdd1, hdd2, hdd3, hv, _⟩ := hins x hx
        obtain rfl : o = oi := Option.some.inj (ho.symm.trans hoi)
        have hp0 : listed.getD p true = false := by
          cases h : listed.getD p true
          · rfl
          · rw [hpi h x hx] at hiu; cases hiu
        have hl0 : listed.getD l true = false := by
          cases h : listed.getD l true
          · rfl
          · rw [hlp h] at hp0; cases hp0
        have hxp : x.1 ≠ p := fun h => hpn (h ▸ List.mem_map.2 ⟨x, hx, rfl⟩); have hxl : x.1 ≠ l := fun h => hln (h ▸ List.mem_map.2 ⟨x, hx, rfl⟩); have hxq : x.1 ≠ q := fun h => hqn (h ▸ List.mem_map.2 ⟨x, hx, rfl⟩)
        have hev : a.eval (.tmp mt) = .map (some gm) := by rw [ha, stAct_eval hd4 hd5 hd6]; exact hm
        have hed : a.eval (.tmp d) = x.2.2 := by rw [ha, stAct_eval hdd1 hdd2 hdd3]; exact hv
        have hxf : listed.getD x.1 false = false := by rw [getD_lt his false true]; exact hiu
        refine phaseStep ho hg fun K hK => ?_; refine wpI_insInt t (.tmp mt) (.const (.int .i64 x.2.1)) (.tmp d) hop ht hk hI hev rs.length (hobj _) rfl hed (hF.none_ (entF_none hnk hx hxf)) fun w' hI' => ?_
        rw [hdst]
        refine hK _ _ (hHW ⟨hsl', hout', fun h => ?_, fun h => ?_, es.push ⟨.int .i64 x.2.1, x.2.2, clock⟩, clock + 1, ga, ?_, ?_, ?_⟩)
        · rw [getD_set_ne true hxl, hl0] at h; cases h
        · rw [getD_set_ne true hxp, hp0] at h; cases h
        · rw [← entF_set hnk hn3.2.1 hx his]
          exact hF.push x.2.1 x.2.2 clock (entF_none hnk hx hxf)
        · rw [getD_set_ne true hxp, getD_set_ne true hxl, getD_set_ne true hxq]; exact ha
        · rw [List.set_append_right (h := Nat.le_refl _), Nat.sub_self, List.set_cons_zero] at hI'
          rw [getD_set_ne true hxq]
          exact hI'
  have hent0 : entF ins L0 = fun _ => none := by
    funext k
    unfold entF
    rw [Option.map_eq_none_iff, List.find?_eq_none]
    intro x hx h
    rw [getD_lt (hlt0 (hL0i x hx)) false true, hL0i x hx] at h
    simp at h
  have hG0 : G L0 (if q0 = true then a1.put (some dq) (.pointer (some ⟨ga0, 0, none⟩)) else a1) w := by
    refine ⟨rfl, fun _ _ => rfl, fun h => ?_, fun h => ?_, #[], 0, ga0, ?_, ?_, ?_⟩
    · rw [hL0l] at h; cases h
    · rw [hL0p] at h; cases h
    · rw [hent0]; exact Finds.empty
    · rw [hL0p, hL0l, hL0q]; cases q0 <;> rfl
    · rw [hL0q]; exact hI
  have hcnt : left I L0 = ins.length + (2 + Iq.length) := by
    have : left I L0 = I.length := List.countP_eq_length.2 fun i hi => by rw [hIL0 i hi]; rfl
    rw [this]; simp [I]; omega
  exact key _ _ _ _ hG0 hcnt
end
section
variable {P : Program} {ops : Array Oper} {Q : Exit → Act → World → Prop} {md : Region.Mode} {T : Nat → Prop} {w0 : World} {rsH rs : List Res} {J : List Nat}
structure MapOps (P : Program) (md : Region.Mode) (ops : Array Oper) (ins : List (Nat × Int × Value)) (p l q dp dl dq mt ds : Nat) (L0 L1 : Array Bool) (t zt : TypeId) (Iq : List Nat) (q0 : Bool) (a1 : Act) : Prop where
  nums : (((p :: l :: (Iq ++ ins.map (·.1))).all fun i => (p :: l :: (Iq ++ ins.map (·.1))).count i == 1) && !(ins.map (·.1)).contains q && q != p && q != l && (ins.all fun x => (ins.map (·.2.1)).count x.2.1 == 1)
    && decide (dp ≠ dl ∧ dp ≠ dq ∧ dl ≠ dq ∧ mt ≠ dp ∧ mt ≠ dl ∧ mt ≠ dq ∧ ds ≠ dp ∧ ds ≠ dl ∧ ds ≠ dq) && decide (dp < a1.tmps.size) && (L0.size == ops.size) && (ins.all fun x => !L0.getD x.1 true) && !L0.getD p true && !L0.getD l true && (L0.getD q true == q0) && decide (q < L0.size)
    && ((List.range ops.size).all fun i => (p :: l :: (Iq ++ ins.map (·.1))).contains i || L0.getD i false || (match ops[i]? with | some o => (o.after.any fun e => Region.binds md e && e.on == l) && (o.after.any fun e => Region.binds md e && e.on == q) | none => true))
    && (L1.size == L0.size) && ((List.range L0.size).all fun i => L1.getD i true == ((p :: l :: (Iq ++ ins.map (·.1))).contains i || L0.getD i true))) = true
  ents : ∀ x ∈ ins, ∃ o d, ops[x.1]? = some o ∧ o.guard = none ∧ o.dst = none ∧ o.op = .insert t (.tmp mt) (.const (.int .i64 x.2.1)) (.tmp d) ∧ d ≠ dp ∧ d ≠ dl ∧ d ≠ dq ∧ a1.eval (.tmp d) = x.2.2 ∧ (o.after.all fun e => !Region.binds md e || (L0.getD e.on false && !(p :: l :: (Iq ++ ins.map (·.1))).contains e.on)) = true
  mv : ∃ o, ops[p]? = some o ∧ o.guard = none ∧ o.dst = some dp ∧ o.op = .move (.tmp mt) ∧ (ins.all fun x => o.after.any fun e => Region.binds md e && e.on == x.1) = true ∧ (o.after.all fun e => !Region.binds md e || L0.getD e.on false || (ins.map (·.1)).contains e.on) = true
  look : ∃ o, ops[l]? = some o ∧ o.guard = none ∧ o.dst = some dl ∧ o.op = .lookup t (.tmp dp) (.tmp ds) false ∧ (o.after.any fun e => Region.binds md e && e.on == p) = true ∧ (o.after.all fun e => !Region.binds md e || L0.getD e.on false || e.on == p) = true
  var : ∃ o, ops[q]? = some o ∧ o.guard = none ∧ o.dst = some dq ∧ o.op = .alloc zt ∧ o.after = #[]
theorem nodup_of_count {α : Type} [BEq α] [LawfulBEq α] {l : List α} (h : (l.all fun i => l.count i == 1) = true) : l.Nodup := by
  rw [List.nodup_iff_count]
  intro a
  by_cases ha : a ∈ l
  · have := List.all_eq_true.1 h a ha
    simp at this
    omega
  · rw [List.count_eq_zero.2 ha]; exact Nat.zero_le _
theorem mapPhase' (ins : List (Nat × Int × Value)) (p l q dp dl dq mt ds : Nat) (L0 L1 : Array Bool) (t kt e zt : TypeId) (z : Value) (zc : Array Value) (s : Int) (a1 : Act) (gm ga0 : Nat) (Iq : List Nat) (q0 : Bool) (hIq : Iq = if q0 then [] else [q])
    (H : MapOps P md ops ins p l q dp dl dq mt ds L0 L1 t zt Iq q0 a1)
    (ht : P.underlying t = some (.map kt e)) (hk : P.underlying kt = some (.int .i64)) (hz : ∀ w, (zeroValue e).run P w = .ok z w)
    (hm : a1.eval (.tmp mt) = .map (some gm)) (hs : a1.eval (.tmp ds) = .int .i64 s)
    {zv : Value} (hzt : ∀ w, (zeroValue zt).run P w = .ok zv w) (hzc : zv.cells = zc) (hJ : ∀ i ∈ J, i < rs.length ∧ rs[i]? = rsH[i]?) (c : Nat)
    (fin : ∀ es clock ga w, InvT T w0 (rs ++ [.obj gm (.map es clock), .box ga zt zc]) w → Held T w0 rsH J w →
      wpAnyH P md ops Q (Held T w0 rsH J) c L1 (((a1.put (some dp) (.map (some gm))).put (some dl) ((entA ins s).getD z)).put (some dq) (.pointer (some ⟨ga, 0, none⟩))) w)
    {w : World} (hI : InvT T w0 (rs ++ (.obj gm (.map #[] 0) :: if q0 = true then [.box ga0 zt zc] else [])) w) {n : Nat} (hn : n = ins.length + (2 + Iq.length) + c) {a : Act} (ha : (if q0 = true then a1.put (some dq) (.pointer (some ⟨ga0, 0, none⟩)) else a1) = a) :
    wpAnyH P md ops Q (Held T w0 rsH J) n L0 a w := by
  subst ha
  have hN := H.nums; simp only [Bool.and_eq_true] at hN; obtain ⟨⟨⟨⟨⟨⟨⟨⟨⟨⟨⟨⟨⟨⟨⟨n1, n2⟩, n3⟩, n4⟩, n5⟩, n6⟩, n7⟩, n8⟩, n9⟩, n10⟩, n11⟩, n12⟩, n13⟩, n14⟩, n15⟩, n16⟩ := hN
  refine mapPhase ins p l q dp dl dq mt ds L0 L1 t kt e zt z zc s a1 gm ga0 Iq q0 hIq ⟨by simpa using n3, by simpa using n4, by simpa using n2⟩ ?_ (nodup_of_count n1) (of_decide_eq_true n6) (of_decide_eq_true n7) ht hk hz hm hs H.ents ?_ ?_ H.var hzt hzc (by simpa using n8) ⟨?_, by simpa using n10, by simpa using n11, by simpa using n12, of_decide_eq_true n13⟩ n14 ⟨by simpa using n15, ?_⟩ hJ c fin hI hn
  · rw [List.nodup_iff_count]
    intro k
    by_cases hk : k ∈ ins.map (·.2.1)
    · obtain ⟨x, hx, rfl⟩ := List.mem_map.1 hk
      have := List.all_eq_true.1 n5 x hx
      simp only [beq_iff_eq] at this
      omega
    · rw [List.count_eq_zero.2 hk]; exact Nat.zero_le _
  · obtain ⟨o, h1, h2, h3, h4, h5, h6⟩ := H.mv; refine ⟨o, h1, h2, h3, h4, fun x hx => ?_, h6⟩; obtain ⟨e', he, hb⟩ := Array.any_eq_true'.1 (List.all_eq_true.1 h5 x hx)
    rw [Bool.and_eq_true, beq_iff_eq] at hb
    exact ⟨e', he, hb⟩
  · obtain ⟨o, h1, h2, h3, h4, h5, h6⟩ := H.look; obtain ⟨e', he, hb⟩ := Array.any_eq_true'.1 h5
    rw [Bool.and_eq_true, beq_iff_eq] at hb
    exact ⟨o, h1, h2, h3, h4, ⟨e', he, hb⟩, h6⟩
  · intro x hx
    have := List.all_eq_true.1 n9 x hx
    simpa using this
  · intro i hi
    have := List.all_eq_true.1 n16 i (List.mem_range.2 hi)
    simpa using this
end
section
variable {P : Program} {ops : Array Oper} {Q : Exit → Act → World → Prop} {md : Region.Mode} {S : World → Prop}
theorem wpAnyH_swap (i : Nat) (o o' : Oper) (ops' : Array Oper) (hi : ops[i]? = some o) (hops : ops' = ops.setIfInBounds i o') (haft : o'.after = o.after) (hg : ops.all (·.guard.isNone) = true) (hg' : o'.guard = none)
    (hop : ∀ (K : Act → World → Prop) a w, S w → o'.wp P a w K Q → o.wp P a w K Q) (hasks : ∀ a w, ¬ o'.asks P a w) :
    ∀ f listed a w, S w → wpAnyH P md ops' Q S f listed a w → wpAnyH P md ops Q S f listed a w := by
  subst hops
  have hlt : i < ops.size := (Array.getElem?_eq_some_iff.1 hi).1; have hat : ∀ j, j ≠ i → (ops.setIfInBounds i o')[j]? = ops[j]? := fun j hj => Array.getElem?_setIfInBounds_ne (Ne.symm hj); have hself : (ops.setIfInBounds i o')[i]? = some o' := (by simp [hlt])
  have hready : ∀ listed, Region.ready md (ops.setIfInBounds i o') listed = Region.ready md ops listed := fun listed => by
    unfold Region.ready
    rw [Array.size_setIfInBounds]
    refine List.filter_congr fun j _ => ?_
    by_cases hj : j = i
    · subst hj; rw [hself, hi]; simp only [Option.map_some, haft]
    · rw [hat j hj]
  have hgj : ∀ (j : Nat) (oj : Oper), ops[j]? = some oj → oj.guard = none := fun j oj h => by
    obtain ⟨hl, he⟩ := Array.getElem?_eq_some_iff.1 h
    have := (Array.all_eq_true.1 hg) j hl
    rw [he] at this
    simpa using this
  have hwp : ∀ j (K : Act → World → Prop) a w, S w → wpOp P (ops.setIfInBounds i o') Q j K a w → wpOp P ops Q j K a w := fun j K a w hS h => by
    unfold wpOp at h ⊢
    by_cases hj : j = i
    · subst hj
      rw [hself] at h
      rw [hi]
      simp only [Region.wanted, hg', hgj _ _ hi, if_true] at h ⊢
      rcases h with h | h
      · exact .inl (hop K a w hS h)
      · exact absurd h.1 (hasks a w)
    · rw [hat j hj] at h
      cases hoj : ops[j]? with
      | none => rw [hoj] at h; exact h
      | some oj =>
        rw [hoj] at h
        simp only [Region.wanted, hgj _ _ hoj, if_true] at h ⊢
        exact h
  intro f
  induction f with
  | zero =>
    intro listed a w _ h
    exact ⟨by rw [← hready]; exact h.1, h.2⟩
  | succ f ih =>
    intro listed a w hS h; refine ⟨fun hr => h.1 (by rw [hready]; exact hr), fun j hj => ?_⟩
    exact wpOp_mono (fun a' w' h' => ⟨h'.1, ih _ a' w' h'.1 h'.2⟩) (hwp j _ a w hS (h.2 j (by rw [hready]; exact hj)))
end
theorem ordersM {T : Nat → Prop} {w0 : World} {R : Array MapEntry → Nat → Nat → Nat → List Res} {G : Array MapEntry → Nat → Nat → Nat → World → Prop} {goal : Prop} (hmain : (∀ es clock gm ga w', InvT T w0 (R es clock gm ga) w' → G es clock gm ga w') → goal) (hcont : ∀ es clock gm ga w', InvT T w0 (R es clock gm ga) w' → G es clock gm ga w') : goal := hmain hcont
end Go.Proofs.YthmpnnfejghhfaaGreatDoor
namespace Go.Proofs.YthmpnnfejghhfaaGreatDoor
open Go.RowKit
set_option maxRecDepth 100000
section
variable {P : Program} {o : Oper} {a : Act} {T : Nat → Prop} {w0 w : World} {rs : List Res} {K : Act → World → Prop} {Q : Exit → Act → World → Prop}
theorem wpI_sliceN (t e : TypeId) (len size : Nat) (parts : Array (Nat × Operand)) (z : Value) (cells : Array Value) (ho : o.op = .buildSlice t len parts) (hI : InvT T w0 rs w) (hu : P.underlying t = some (.slice e)) (hie : (P.info? e).map (fun i => (i.zero, i.size)) = some (some z, size)) (hb : ¬ len * size > 2 ^ 24) (h0 : ¬ len * size = 0)
    (hf : Instr.fill (fun i => some (i * size, size)) ((Array.range (len * size)).map (z.cells[· % z.cells.size]!)) (parts.map fun (i, x) => (i, a.eval x)).toList = some cells)
    (h : ∀ g w', InvT T w0 (rs ++ [.box g e cells]) w' → Below w.heap.size w w' → K (a.put o.dst (.slice (some ⟨g, 0, none⟩) len len)) w') : o.wp P a w K Q := by
  cases hi : P.info? e with
  | none => rw [hi] at hie; cases hie
  | some i =>
    rw [hi] at hie
    simp only [Option.map_some, Option.some.injEq, Prod.mk.injEq] at hie
    obtain ⟨h1, rfl⟩ := hie
    exact wp_buildSlice t e len parts ho cells i z hu hi h1 hb h0 hf (h _ _ (hI.alloc e _) ((Below.refl _ _).alloc (Nat.le_refl _) _))
end
theorem takeHs {P : Program} {ops : Array Oper} {Q : Exit → Act → World → Prop} {md : Region.Mode} {S : World → Prop} {i : Nat} {oi : Oper} {fuel : Nat} {listed : Array Bool} {a : Act} {w : World} (hi0 : ops.toList[i]? = some oi)
    (hs : Region.noSelect ops = true) (hf : Region.free md ops listed i = true) (hr : (Region.ready md ops listed).contains i = true)
    (hQ : ∀ v c a w, Q (.panic c) (a.put oi.dst v) w → Q (.panic c) a w) (hw : Region.wanted oi (yielded ops a.tmps) = false) (hS : S w)
    (h : wpAnyH P md ops Q S fuel (listed.setIfInBounds i true) (a.put oi.dst undef) w) : wpAnyH P md ops Q S (fuel + 1) listed a w := by
  have hi : ops[i]? = some oi := by rw [← Array.getElem?_toList]; exact hi0
  exact wpAnyH_take hi hs hf hr (hQ undef) (.inr ⟨hw, rfl⟩) hS h
theorem r_none (e : Int) (w : World) : Calls Tryz.prog 56 #[.int .i64 e] w (Ret (.tuple #[.agg zeroMC, .int .i64 e]) w) := by
  go_enter Tryz.func56, Tryz.ntmps56
  have hI := Inv.start w; have cF := hI.facts
  go_wp2_with (first | (refine listI rfl fun K hK => wpI_alloc 31 rfl hI Tryz.zeroValue31 (cs := zeroMC) (by first | rfl | kernel_rfl) fun gx w' hI' hb => hK _ _ ?_; clear hK K; (try clear hb); refine am92 ?_; clear hI hI'; (try clear cF); intro hI cF) | (refine listI rfl fun K hK => wpI_storeW _ _ _ rfl hI rfl 0 rfl rfl rfl (by kernel_rfl) (by simp [Value.oneCell']) fun w' hI' => hK _ _ ?_; clear hK K; (try clear hb); refine am92 ?_; clear hI hI'; (try clear cF); intro hI cF) | fail)
  have hbx := hI.box (i := 0) rfl; (refine am126 ?_)
  exact ⟨rfl, hI.below⟩
def RetRows (w : World) (m : Mach) : Ending → World → Prop := fun ed w' => m.regs.length = 8 ∧ ∃ va vs vo, ed = .returned (.agg (machL m.regs m.code va vs vo).toArray) ∧
  Inv w [.row 25 7 va m.mem.length (m.mem.flatMap encV), .row 73 12 vs m.stack.length (m.stack.flatMap encF), .row 3 1 vo m.out.length (m.out.flatMap encI)] w'
theorem InvT.join {T : Nat → Prop} {w0 w w' : World} {rs rs2 : List Res} (h : InvT T w0 rs w) (h2 : Inv w rs2 w') : InvT T w0 (rs ++ rs2) w' := by
  have h1 := h.on h2.below; have hz := h.size; have low2 : ∀ (i : Nat) r, rs2[i]? = some r → ∀ k, r.blk = some k → w.heap.size ≤ k := fun i r hi k hk => (h2.low i r hi k hk).resolve_left id
  refine ⟨h1.but, fun i s hi => ?_, fun i s hi k hk => ?_, fun i j s t hij hi hj k hs ht => ?_⟩
  · rcases Nat.lt_or_ge i rs.length with hl | hl
    · rw [List.getElem?_append_left hl] at hi; exact h1.ok i s hi
    · rw [List.getElem?_append_right hl] at hi; exact h2.ok _ s hi
  · rcases Nat.lt_or_ge i rs.length with hl | hl
    · rw [List.getElem?_append_left hl] at hi; exact h1.low i s hi k hk
    · rw [List.getElem?_append_right hl] at hi
      have := low2 _ s hi k hk
      exact .inr (by omega)
  · rcases Nat.lt_or_ge i rs.length with l1 | l1 <;> rcases Nat.lt_or_ge j rs.length with l2 | l2
    · rw [List.getElem?_append_left l1] at hi; rw [List.getElem?_append_left l2] at hj
      exact h1.apart i j s t hij hi hj k hs ht
    · rw [List.getElem?_append_left l1] at hi; rw [List.getElem?_append_right l2] at hj
      have := low2 _ t hj k ht; have := h.lt hi hs; omega
    · rw [List.getElem?_append_right l1] at hi; rw [List.getElem?_append_left l2] at hj
      have := low2 _ s hi k hs; have := h.lt hj ht; omega
    · rw [List.getElem?_append_right l1] at hi; rw [List.getElem?_append_right l2] at hj
      exact h2.apart _ _ s t (by omega) hi hj k hs ht
set_option maxHeartbeats 1000000 in
theorem r_MachineCopy (mc : Array Value) (m : Mach) (w : World) (hm : MachV w w.heap.size mc m) (h1 : m.mem.length ≤ 400) (h2 : m.stack.length ≤ 16) (h3 : m.out.length ≤ 101) :
    Calls Tryz.prog 39 #[.agg mc] w (RetRows w m) := by
  have hsz := hm.size; have h8 := hm.regs; obtain ⟨A, S, O, a, s, o, h0, -, -, -, -, -, -, hLm, hLs, hLo⟩ := hm.ex
  have p61 : mc[61]? = some (.slice A m.mem.length a) := by rw [h0, List.getElem?_toArray]; exact machL_61 h8
  have p62 : mc[62]? = some (.slice S m.stack.length s) := by rw [h0, List.getElem?_toArray]; exact machL_62 h8
  have p63 : mc[63]? = some (.slice O m.out.length o) := by rw [h0, List.getElem?_toArray]; exact machL_63 h8
  have HLm := Lib.hid hLm; have HLs := Lib.hid hLs; have HLo := Lib.hid hLo; have H0 := Lib.hid h0
  have hm1 : m.mem.length ≤ maxLen := by unfold maxLen; omega
  have hm2 : m.stack.length ≤ maxLen := by unfold maxLen; omega
  have hm3 : m.out.length ≤ maxLen := by unfold maxLen; omega
  have HSZ := Lib.hid hsz; clear hLm hLs hLo hm h0 hsz
  go_enter Tryz.func39, Tryz.ntmps39
  have hI := Inv.start w; have cF := hI.facts
  go_wp2_with (first | (refine listI rfl fun K hK => wpI_box _ _ rfl hI rfl fun gx w' hI' hb => hK _ _ ?_; clear hK K; (try clear hb); refine am92 ?_; clear hI hI'; (try clear cF); intro hI cF) | (refine listI rfl fun K hK => wpI_box1 _ _ rfl hI rfl rfl fun gx w' hI' hb => hK _ _ ?_; clear hK K; (try clear hb); refine am92 ?_; clear hI hI'; (try clear cF); intro hI cF) | (refine listI rfl fun K hK => wpI_alloc 31 rfl hI Tryz.zeroValue31 (cs := zeroMC) (by first | rfl | kernel_rfl) fun gx w' hI' hb => hK _ _ ?_; clear hK K; (try clear hb); refine am92 ?_; clear hI hI'; (try clear cF); intro hI cF) | fail)
  (refine wp_region_KG 10 [0] (by kernel_rfl) hI fun w' hI' hHeld => ?_; (try clear hb); refine am92 ?_; clear hI hI'; (try clear cF); intro hI cF)
  refine am179 ?_; (refine tg 4 ?_; (try simp only [np, Act.put])); (refine tg 6 ?_; (try simp only [np, Act.put])); (refine tg 7 ?_; (try simp only [np, Act.put])); refine oneG (i := 2) (by kernel_rfl) rfl (fun K hK => ?_); (go_simp; refine (r_Copy_V A a m.mem _ hm1 (by omega) (hI.lies HLm.out)).mono ?_; rintro e w' ⟨A1, A1k, rfl, hO, -, hb⟩; have hI' := hI.ownrow hb hO; clear hO; refine am149 ?_; clear hK K; intro hHeld; (try clear hb); refine am103 ?_; clear hI hI'; (try clear cF); intro hI cF); (refine tg 9 ?_; (try simp only [np, Act.put])); refine oneG (i := 5) (by kernel_rfl) rfl (fun K hK => ?_); (go_simp; refine (r_Copy_F S s m.stack _ hm2 (by omega) (hI.lies HLs.out)).mono ?_; rintro e w' ⟨A2, A2k, rfl, hO, -, hb⟩; have hI' := hI.ownrow hb hO; clear hO; refine am149 ?_; clear hK K; intro hHeld; (try clear hb); refine am103 ?_; clear hI hI'; (try clear cF); intro hI cF); refine oneG (i := 8) (by kernel_rfl) rfl (fun K hK => ?_); (go_simp; refine (r_Copy_I O o m.out _ hm3 (by omega) (hI.lies HLo.out)).mono ?_; rintro e w' ⟨A3, A3k, rfl, hO, -, hb⟩; have hI' := hI.ownrow hb hO; clear hO; refine am149 ?_; clear hK K; intro hHeld; (try clear hb); refine am103 ?_; clear hI hI'; (try clear cF); intro hI cF); refine oneGs (i := 10) (by kernel_rfl) rfl (by kernel_rfl) (fun K hK => ?_)
  (refine stepI rfl (wpI_store1 _ _ _ rfl hI rfl 0 rfl rfl rfl (by rw [HSZ.out]; decide) (by kernel_rfl) fun w' hI' => hK.out _ _ ?_); clear hK K; (try clear hb); refine am103 ?_; clear hI hI'; (try clear cF); intro hI cF)
  (refine takeGq (i := 11) rfl (by kernel_rfl) (by kernel_rfl) (by kernel_rfl) (fun _ _ _ _ h => h) (by rfl) (by kernel_rfl) ?_; refine' ⟨_, ?_, ?_⟩; rotate_left; (focus (intro w; go_simp; first | done | with_reducible rfl)); (try simp only [Act.put, List.setIfInBounds_toArray, List.set_cons_zero, List.set_cons_succ]))
  refine oneGs (i := 12) (by kernel_rfl) rfl (by kernel_rfl) (fun K hK => ?_)
  (refine stepI rfl (wpI_store1 _ _ _ rfl hI rfl 0 rfl rfl rfl (by simp [HSZ.out]) (by kernel_rfl) fun w' hI' => hK.out _ _ ?_); clear hK K; (try clear hb); refine am103 ?_; clear hI hI'; (try clear cF); intro hI cF)
  (refine takeGq (i := 13) rfl (by kernel_rfl) (by kernel_rfl) (by kernel_rfl) (fun _ _ _ _ h => h) (by rfl) (by kernel_rfl) ?_; refine' ⟨_, ?_, ?_⟩; rotate_left; (focus (intro w; go_simp; first | done | with_reducible rfl)); (try simp only [Act.put, List.setIfInBounds_toArray, List.set_cons_zero, List.set_cons_succ]))
  refine oneGs (i := 14) (by kernel_rfl) rfl (by kernel_rfl) (fun K hK => ?_)
  (refine stepI rfl (wpI_store1 _ _ _ rfl hI rfl 0 rfl rfl rfl (by simp [HSZ.out]) (by kernel_rfl) fun w' hI' => hK.out _ _ ?_); clear hK K; (try clear hb); refine am103 ?_; clear hI hI'; (try clear cF); intro hI cF)
  refine doneG (by kernel_rfl) ?_ _
  (try clear hHeld)
  have hmach : ((mc.setIfInBounds 61 (.slice A1 m.mem.length A1k)).setIfInBounds 62 (.slice A2 m.stack.length A2k)).setIfInBounds 63 (.slice A3 m.out.length A3k) = (machL m.regs m.code (.slice A1 m.mem.length A1k) (.slice A2 m.stack.length A2k) (.slice A3 m.out.length A3k)).toArray := by
    simp only [H0.out, List.setIfInBounds_toArray, machL_mem h8, machL_stack h8, machL_out h8]
  rw [hmach] at hI
  clear hmach; refine am160 ?_; (try clear cF); intro cF
  go_wp2_with (first
    | (refine wpList_load_box rfl 31 _ rfl (hI.box (i := 0) rfl) rfl Tryz.underlying31 rfl (by first | exact info_mach (by assumption) | (simp only [hsz1]; kernel_rfl) | (simp only [hsz2]; kernel_rfl) | (simp only [hsz]; kernel_rfl) | kernel_rfl) ?_)
    | (refine listI rfl fun K hK => wpI_storeW _ _ _ rfl hI rfl 1 rfl rfl (by rw [zeroMC_size, List.size_toArray, machL_length h8]) (info_mach h8) (machL_one h8 rfl rfl rfl) fun w' hI' => hK _ _ ?_; clear hK K; (try clear hb); refine am92 ?_; clear hI hI'; (try clear cF); intro hI cF)
    | fail)
  have hbx := hI.box (i := 1) rfl; refine bodyPost_ret (results_c rfl rfl hbx Tryz.underlying31 rfl (info_mach h8)) rfl ?_
  exact ⟨h8, _, _, _, rfl, (hI.perm (List.perm_append_comm (l₁ := [_, _]) (l₂ := [_, _, _]))).first [_, _, _] [_, _] rfl⟩
theorem truth_pick {Q : Exit → Act → World → Prop} {K : Act → World → Prop} {a : Act} {w : World} {s : Nat} {dst : Option Tmp} {t t' tb : TypeId} {ps ps' : String} {af af' : Array Edge} {g g'}
    (h : (⟨dst, .pick (.tmp s) (.const (.int .i64 1)) (.const (.int .i64 0)), t, ps, af, g⟩ : Oper).wp Tryz.prog a w K Q) :
    (⟨dst, .call { callee := .value (.func 58), args := #[.tmp s], argTypes := #[tb] }, t', ps', af', g'⟩ : Oper).wp Tryz.prog a w K Q := by
  unfold Oper.wp execOp at h ⊢
  obtain ⟨v, hv⟩ : ∃ v, a.eval (.tmp s) = v := ⟨_, rfl⟩
  have hv' : a.tmps[s]?.getD undef = v := (by simpa [Act.eval] using hv); simp only [hv] at h
  cases v with
  | bool b =>
    simp [hv', Act.eval, go_sem] at h ⊢
    refine (r_truth b w).mono ?_
    rintro e w' ⟨rfl, rfl⟩
    cases b <;> simpa [truthOf, Oper.upon, asBool, Act.put] using h
  | _ => simp [asBool, Oper.upon] at h
theorem pick_asks {a : Act} {w : World} {s : Nat} {dst : Option Tmp} {t : TypeId} {ps : String} {af : Array Edge} {g} : ¬ (⟨dst, .pick (.tmp s) (.const (.int .i64 1)) (.const (.int .i64 0)), t, ps, af, g⟩ : Oper).asks Tryz.prog a w := by
  rintro ⟨h, _⟩; unfold execOp at h
  obtain ⟨v, hv⟩ : ∃ v, a.eval (.tmp s) = v := ⟨_, rfl⟩
  simp only [hv] at h
  cases v <;> exact absurd (show noRoomEvent ∈ (#[] : Array Event) from h) (by simp)
end Go.Proofs.YthmpnnfejghhfaaGreatDoor
