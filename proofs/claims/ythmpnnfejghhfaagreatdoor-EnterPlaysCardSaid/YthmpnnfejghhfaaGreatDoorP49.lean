/- What the parts say: The frame of every law of a seat whose rows list package-level variables: if the call returns true wherever they hold what they were laid with, then the row holds. Conditions: none. -/
import Derived.Test.YthmpnnfejghhfaaGreatDoorP48
import Derived.Test.YthmpnnfejghhfaaGreatDoorCards
import Derived.Test.YthmpnnfejghhfaaGreatDoorTie
import Derived.Deep.DeepHandedRow
import Derived.Deep.DeepWitnessRowRef
import Derived.Stop.Joined
import Derived.LaidMore
import Derived.Shelf.Vars
import Derived.Lib.LaidTab
import Derived.Test.YthmpnnfejghhfaaGreatDoorP19
import Derived.Test.YthmpnnfejghhfaaGreatDoorP12
set_option linter.unusedVariables false
set_option linter.unusedSimpArgs false
namespace Go.Proofs.YthmpnnfejghhfaaGreatDoor
open Go.ChangeShapes Go.WideShapes Go.ChangeAt Go.RowKit
set_option maxRecDepth 100000
section
variable {H : Type} {enc : TypeId × Value → H}
theorem liftedL {C : Checked} {os : Os} {f : FuncId} {fn : Func} {s : ChangeSpec} {F : Stop.Interp} {tb : TypeId} {laid : List (String × DataW Unit)}
    (own : ownKnob C.prog.godebug = none) (started : os.Started) (noInit : C.prog.inits.idxOf? f = none) (hf : C.prog.funcs[f]? = some fn)
    (witness : ∃ (w : World) (tape : Tape) (i : Input), w.os = os ∧ (w.forCall tape i).Shaped C.prog ∧ i.vars = [] ∧ Input.okWide C.prog (w.forCall tape i) .any w.heap.size f i ∧
      (OpenSpec.ofChange s).preRow enc C.prog fn [] false laid (w.forCall tape i).memory i.args ∧ ({} : Assume).holds C.prog (lone (Frame.enter C.prog f i.args .normal) [] (w.forCall tape i)))
    (hl : laidOutB C.prog = true) (hread : fn.params.toList.all (fun t => C.prog.readableRec t && decide (t < C.prog.types.size)) = true) (hvars : s.vars = []) (hrt : fn.resultTypes = #[tb]) (htb : C.prog.underlying tb = some .bool)
    (hfn : ∀ ds : List (DataW H), ds.length = fn.params.size → (s.fn H ds).results = [.lit (.bool true)] ∧ (s.fn H ds).args = ds ∧ (s.fn H ds).vars = [])
    (walk : ∀ (W : World) (base : Nat) (args : Array Value) (ds : List (DataW H)) (ps : List MemPlace),
      (∀ (j : Nat) t v, fn.params[j]? = some t → args[j]? = some v → Value.okWide C.prog W .any base t v) →
      DataW.TrodAll enc C.prog W 0 (fun _ => true) true fn.params.toList args.toList ds ps → (∀ x ∈ ps, x.block < W.heap.size) →
      laidMetH C.prog laid W → W.ShapedOpen C.prog →
      Calls C.prog f args W fun e W' => e = .returned (.bool true) ∧ Below W.heap.size W W') :
    ReturnsInHanded {} C os f .any ((OpenSpec.ofChange s).preRow enc C.prog fn [] false laid) (((OpenSpec.ofChange s).at F).post enc C.prog fn false true false false) := by
  refine returnsInHanded_of_row own started noInit hf witness ?_; intro W base args ds gs before hval hW _ _ _ hL hSh _; have hW1 : DataW.Whole enc C.prog fn.params.toList s.vars false W args.toList ds gs before := hW; have hlt := hW1.lt; have hW0 := hW1
  obtain ⟨p, q, hA, hV, rfl, hfz, hnd⟩ := hW1
  rw [hvars] at hV
  obtain ⟨rfl, rfl⟩ := trodVars_none hV
  have hlen : ds.length = fn.params.size := by
    have : ∀ (ts : List TypeId) (vs : List Value) (ds : List (DataW H)) (ps : List MemPlace), DataW.TrodAll enc C.prog W 0 (fun _ => true) true ts vs ds ps → ds.length = ts.length := by
      intro ts
      induction ts with
      | nil => intro vs ds ps h; cases vs <;> cases ds <;> first | rfl | (exact h.elim)
      | cons t ts ih =>
        intro vs ds ps h
        cases vs <;> cases ds <;> first | (exact h.elim) | (obtain ⟨_, _, _, h2, _⟩ := h; simp [ih _ _ _ h2])
    simpa using this _ _ _ _ hA
  refine (walk W base args ds p hval hA (fun x hx => hlt x (by simp [hx])) hL hSh).mono fun e W' ⟨he, hb⟩ => ⟨_, he, ?_⟩
  exact post_true hl hread hvars hrt htb (hfn ds hlen) hW0 hb
end
theorem laid_tail {P : Program} {x : String × DataW Unit} {r : List (String × DataW Unit)} {w : World} (h : laidMet P (x :: r) w) : laidMet P r w := by
  obtain ⟨ps, hv, hnd, hrows⟩ := h; obtain ⟨n, d⟩ := x
  obtain ⟨g, t, cs, fuel, p, q, _, _, _, _, hq, rfl⟩ := hv
  exact ⟨q, hq, List.Nodup.sublist (List.sublist_append_right _ _) hnd, fun b off hm => hrows b off (List.mem_append_right _ hm)⟩
def laidAll : List (String × DataW Unit) := [("unicode/utf8.acceptRanges", Rows.laid_unicode_utf8_acceptRanges), ("unicode.White_Space", Rows.laid_unicode_White_Space), ("strings.asciiSpace", Rows.laid_strings_asciiSpace), ("unicode/utf8.first", Rows.laid_unicode_utf8_first)]
theorem space_tab : Rows.laid_strings_asciiSpace (H := Unit) = Lib.tabData .u8 Lib.asciiSpaceTab := by kernel_rfl
theorem gSpace : Tryz.prog.globalNamed "strings.asciiSpace" = some 1 := by kernel_rfl
theorem env_of {W : World} (hL : laidMetH Tryz.prog laidAll W) (hSh : W.ShapedOpen Tryz.prog) : Env W := by
  rw [MakeChecks.laidMetH_plain _ _ _ (by kernel_rfl)] at hL
  have h3 : laidMet Tryz.prog (("strings.asciiSpace", Lib.tabData .u8 Lib.asciiSpaceTab) :: [("unicode/utf8.first", Rows.laid_unicode_utf8_first)]) W := by
    have := laid_tail (laid_tail hL)
    rw [space_tab] at this
    exact this
  have ht := Lib.tabIs_of_head gSpace (t := 160) (by kernel_rfl) Tryz.underlying160 Tryz.underlying5 (by kernel_rfl) (by kernel_rfl) h3
  refine ⟨fun c hc => ?_, ?_⟩
  · rw [ht.cell gSpace c (by rw [Lib.asciiSpaceTab_length]; exact hc), Lib.asciiSpaceTab_at c hc]
  · exact cell_of_shapedOpen_int (zero := #[.int .i64 0]) (t := 3) hSh (of_decide_eq_true (by kernel_rfl)) (by kernel_rfl) rfl (by kernel_rfl) (by kernel_rfl) Tryz.underlying3
end Go.Proofs.YthmpnnfejghhfaaGreatDoor
namespace Go.Proofs.YthmpnnfejghhfaaGreatDoor
open Go.ChangeShapes Go.WideShapes Go.ChangeAt Go.RowKit
set_option maxRecDepth 100000
def cellsD : DataW Unit → Array Value
  | .agg l => (l.map fun | .lit (.int k z) => Value.int k z | _ => undef).toArray
  | _ => #[]
noncomputable def laidWorld (os : Os) : World :=
  { World.doorLaid Tryz.prog 43 os with heap := (World.doorLaid Tryz.prog 43 os).heap.modify 2 fun
      | .cells _ t fz => .cells (cellsD Go.Pinned.utf8First) t fz
      | o => o }
def samePl : MemPlace → MemPlace → Bool
  | .cell b o, .cell c q => bif Nat.beq o q then Nat.beq b c else false
  | .map b, .map c => Nat.beq b c
  | _, _ => false
def notIn (x : MemPlace) : List MemPlace → Bool
  | [] => true
  | y :: l => bif samePl x y then false else notIn x l
def nodupN : List MemPlace → Bool
  | [] => true
  | x :: l => bif notIn x l then nodupN l else false
theorem samePl_self (x : MemPlace) : samePl x x = true := by cases x <;> simp [samePl]
theorem notIn_spec {x : MemPlace} : ∀ {l : List MemPlace}, notIn x l = true → x ∉ l
  | [], _ => by simp
  | y :: l, h => by
    unfold notIn at h
    cases hs : samePl x y
    · rw [hs] at h
      intro hm
      rcases List.mem_cons.1 hm with rfl | hm
      · rw [samePl_self] at hs; cases hs
      · exact notIn_spec h hm
    · rw [hs] at h; cases h
theorem nodupN_spec : ∀ {l : List MemPlace}, nodupN l = true → l.Nodup
  | [], _ => List.nodup_nil
  | x :: l, h => by
    unfold nodupN at h
    cases hn : notIn x l
    · rw [hn] at h; cases h
    · rw [hn] at h
      exact List.nodup_cons.2 ⟨notIn_spec hn, nodupN_spec h⟩
def rowOk (P : Program) (w : World) : Option Obj → Bool
  | some (.cells cs _ (0, 0)) => cs.all (fun v => match v with | .iface u x => Value.okWideB P w u x | _ => true)
  | _ => false
def blkP : MemPlace → Option Nat
  | .cell b _ => some b
  | .map _ => none
theorem rows_of_blocks {P : Program} {w : World} {ps : List MemPlace} (h : ((ps.filterMap blkP).eraseDups.all fun b => rowOk P w w.heap[b]?) = true) : laidRowsB P w ps = true := by
  unfold laidRowsB
  rw [List.all_eq_true]
  intro p hp
  cases p with
  | map b => rfl
  | cell b o =>
    have hb := List.all_eq_true.1 h b (List.mem_eraseDups.2 (List.mem_filterMap.2 ⟨_, hp, rfl⟩)); simp only [World.cell?]
    cases hw : w.heap[b]? with
    | none => rw [hw] at hb; cases hb
    | some x =>
      rw [hw] at hb
      cases x with
      | cells cs t fz =>
        obtain ⟨f1, f2⟩ := fz; unfold rowOk at hb
        match f1, f2, hb with
        | 0, 0, hb =>
          simp only [Bool.true_and, Option.isSome_none, Bool.false_eq_true, if_false]
          cases hc : cs[o]? with
          | none => rfl
          | some v =>
            have hv := Array.all_eq_true.1 hb o (Array.getElem?_eq_some_iff.1 hc).1
            rw [(Array.getElem?_eq_some_iff.1 hc).2] at hv
            cases v <;> first | rfl | exact hv
      | _ => cases hb
noncomputable def wL (os : Os) (args : Array Value) : World := ((laidWorld os).forCall (fun _ _ => 0) ⟨#[], args, []⟩).memory
noncomputable def psL (os : Os) (args : Array Value) : List MemPlace := ((DataW.laidRun Tryz.prog (wL os args) 8 (laidAll.map (·.1))).map (·.2)).getD []
theorem run_one (os : Os) (args : Array Value) : (DataW.laidRun Tryz.prog (wL os args) 8 (laidAll.map (·.1))).map (·.1) = some laidAll := by kernel_rfl
theorem run_all (os : Os) (args : Array Value) : DataW.laidRun Tryz.prog (wL os args) 8 (laidAll.map (·.1)) = some (laidAll, psL os args) := by
  have h1 := run_one os args; unfold psL
  generalize DataW.laidRun Tryz.prog (wL os args) 8 (laidAll.map (·.1)) = r at h1
  cases r with
  | none => cases h1
  | some x =>
    obtain ⟨a, b⟩ := x
    obtain rfl : a = laidAll := Option.some.inj h1
    rfl
theorem run_nodup (os : Os) (args : Array Value) : nodupN (psL os args) = true := by kernel_rfl
theorem run_rows (os : Os) (args : Array Value) : (((psL os args).filterMap blkP).eraseDups.all fun b => rowOk Tryz.prog (wL os args) (wL os args).heap[b]?) = true := by kernel_rfl
theorem laid_filter : laidAll.filter (fun x => x.2.handleName?.isNone) = laidAll := by kernel_rfl
theorem laid_met (os : Os) (args : Array Value) : laidMetH Tryz.prog laidAll (wL os args) :=
  laidMetH_of_parts3 (fuel := 8) (by rw [laid_filter]; exact laidMet_of_run 8 (run_all os args) (decide_eq_true (nodupN_spec (run_nodup os args))) (rows_of_blocks (run_rows os args))) (by kernel_rfl) (by kernel_rfl)
theorem own : ownKnob Tryz.prog.godebug = none := by kernel_rfl
end Go.Proofs.YthmpnnfejghhfaaGreatDoor
