/- What the parts say: The frame of the laws on texts: their rows list Go's tables, numbers' errors too. Conditions: none. -/
import Derived.Test.YtbkjhdohkdeniaaGreatDoorP44
import Derived.Test.YtbkjhdohkdeniaaGreatDoorP23
import Derived.Stop.LaidErr
set_option linter.unusedVariables false
set_option linter.unusedSimpArgs false
namespace Go.Proofs.YtbkjhdohkdeniaaGreatDoor
open Go.ChangeShapes Go.WideShapes Go.ChangeAt Go.RowKit
set_option maxRecDepth 100000
section
variable {H : Type} {enc : TypeId × Value → H}
theorem liftedU {C : Checked} {os : Os} {f : FuncId} {fn : Func} {s : ChangeSpec} {F : Stop.Interp} {tb : TypeId} {laid : List (String × DataW Unit)} (c : Option ((H : Type) → List (DataW H) → Bool))
    (own : ownKnob C.prog.godebug = none) (started : os.Started) (noInit : C.prog.inits.idxOf? f = none) (hf : C.prog.funcs[f]? = some fn)
    (witness : ∃ (w : World) (tape : Tape) (i : Input), w.os = os ∧ (w.forCall tape i).Shaped C.prog ∧ i.vars = [] ∧ Input.okWide C.prog (w.forCall tape i) .any w.heap.size f i ∧
      ({ OpenSpec.ofChange s with cond := c } : OpenSpec).preRow enc C.prog fn [] false laid (w.forCall tape i).memory i.args ∧ ({} : Assume).holds C.prog (lone (Frame.enter C.prog f i.args .normal) [] (w.forCall tape i)))
    (hl : laidOutB C.prog = true) (hread : fn.params.toList.all (fun t => C.prog.readableRec t && decide (t < C.prog.types.size)) = true) (hvars : s.vars = []) (hrt : fn.resultTypes = #[tb]) (htb : C.prog.underlying tb = some .bool)
    (hfn : ∀ ds : List (DataW H), ds.length = fn.params.size → (s.fn H ds).results = [.lit (.bool true)] ∧ (s.fn H ds).args = ds ∧ (s.fn H ds).vars = [])
    (walk : ∀ (W : World) (base : Nat) (args : Array Value) (ds : List (DataW H)) (ps : List MemPlace),
      (∀ (j : Nat) t v, fn.params[j]? = some t → args[j]? = some v → Value.okWide C.prog W .any base t v) →
      DataW.TrodAll enc C.prog W 0 (fun _ => true) true fn.params.toList args.toList ds ps → (∀ x ∈ ps, x.block < W.heap.size) →
      (∀ k, c = some k → k H ds = true) → (DataW.weightsEach C.prog fn.params.toList ds).all (· ≤ reachBytes) = true →
      laidMetH C.prog laid W → W.ShapedOpen C.prog →
      Calls C.prog f args W fun e W' => e = .returned (.bool true) ∧ Below W.heap.size W W') :
    ReturnsInHanded {} C os f .any (({ OpenSpec.ofChange s with cond := c } : OpenSpec).preRow enc C.prog fn [] false laid) ((({ OpenSpec.ofChange s with cond := c } : OpenSpec).at F).post enc C.prog fn false true false false) := by
  refine returnsInHanded_of_row own started noInit hf witness ?_
  intro W base args ds gs before hval hW _ hcd hsz hL hSh _
  have hW1 : DataW.Whole enc C.prog fn.params.toList s.vars false W args.toList ds gs before := hW
  have hlt := hW1.lt
  have hW0 := hW1
  obtain ⟨p, q, hA, hV, rfl, hfz, hnd⟩ := hW1
  rw [hvars] at hV
  obtain ⟨rfl, rfl⟩ := trodVars_none hV
  have hlen : ds.length = fn.params.size := by
    have : ∀ (ts : List TypeId) (vs : List Value) (ds : List (DataW H)) (ps : List MemPlace), DataW.TrodAll enc C.prog W 0 (fun _ => true) true ts vs ds ps → ds.length = ts.length := by
      intro ts
      induction ts with
      | nil => intro vs ds ps h; cases vs <;> cases ds <;> first | rfl | (exact h.elim)
      | cons t ts ih =>
        intro vs ds ps h
        cases vs <;> cases ds <;> first | (exact h.elim) | (obtain ⟨_, _, _, h2, _⟩ := h; simp [ih _ _ _ h2])
    simpa using this _ _ _ _ hA
  have hvt : ({ OpenSpec.ofChange s with cond := c } : OpenSpec).bare.plain.varTypes C.prog = [] := by
    show s.vars.filterMap _ = []
    rw [hvars]; rfl
  rw [hvt, List.append_nil, List.append_nil] at hsz
  refine (walk W base args ds p hval hA (fun x hx => hlt x (by simp [hx])) (fun k hk => by have := hcd k hk; rwa [List.append_nil] at this) hsz hL hSh).mono fun e W' ⟨he, hb⟩ => ⟨_, he, ?_⟩
  exact post_true hl hread hvars hrt htb (hfn ds hlen) hW0 hb
end
theorem pow_tab : Rows.laid_internal_strconv_uint64pow10 (H := Unit) = Lib.tabData .u64 Lib.pow10Tab := by kernel_rfl
theorem pow_of_met {W : World} {r : List (String × DataW Unit)} (h : laidMet Tryz.prog (("math/bits.deBruijn32tab", Rows.laid_math_bits_deBruijn32tab) :: ("math/bits.deBruijn64tab", Rows.laid_math_bits_deBruijn64tab) :: ("internal/strconv.uint64pow10", Rows.laid_internal_strconv_uint64pow10) :: r) W) : Lib.TabIs Tryz.prog W "internal/strconv.uint64pow10" .u64 Lib.pow10Tab := by
  have h3 := laid_tail (laid_tail h)
  rw [pow_tab] at h3
  exact Lib.tabIs_of_head gPow (t := 317) (by kernel_rfl) Tryz.underlying317 Tryz.underlying67 (by kernel_rfl) (by kernel_rfl) h3
def cellsD : DataW Unit → Array Value
  | .agg l => (l.map fun | .lit (.int k z) => Value.int k z | _ => undef).toArray
  | _ => #[]
noncomputable def laidWorld (os : Os) : World :=
  { World.doorLaid Tryz.prog 96 os with heap := (World.doorLaid Tryz.prog 96 os).heap.modify 2 fun
      | .cells _ t fz => .cells (cellsD Go.Pinned.utf8First) t fz
      | o => o }
def samePl : MemPlace → MemPlace → Bool
  | .cell b o, .cell c q => bif Nat.beq o q then Nat.beq b c else false
  | .map b, .map c => Nat.beq b c
  | _, _ => false
def notIn (x : MemPlace) : List MemPlace → Bool
  | [] => true
  | y :: l => bif samePl x y then false else notIn x l
def nodupN : List MemPlace → Bool
  | [] => true
  | x :: l => bif notIn x l then nodupN l else false
theorem samePl_self (x : MemPlace) : samePl x x = true := by cases x <;> simp [samePl]
theorem notIn_spec {x : MemPlace} : ∀ {l : List MemPlace}, notIn x l = true → x ∉ l
  | [], _ => by simp
  | y :: l, h => by
    unfold notIn at h
    cases hs : samePl x y
    · rw [hs] at h
      intro hm
      rcases List.mem_cons.1 hm with rfl | hm
      · rw [samePl_self] at hs; cases hs
      · exact notIn_spec h hm
    · rw [hs] at h; cases h
theorem nodupN_spec : ∀ {l : List MemPlace}, nodupN l = true → l.Nodup
  | [], _ => List.nodup_nil
  | x :: l, h => by
    unfold nodupN at h
    cases hn : notIn x l
    · rw [hn] at h; cases h
    · rw [hn] at h
      exact List.nodup_cons.2 ⟨notIn_spec hn, nodupN_spec h⟩
def rowOk (P : Program) (w : World) : Option Obj → Bool
  | some (.cells cs _ (0, 0)) => cs.all (fun v => match v with | .iface u x => Value.okWideB P w u x | _ => true)
  | _ => false
def blkP : MemPlace → Option Nat
  | .cell b _ => some b
  | .map _ => none
theorem rows_of_blocks {P : Program} {w : World} {ps : List MemPlace} (h : ((ps.filterMap blkP).eraseDups.all fun b => rowOk P w w.heap[b]?) = true) : laidRowsB P w ps = true := by
  unfold laidRowsB
  rw [List.all_eq_true]
  intro p hp
  cases p with
  | map b => rfl
  | cell b o =>
    have hb := List.all_eq_true.1 h b (List.mem_eraseDups.2 (List.mem_filterMap.2 ⟨_, hp, rfl⟩))
    simp only [World.cell?]
    cases hw : w.heap[b]? with
    | none => rw [hw] at hb; cases hb
    | some x =>
      rw [hw] at hb
      cases x with
      | cells cs t fz =>
        obtain ⟨f1, f2⟩ := fz
        unfold rowOk at hb
        match f1, f2, hb with
        | 0, 0, hb =>
          simp only [Bool.true_and, Option.isSome_none, Bool.false_eq_true, if_false]
          cases hc : cs[o]? with
          | none => rfl
          | some v =>
            have hv := Array.all_eq_true.1 hb o (Array.getElem?_eq_some_iff.1 hc).1
            rw [(Array.getElem?_eq_some_iff.1 hc).2] at hv
            cases v <;> first | rfl | exact hv
      | _ => cases hb
noncomputable def wL (os : Os) (args : Array Value) : World := ((laidWorld os).forCall (fun _ _ => 0) ⟨#[], args, []⟩).memory
noncomputable def psL (l : List (String × DataW Unit)) (os : Os) (args : Array Value) : List MemPlace := ((DataW.laidRun Tryz.prog (wL os args) 8 (l.map (·.1))).map (·.2)).getD []
theorem met_of_run {l : List (String × DataW Unit)} (os : Os) (args : Array Value) (h1 : (DataW.laidRun Tryz.prog (wL os args) 8 (l.map (·.1))).map (·.1) = some l) (h2 : nodupN (psL l os args) = true) (h3 : (((psL l os args).filterMap blkP).eraseDups.all fun b => rowOk Tryz.prog (wL os args) (wL os args).heap[b]?) = true) : laidMet Tryz.prog l (wL os args) := by
  have hr : DataW.laidRun Tryz.prog (wL os args) 8 (l.map (·.1)) = some (l, psL l os args) := by
    unfold psL
    generalize DataW.laidRun Tryz.prog (wL os args) 8 (l.map (·.1)) = r at h1
    cases r with
    | none => cases h1
    | some x =>
      obtain ⟨a, b⟩ := x
      obtain rfl : a = l := Option.some.inj h1
      rfl
  exact laidMet_of_run 8 hr (decide_eq_true (nodupN_spec h2)) (rows_of_blocks h3)
theorem own : ownKnob Tryz.prog.godebug = none := by kernel_rfl
end Go.Proofs.YtbkjhdohkdeniaaGreatDoor
namespace Go.Proofs.YtbkjhdohkdeniaaGreatDoor
open Go.ChangeShapes Go.WideShapes Go.ChangeAt Go.RowKit
set_option maxRecDepth 100000
def laid9 : List (String × DataW Unit) := [("math/bits.deBruijn32tab", Rows.laid_math_bits_deBruijn32tab), ("math/bits.deBruijn64tab", Rows.laid_math_bits_deBruijn64tab), ("internal/strconv.uint64pow10", Rows.laid_internal_strconv_uint64pow10), ("unicode/utf8.acceptRanges", Rows.laid_unicode_utf8_acceptRanges), ("strconv.ErrRange", Rows.laid_strconv_ErrRange), ("strconv.ErrSyntax", Rows.laid_strconv_ErrSyntax), ("unicode.White_Space", Rows.laid_unicode_White_Space), ("strings.asciiSpace", Rows.laid_strings_asciiSpace), ("unicode/utf8.first", Rows.laid_unicode_utf8_first)]
theorem env_of_two {W : World} {r : List (String × DataW Unit)} (h : laidMet Tryz.prog (("strings.asciiSpace", Rows.laid_strings_asciiSpace) :: r) W) (hSh : W.ShapedOpen Tryz.prog) : Env W := by
  rw [space_tab] at h
  have ht := Lib.tabIs_of_head gSpace (t := 285) (by kernel_rfl) Tryz.underlying285 Tryz.underlying5 (by kernel_rfl) (by kernel_rfl) h
  refine ⟨fun c hc => ?_, ?_⟩
  · rw [ht.cell gSpace c (by rw [Lib.asciiSpaceTab_length]; exact hc), Lib.asciiSpaceTab_at c hc]
  · exact cell_of_shapedOpen_int (zero := #[.int .i64 0]) (t := 3) hSh (of_decide_eq_true (by kernel_rfl)) (by kernel_rfl) rfl (by kernel_rfl) (by kernel_rfl) Tryz.underlying3
theorem tpStar : "*" ++ "errors.errorString" = "*errors.errorString" := by decide
theorem tpName (u : TypeId) (h : Tryz.prog.typeName? 3 u = some "*errors.errorString") : u = 324 :=
  typeName_ptr_named (nm := "errors.errorString") (by rw [tpStar]; kernel_rfl) (by kernel_rfl) (by decide) u (by rw [tpStar]; exact h)
theorem err_of {W : World} {n : String} {text : List UInt8} {r : List (String × DataW Unit)} {g : Nat} (h : laidMet Tryz.prog ((n, .iface "*errors.errorString" (.ptr (.agg [.lit (.string text)]))) :: r) W) (hg : Tryz.prog.globalNamed n = some g) (ht : (Tryz.prog.globals[g]?).map (·.type) = some 221) : ∃ tp p, W.var? Tryz.prog n = some #[.iface tp p] := by
  obtain ⟨a0, s0, hv0, -, -, -⟩ := laid_sentinel h hg ht Tryz.underlying221 tpName Tryz.underlying324 Tryz.underlying326 rfl rfl Tryz.underlying9 (by kernel_rfl) (by kernel_rfl)
  exact ⟨_, _, hv0⟩
theorem envE_of9 {W : World} (hL : laidMetH Tryz.prog laid9 W) (hSh : W.ShapedOpen Tryz.prog) : EnvE W := by
  rw [MakeChecks.laidMetH_plain _ _ _ (by kernel_rfl)] at hL
  have h4 := laid_tail (laid_tail (laid_tail (laid_tail hL)))
  exact ⟨⟨env_of_two (laid_tail (laid_tail (laid_tail h4))) hSh, pow_of_met hL⟩, err_of (laid_tail h4) gSyn (by kernel_rfl), err_of h4 gRng (by kernel_rfl)⟩
theorem run_one9 (os : Os) (args : Array Value) : (DataW.laidRun Tryz.prog (wL os args) 8 (laid9.map (·.1))).map (·.1) = some laid9 := by kernel_rfl
theorem run_nodup9 (os : Os) (args : Array Value) : nodupN (psL laid9 os args) = true := by kernel_rfl
theorem run_rows9 (os : Os) (args : Array Value) : (((psL laid9 os args).filterMap blkP).eraseDups.all fun b => rowOk Tryz.prog (wL os args) (wL os args).heap[b]?) = true := by kernel_rfl
theorem laid_filter9 : laid9.filter (fun x => x.2.handleName?.isNone) = laid9 := by kernel_rfl
theorem met9 (os : Os) (args : Array Value) : laidMetH Tryz.prog laid9 (wL os args) :=
  laidMetH_of_parts3 (fuel := 8) (by rw [laid_filter9]; exact met_of_run os args (run_one9 os args) (run_nodup9 os args) (run_rows9 os args)) (by kernel_rfl) (by kernel_rfl)
end Go.Proofs.YtbkjhdohkdeniaaGreatDoor
