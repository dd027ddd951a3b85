/- The frame of the laws that read texts: their rows list Go's tables and numbers' errors. Conditions: none. -/
import Derived.Test.YtbkjhdohkdeniaaDoorLawT
import Derived.Test.YtbkjhdohkdeniaaDoorParseE
namespace Go.Proofs.YtbkjhdohkdeniaaDoor
open Go.ChangeShapes Go.WideShapes Go.ChangeAt Go.RowKit
set_option linter.unusedVariables false
set_option linter.unusedSimpArgs false
set_option maxRecDepth 100000
/-- what a row lists that reads numbers -/
def laid9 : List (String × DataW Unit) := [("math/bits.deBruijn32tab", Rows.laid_math_bits_deBruijn32tab), ("math/bits.deBruijn64tab", Rows.laid_math_bits_deBruijn64tab), ("internal/strconv.uint64pow10", Rows.laid_internal_strconv_uint64pow10), ("unicode/utf8.acceptRanges", Rows.laid_unicode_utf8_acceptRanges), ("strconv.ErrRange", Rows.laid_strconv_ErrRange), ("strconv.ErrSyntax", Rows.laid_strconv_ErrSyntax), ("unicode.White_Space", Rows.laid_unicode_White_Space), ("strings.asciiSpace", Rows.laid_strings_asciiSpace), ("unicode/utf8.first", Rows.laid_unicode_utf8_first)]
theorem env_of_two {W : World} {r : List (String × DataW Unit)} (h : laidMet Tryd.prog (("strings.asciiSpace", Rows.laid_strings_asciiSpace) :: r) W) (hSh : W.ShapedOpen Tryd.prog) : Env W := by
  rw [space_tab] at h
  have ht := Lib.tabIs_of_head gSpace (t := 96) (by kernel_rfl) Tryd.underlying96 Tryd.underlying5 (by kernel_rfl) (by kernel_rfl) h
  refine ⟨fun c hc => ?_, ?_⟩
  · rw [ht.cell gSpace c (by rw [Lib.asciiSpaceTab_length]; exact hc), Lib.asciiSpaceTab_at c hc]
  · exact cell_of_shapedOpen_int (zero := #[.int .i64 0]) (t := 3) hSh (of_decide_eq_true (by kernel_rfl)) (by kernel_rfl) rfl (by kernel_rfl) (by kernel_rfl) Tryd.underlying3
theorem tpStar : "*" ++ "errors.errorString" = "*errors.errorString" := by decide
theorem tpName (u : TypeId) (h : Tryd.prog.typeName? 3 u = some "*errors.errorString") : u = 146 :=
  typeName_ptr_named (nm := "errors.errorString") (by rw [tpStar]; kernel_rfl) (by kernel_rfl) (by decide) u (by rw [tpStar]; exact h)
theorem err_of {W : World} {n : String} {text : List UInt8} {r : List (String × DataW Unit)} {g : Nat} (h : laidMet Tryd.prog ((n, .iface "*errors.errorString" (.ptr (.agg [.lit (.string text)]))) :: r) W) (hg : Tryd.prog.globalNamed n = some g) (ht : (Tryd.prog.globals[g]?).map (·.type) = some 61) : ∃ tp p, W.var? Tryd.prog n = some #[.iface tp p] := by
  obtain ⟨a0, s0, hv0, -, -, -⟩ := laid_sentinel h hg ht Tryd.underlying61 tpName Tryd.underlying146 Tryd.underlying148 rfl rfl Tryd.underlying9 (by kernel_rfl) (by kernel_rfl)
  exact ⟨_, _, hv0⟩
theorem envE_of9 {W : World} (hL : laidMetH Tryd.prog laid9 W) (hSh : W.ShapedOpen Tryd.prog) : EnvE W := by
  rw [MakeChecks.laidMetH_plain _ _ _ (by kernel_rfl)] at hL
  have h4 := laid_tail (laid_tail (laid_tail (laid_tail hL)))
  exact ⟨⟨env_of_two (laid_tail (laid_tail (laid_tail h4))) hSh, pow_of_met hL⟩, err_of (laid_tail h4) gSyn (by kernel_rfl), err_of h4 gRng (by kernel_rfl)⟩
theorem run_one9 (os : Os) (args : Array Value) : (DataW.laidRun Tryd.prog (wL os args) 8 (laid9.map (·.1))).map (·.1) = some laid9 := by kernel_rfl
theorem run_nodup9 (os : Os) (args : Array Value) : nodupN (psL laid9 os args) = true := by kernel_rfl
theorem run_rows9 (os : Os) (args : Array Value) : (((psL laid9 os args).filterMap blkP).eraseDups.all fun b => rowOk Tryd.prog (wL os args) (wL os args).heap[b]?) = true := by kernel_rfl
theorem laid_filter9 : laid9.filter (fun x => x.2.handleName?.isNone) = laid9 := by kernel_rfl
theorem met9 (os : Os) (args : Array Value) : laidMetH Tryd.prog laid9 (wL os args) :=
  laidMetH_of_parts3 (fuel := 8) (by rw [laid_filter9]; exact met_of_run os args (run_one9 os args) (run_nodup9 os args) (run_rows9 os args)) (by kernel_rfl) (by kernel_rfl)
end Go.Proofs.YtbkjhdohkdeniaaDoor
