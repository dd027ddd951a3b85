/- Has of the zero machine, of numbers that may not be. Conditions: none. -/
import Derived.Test.YtnbppchpgagliaaHas
namespace Go.Proofs.Ytnbppchpgagliaa
open Go.RowKit
theorem c_Has_zero (mc : Array Value) (w : World) (h : mc = zeroMC) :
    Calls Try.prog 33 #[.agg mc, .int .i64 (-1), .int .i64 0] w (Ret (.tuple #[.bool false, .int .i64 1]) w) := by
  subst h
  have := c_sweep_Has zeroMC Mach.zero (-1) 0 w (MachV.zero w _)
  rwa [sweepA_arg (by decide) (by decide)] at this
end Go.Proofs.Ytnbppchpgagliaa
