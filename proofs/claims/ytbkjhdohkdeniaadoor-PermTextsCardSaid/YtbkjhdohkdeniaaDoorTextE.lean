/- What Go's tables hold, and numerals: strconv.Itoa and the reference's Digits tell a number alike. Conditions: Go's table of powers holds what it was laid with. -/
import Derived.Test.YtbkjhdohkdeniaaDoorInstC
import Derived.Test.YtbkjhdohkdeniaaDoorTextM
import Derived.Test.YtbkjhdohkdeniaaDoorBytes2
import Derived.Lib.SmallJoins
import Derived.Lib.AppendIntMem
namespace Go.Proofs.YtbkjhdohkdeniaaDoor
open Go.RowKit
set_option linter.unusedVariables false
set_option linter.unusedSimpArgs false
set_option maxRecDepth 100000
theorem below_drewN (w : World) (k : Nat) : Below w.heap.size w (w.drewN k) := ⟨rfl, rfl, rfl, Nat.le_refl _, fun _ _ => rfl⟩
structure EnvT (w : World) : Prop where
  env : Env w
  pow : Lib.TabIs Tryd.prog w "internal/strconv.uint64pow10" .u64 Lib.pow10Tab
theorem gPow : Tryd.prog.globalNamed "internal/strconv.uint64pow10" = some 7 := by kernel_rfl
theorem EnvT.below {w w' : World} (h : EnvT w) (hb : Below w.heap.size w w') : EnvT w' := ⟨h.env.below hb, Go.Joins.tab_stays gPow h.pow hb (Nat.le_refl _)⟩
theorem EnvT.inv {w w' : World} {rs : List Res} (h : EnvT w) (hI : Inv w rs w') : EnvT w' := h.below hI.below
theorem i64_of {n : Int} (h : i64 n) : -9223372036854775808 ≤ n ∧ n ≤ 9223372036854775807 := h
theorem c_Itoa (n : Int) (hn : i64 n) (w : World) (hE : EnvT w) : Calls Tryd.prog 24 #[.int .i64 n] w (Ret (.string (str (Lib.itoa n))) w) := by
  refine (Tryd.strconv_Itoa n (i64_of hn).1 (i64_of hn).2 w hE.pow).mono ?_
  rintro e w' ⟨rfl, k, os, rfl⟩
  exact ⟨rfl, Lib.below_grow _ w (Nat.le_refl _) k os⟩
theorem c_JoinBox {w0 w : World} {rs : List Res} (hI : Inv w0 rs w) (n : Nat) {gp : Nat} {cs : Array Value} {t : TypeId} (hi : rs[n]? = some (.box gp t cs)) (xs : List ByteArray) (hx : ∀ (k : Nat) x, xs[k]? = some x → cs[k]? = some (.string x)) (b : UInt8) (out : List UInt8) (ho : Lib.join (xs.map (·.data.toList)) [b] = out) (hl : out.length ≤ 1000000) (hN : xs.length ≤ 100000) (m c : Nat) (hm : m = xs.length) (hc : m ≤ c) :
    Calls Tryd.prog 29 #[.slice (some ⟨gp, 0, none⟩) m c, .string ⟨#[b]⟩] w (Ret (.string (str out)) w) := by
  subst hm ho
  refine (Tryd.strings_Join gp 0 c xs ⟨#[b]⟩ w (fun k x h => by rw [Nat.zero_add]; exact (hI.cell hi k).trans (hx k x h)) (hI.lt hi rfl) (by omega) hc (by show (Lib.join _ [b]).length ≤ _; omega)).mono ?_
  rintro e w' ⟨rfl, hb⟩
  exact ⟨rfl, hb⟩
end Go.Proofs.YtbkjhdohkdeniaaDoor
