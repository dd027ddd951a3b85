/- '==' and '!=' on keys, values and pieces: as the plain data are. Conditions: none. -/
import Derived.Test.YtbkjhdohkdeniaaDoorModel
import Derived.Laws.StructEq
namespace Go.Proofs.YtbkjhdohkdeniaaDoor
open Go.RowKit
set_option linter.unusedVariables false
set_option linter.unusedSimpArgs false
set_option maxRecDepth 100000

@[go_sem] theorem Key.eta (k : Key) : Key.mk k.perm k.base k.len k.pos k.tag = k := rfl
@[go_sem] theorem Val.eta (v : Val) : Val.mk v.is v.n v.key = v := rfl
theorem key_eq {a1 a2 a3 a4 a5 b1 b2 b3 b4 b5 : Int} : (Key.mk a1 a2 a3 a4 a5 = Key.mk b1 b2 b3 b4 b5) ↔ (a1 = b1 ∧ a2 = b2 ∧ a3 = b3 ∧ a4 = b4 ∧ a5 = b5) :=
  ⟨fun h => Key.ext_iff'.2 h, fun h => Key.ext_iff'.1 h⟩

theorem val_eq {ai bi : Bool} {an bn : Int} {a b : Key} : (Val.mk ai an a = Val.mk bi bn b) ↔ (ai = bi ∧ an = bn ∧ a = b) :=
  ⟨fun h => Val.ext_iff'.2 h, fun h => Val.ext_iff'.1 h⟩
end Go.Proofs.YtbkjhdohkdeniaaDoor
