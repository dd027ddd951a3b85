/- Instructions as plain data: the struct, its checks, its packing. Conditions: none. -/
import Derived.Test.YtbkjhdohkdeniaaDoorOpen
import Derived.Test.YtbkjhdohkdeniaaDoorBits
namespace Go.Proofs.YtbkjhdohkdeniaaDoor
open Go.ChangeShapes Go.WideShapes Go.RowKit Go.Deep
set_option linter.unusedVariables false
set_option linter.unusedSimpArgs false
set_option maxRecDepth 100000
structure Inst where
  op : Int
  a : Int
  b : Int
  c : Int
theorem Inst.ext_iff' {a b : Inst} : (a.op = b.op ∧ a.a = b.a ∧ a.b = b.b ∧ a.c = b.c) ↔ a = b := by
  constructor
  · rintro ⟨h0, h1, h2, h3⟩
    cases a; cases b; simp_all
  · rintro rfl; exact ⟨rfl, rfl, rfl, rfl⟩
instance : DecidableEq Inst := fun a b => decidable_of_iff (a.op = b.op ∧ a.a = b.a ∧ a.b = b.b ∧ a.c = b.c) Inst.ext_iff'
structure Inst.Wf (k : Inst) : Prop where
  op : i64 k.op
  a : i64 k.a
  b : i64 k.b
  c : i64 k.c
def encX (x : Inst) : List Value := [.int .i64 x.op, .int .i64 x.a, .int .i64 x.b, .int .i64 x.c]
theorem cells_Inst : Tryd.prog.cellsOf 29 = 4 := by kernel_rfl
section
variable {H : Type} {enc : TypeId × Value → H} {w : World} {base : Nat} {sp : Nat → Bool} {held : Bool}
theorem trod_Inst {fuel : Nat} {cs : List Value} {x : DataW H × List MemPlace} (h : DataW.trod enc Tryd.prog w base sp held fuel 29 cs = some x) : ∃ k : Inst, k.Wf ∧ cs = encX k := by
  obtain ⟨xs, n, rfl, rfl, hl, hx, hf⟩ := DataW.trod_struct Tryd.underlying29 h
  have hl' : cs.length = 4 := hl.trans cells_Inst
  have hx' : xs.length = 4 := hx
  match cs, hl' with
  | [c0, c1, c2, c3], _ =>
    obtain ⟨y0, e0⟩ := some_at hx' (i := 0) (by omega)
    have g0 : DataW.trod enc Tryd.prog w base sp held n 3 [c0] = some y0 := field_at hf (i := 0) rfl rfl rfl cells_int e0
    obtain ⟨n0, z0, _, w0⟩ := DataW.trod_int Tryd.underlying3 g0
    obtain ⟨y1, e1⟩ := some_at hx' (i := 1) (by omega)
    have g1 : DataW.trod enc Tryd.prog w base sp held n 3 [c1] = some y1 := field_at hf (i := 1) rfl rfl rfl cells_int e1
    obtain ⟨n1, z1, _, w1⟩ := DataW.trod_int Tryd.underlying3 g1
    obtain ⟨y2, e2⟩ := some_at hx' (i := 2) (by omega)
    have g2 : DataW.trod enc Tryd.prog w base sp held n 3 [c2] = some y2 := field_at hf (i := 2) rfl rfl rfl cells_int e2
    obtain ⟨n2, z2, _, w2⟩ := DataW.trod_int Tryd.underlying3 g2
    obtain ⟨y3, e3⟩ := some_at hx' (i := 3) (by omega)
    have g3 : DataW.trod enc Tryd.prog w base sp held n 3 [c3] = some y3 := field_at hf (i := 3) rfl rfl rfl cells_int e3
    obtain ⟨n3, z3, _, w3⟩ := DataW.trod_int Tryd.underlying3 g3
    refine ⟨⟨n0, n1, n2, n3⟩, ⟨i64_of_wf w0, i64_of_wf w1, i64_of_wf w2, i64_of_wf w3⟩, ?_⟩
    simp only [List.cons.injEq, and_true] at z0 z1 z2 z3
    simp only [encX, List.cons.injEq, and_true]
    simp only [z0, z1, z2, z3, and_self]
end
def instL (i : Inst) : List Value := encX i
/-- what stands in field C of an instruction: 0 nothing, 1 a number, 2 a register, 3 permissions, 4 a question, 5 a mask; has it A, has it B -/
def shapeN (op : Int) : Bool × Bool × Int :=
  if op = 0 ∨ op = 19 then (false, false, 0) else if op = 20 ∨ op = 22 then (true, false, 0) else if op = 1 ∨ op = 9 then (true, false, 1) else if op = 2 ∨ op = 18 then (true, true, 0)
  else if op = 8 then (false, false, 1) else if op = 21 then (false, false, 5) else if op = 10 ∨ op = 11 then (true, true, 1) else if op = 14 then (true, true, 3) else if op = 17 then (true, true, 4) else (true, true, 2)
def lowC (c : Int) : Int := if c = 1 then -2048 else 0
def highC (c : Int) : Int := if c = 1 then 2047 else if c = 2 then 7 else if c = 3 then 127 else if c = 4 then 5 else if c = 5 then 255 else 0
def regB (n : Int) (has : Bool) : Bool := if has = true then inR n 0 7 else n == 0
def instOk (i : Inst) : Bool := inR i.op 0 22 && regB i.a (shapeN i.op).1 && regB i.b (shapeN i.op).2.1 && inR i.c (lowC (shapeN i.op).2.2) (highC (shapeN i.op).2.2)
def instE (i : Inst) : Int := if instOk i = true then 0 else 1
def packF (i : Inst) : Int × Int := if instOk i = true then (i.op + i.a * 32 + i.b * 256 + (i.c + 2048) * 2048, 0) else (0, 1)
def unpackF (n : Int) : Inst := ⟨n % 32, n / 32 % 8, n / 256 % 8, n / 2048 - 2048⟩
def instZ : Inst := ⟨0, 0, 0, 0⟩
def readF (n : Int) : Inst × Int := if instOk (unpackF n) = true then (unpackF n, 0) else (instZ, 5)

/-- the letter of field C's kind -/
def cByte (c : Int) : Int := if c = 1 then 110 else if c = 2 then 114 else if c = 3 then 112 else if c = 4 then 113 else if c = 5 then 109 else 0
def words : ByteArray := ⟨#[104, 97, 108, 116, 32, 115, 101, 116, 32, 99, 111, 112, 121, 32, 97, 100, 100, 32, 115, 117, 98, 32, 109, 117, 108, 32, 100, 105, 118, 32, 108, 101, 115, 115, 32, 106, 117, 109, 112, 32, 105, 102, 32, 108, 111, 97, 100, 32, 115, 116, 111, 114, 101, 32, 109, 111, 118, 101, 32, 110, 97, 114, 114, 111, 119, 32, 100, 114, 111, 112, 32, 115, 101, 97, 108, 32, 111, 112, 101, 110, 32, 97, 115, 107, 32, 99, 97, 108, 108, 32, 98, 97, 99, 107, 32, 104, 101, 114, 101, 32, 99, 108, 101, 97, 114, 32, 116, 101, 108, 108]⟩
def wordL : List ByteArray := [⟨#[104, 97, 108, 116]⟩, ⟨#[115, 101, 116]⟩, ⟨#[99, 111, 112, 121]⟩, ⟨#[97, 100, 100]⟩, ⟨#[115, 117, 98]⟩, ⟨#[109, 117, 108]⟩, ⟨#[100, 105, 118]⟩, ⟨#[108, 101, 115, 115]⟩, ⟨#[106, 117, 109, 112]⟩, ⟨#[105, 102]⟩, ⟨#[108, 111, 97, 100]⟩, ⟨#[115, 116, 111, 114, 101]⟩, ⟨#[109, 111, 118, 101]⟩, ⟨#[110, 97, 114, 114, 111, 119]⟩, ⟨#[100, 114, 111, 112]⟩, ⟨#[115, 101, 97, 108]⟩, ⟨#[111, 112, 101, 110]⟩, ⟨#[97, 115, 107]⟩, ⟨#[99, 97, 108, 108]⟩, ⟨#[98, 97, 99, 107]⟩, ⟨#[104, 101, 114, 101]⟩, ⟨#[99, 108, 101, 97, 114]⟩, ⟨#[116, 101, 108, 108]⟩]
def wordOf (op : Int) : ByteArray := wordL.getD op.toNat ⟨#[]⟩
/-- the reference's table, one text, its rows, the parts of a row -/
def tableB : ByteArray := ⟨#[104, 97, 108, 116, 59, 115, 101, 116, 32, 65, 32, 110, 59, 99, 111, 112, 121, 32, 65, 32, 66, 59, 97, 100, 100, 32, 65, 32, 66, 32, 114, 59, 115, 117, 98, 32, 65, 32, 66, 32, 114, 59, 109, 117, 108, 32, 65, 32, 66, 32, 114, 59, 100, 105, 118, 32, 65, 32, 66, 32, 114, 59, 108, 101, 115, 115, 32, 65, 32, 66, 32, 114, 59, 106, 117, 109, 112, 32, 110, 59, 105, 102, 32, 65, 32, 110, 59, 108, 111, 97, 100, 32, 65, 32, 66, 32, 110, 59, 115, 116, 111, 114, 101, 32, 65, 32, 66, 32, 110, 59, 109, 111, 118, 101, 32, 65, 32, 66, 32, 114, 59, 110, 97, 114, 114, 111, 119, 32, 65, 32, 66, 32, 114, 59, 100, 114, 111, 112, 32, 65, 32, 66, 32, 112, 59, 115, 101, 97, 108, 32, 65, 32, 66, 32, 114, 59, 111, 112, 101, 110, 32, 65, 32, 66, 32, 114, 59, 97, 115, 107, 32, 65, 32, 66, 32, 113, 59, 99, 97, 108, 108, 32, 65, 32, 66, 59, 98, 97, 99, 107, 59, 104, 101, 114, 101, 32, 65, 59, 99, 108, 101, 97, 114, 32, 109, 59, 116, 101, 108, 108, 32, 65]⟩
def tableL : List ByteArray := [⟨#[104, 97, 108, 116]⟩, ⟨#[115, 101, 116, 32, 65, 32, 110]⟩, ⟨#[99, 111, 112, 121, 32, 65, 32, 66]⟩, ⟨#[97, 100, 100, 32, 65, 32, 66, 32, 114]⟩, ⟨#[115, 117, 98, 32, 65, 32, 66, 32, 114]⟩, ⟨#[109, 117, 108, 32, 65, 32, 66, 32, 114]⟩, ⟨#[100, 105, 118, 32, 65, 32, 66, 32, 114]⟩, ⟨#[108, 101, 115, 115, 32, 65, 32, 66, 32, 114]⟩, ⟨#[106, 117, 109, 112, 32, 110]⟩, ⟨#[105, 102, 32, 65, 32, 110]⟩, ⟨#[108, 111, 97, 100, 32, 65, 32, 66, 32, 110]⟩, ⟨#[115, 116, 111, 114, 101, 32, 65, 32, 66, 32, 110]⟩, ⟨#[109, 111, 118, 101, 32, 65, 32, 66, 32, 114]⟩, ⟨#[110, 97, 114, 114, 111, 119, 32, 65, 32, 66, 32, 114]⟩, ⟨#[100, 114, 111, 112, 32, 65, 32, 66, 32, 112]⟩, ⟨#[115, 101, 97, 108, 32, 65, 32, 66, 32, 114]⟩, ⟨#[111, 112, 101, 110, 32, 65, 32, 66, 32, 114]⟩, ⟨#[97, 115, 107, 32, 65, 32, 66, 32, 113]⟩, ⟨#[99, 97, 108, 108, 32, 65, 32, 66]⟩, ⟨#[98, 97, 99, 107]⟩, ⟨#[104, 101, 114, 101, 32, 65]⟩, ⟨#[99, 108, 101, 97, 114, 32, 109]⟩, ⟨#[116, 101, 108, 108, 32, 65]⟩]
def partsL : List (List ByteArray) := [[⟨#[104, 97, 108, 116]⟩], [⟨#[115, 101, 116]⟩, ⟨#[65]⟩, ⟨#[110]⟩], [⟨#[99, 111, 112, 121]⟩, ⟨#[65]⟩, ⟨#[66]⟩], [⟨#[97, 100, 100]⟩, ⟨#[65]⟩, ⟨#[66]⟩, ⟨#[114]⟩], [⟨#[115, 117, 98]⟩, ⟨#[65]⟩, ⟨#[66]⟩, ⟨#[114]⟩], [⟨#[109, 117, 108]⟩, ⟨#[65]⟩, ⟨#[66]⟩, ⟨#[114]⟩], [⟨#[100, 105, 118]⟩, ⟨#[65]⟩, ⟨#[66]⟩, ⟨#[114]⟩], [⟨#[108, 101, 115, 115]⟩, ⟨#[65]⟩, ⟨#[66]⟩, ⟨#[114]⟩], [⟨#[106, 117, 109, 112]⟩, ⟨#[110]⟩], [⟨#[105, 102]⟩, ⟨#[65]⟩, ⟨#[110]⟩], [⟨#[108, 111, 97, 100]⟩, ⟨#[65]⟩, ⟨#[66]⟩, ⟨#[110]⟩], [⟨#[115, 116, 111, 114, 101]⟩, ⟨#[65]⟩, ⟨#[66]⟩, ⟨#[110]⟩], [⟨#[109, 111, 118, 101]⟩, ⟨#[65]⟩, ⟨#[66]⟩, ⟨#[114]⟩], [⟨#[110, 97, 114, 114, 111, 119]⟩, ⟨#[65]⟩, ⟨#[66]⟩, ⟨#[114]⟩], [⟨#[100, 114, 111, 112]⟩, ⟨#[65]⟩, ⟨#[66]⟩, ⟨#[112]⟩], [⟨#[115, 101, 97, 108]⟩, ⟨#[65]⟩, ⟨#[66]⟩, ⟨#[114]⟩], [⟨#[111, 112, 101, 110]⟩, ⟨#[65]⟩, ⟨#[66]⟩, ⟨#[114]⟩], [⟨#[97, 115, 107]⟩, ⟨#[65]⟩, ⟨#[66]⟩, ⟨#[113]⟩], [⟨#[99, 97, 108, 108]⟩, ⟨#[65]⟩, ⟨#[66]⟩], [⟨#[98, 97, 99, 107]⟩], [⟨#[104, 101, 114, 101]⟩, ⟨#[65]⟩], [⟨#[99, 108, 101, 97, 114]⟩, ⟨#[109]⟩], [⟨#[116, 101, 108, 108]⟩, ⟨#[65]⟩]]
end Go.Proofs.YtbkjhdohkdeniaaDoor
