/- The law CellReads: Read returns what the reference returns, for all strings. Conditions: none. -/
import Derived.Test.YtmalaomcolgfcaaReadRok
import Derived.Test.YtmalaomcolgfcaaReadB
import Derived.Test.YtmalaomcolgfcaaReadK
import Derived.Test.YtmalaomcolgfcaaLaw
import Derived.Test.YtmalaomcolgfcaaOpen
namespace Go.Proofs.Ytmalaomcolgfcaa
open Go.ChangeShapes Go.WideShapes Go.ChangeAt Go.RowKit
set_option linter.unusedVariables false
set_option linter.unusedSimpArgs false
set_option maxRecDepth 100000
/-- both sides' answer of ten bytes with a right sum is one: the first byte picks -/
theorem packL_num (d1 d2 d3 d4 : UInt8) : (packL (numV d1 d2 d3 d4)).head? = some 0 := rfl
theorem packL_key (d0 d1 d2 d3 d4 d5 d6 d7 d8 : UInt8) : (packL (keyV d0 d1 d2 d3 d4 d5 d6 d7 d8)).head? = some 1 := rfl
theorem readR_key {v u : Val} {d0 : UInt8} {l : List UInt8} (h : d0 = 1) (hv : (packL v).head? = some 0) : readR v u (d0 :: l) = readF u (d0 :: l) := by
  unfold readR
  rw [if_neg]
  rintro ⟨-, hp⟩
  rw [hp, h] at hv
  simp at hv
theorem readR_num {v u : Val} {d0 : UInt8} {l : List UInt8} (h : ¬ d0 = 1) (hu : (packL u).head? = some 1) : readR v u (d0 :: l) = readF v (d0 :: l) := by
  unfold readR readF
  by_cases hv : valE v = 0 ∧ packL v = d0 :: l
  · rw [if_pos hv, if_pos hv]
  · rw [if_neg hv, if_neg hv, if_neg]
    rintro ⟨-, hp⟩
    rw [hp] at hu
    exact h (by simpa using hu)
/-- Read and the reference answer alike -/
theorem reads (s : ByteArray) : ∃ (v : Val) (e : Int), (∀ w, Calls Try.prog 42 #[.string s] w (Ret (.tuple #[.agg #[.bool v.is, .int .i64 v.n, .int .i64 v.key.perm, .int .i64 v.key.base, .int .i64 v.key.len, .int .i64 v.key.pos, .int .i64 v.key.tag], .int .i64 e]) w)) ∧ (∀ w, Calls Try.prog 43 #[.string s] w (Ret (.tuple #[.agg #[.bool v.is, .int .i64 v.n, .int .i64 v.key.perm, .int .i64 v.key.base, .int .i64 v.key.len, .int .i64 v.key.pos, .int .i64 v.key.tag], .int .i64 e]) w)) := by
  by_cases h : s.size = 10
  · obtain ⟨l, rfl⟩ : ∃ l, s = str l := ⟨_, (str_of s).symm⟩
    rw [str_size] at h
    match l, h with
    | [d0, d1, d2, d3, d4, d5, d6, d7, d8, d9], _ =>
      by_cases hs : sumB [d0, d1, d2, d3, d4, d5, d6, d7, d8] % 256 = d9.toNat
      · by_cases h0 : d0 = 1
        · exact ⟨_, _, c_Read_key d0 d1 d2 d3 d4 d5 d6 d7 d8 d9 hs h0 _ rfl, r_Read_ok d0 d1 d2 d3 d4 d5 d6 d7 d8 d9 hs _ (readR_key h0 (packL_num d1 d2 d3 d4)).symm⟩
        · exact ⟨_, _, c_Read_num d0 d1 d2 d3 d4 d5 d6 d7 d8 d9 hs h0 _ rfl, r_Read_ok d0 d1 d2 d3 d4 d5 d6 d7 d8 d9 hs _ (readR_num h0 (packL_key d0 d1 d2 d3 d4 d5 d6 d7 d8)).symm⟩
      · exact ⟨⟨false, 0, Key.zero⟩, 6, c_Read_bad d0 d1 d2 d3 d4 d5 d6 d7 d8 d9 hs, r_Read_bad d0 d1 d2 d3 d4 d5 d6 d7 d8 d9 hs⟩
  · exact ⟨⟨false, 0, Key.zero⟩, _, c_Read_len s h, r_Read_len s h⟩
theorem cellReads_walk (s : ByteArray) (w : World) : Calls Try.prog 13 #[.string s] w (Ret (.bool true) w) := by
  obtain ⟨v, e, hc, hr⟩ := reads s
  have HC := Lib.hid hc
  have HR := Lib.hid hr
  clear hc hr
  go_enter Try.func13, Try.ntmps13
  go_wp2_with (first | (go_at_call 42; (with_reducible refine (HC.out w).mono ?_); rintro e1 w1 ⟨rfl, hb1⟩; have hz1 := hb1.size; dsimp only) | (go_at_call 43; (with_reducible refine (HR.out _).mono ?_); intro e w2 hr; obtain ⟨rfl, hb, hc, hf, hz⟩ := hr.use; (try simp only [World.size_alloc, World.size_setCell, World.size_drew] at hz); clear hr; have c0 := fun o => hc (w1.heap.size) o (by (try simp only [World.size_alloc, World.size_setCell, World.size_drew]); omega); have f0 := fun o => hf (w1.heap.size) o (by (try simp only [World.size_alloc, World.size_setCell, World.size_drew]); omega); have z0 : w1.heap.size < w2.heap.size := (by (try simp only [World.size_alloc, World.size_setCell, World.size_drew]); omega); clear hc hf; simp only [go_sem, World.size_alloc, *] at c0 f0) | fail)
  go_returns
  exact Ret.bool rfl (by (repeat' (first | (with_reducible exact Below.refl _ _) | (with_reducible assumption) | (with_reducible refine Below.alloc ?_ ?_ _) | (with_reducible refine Below.drew ?_) | (with_reducible refine Below.setCell ?_ ?_ _) | (refine Below.trans ?_ (Below.mono (by with_reducible assumption) ?_)) | go_size)))
theorem cellReads_open {H : Type} (enc : TypeId × Value → H) (W : World) (base : Nat) (args : Array Value) (ds : List (DataW H)) (ps : List MemPlace)
    (hval : ∀ (j : Nat) t v, Try.f13.params[j]? = some t → args[j]? = some v → Value.okWide Try.prog W .any base t v)
    (hA : DataW.TrodAll enc Try.prog W 0 (fun _ => true) true Try.f13.params.toList args.toList ds ps) (hlt : ∀ x ∈ ps, x.block < W.heap.size)
    (hsz : (DataW.weightsEach Try.prog Try.f13.params.toList ds).all (· ≤ reachBytes) = true) :
    Calls Try.prog 13 args W fun e W' => e = .returned (.bool true) ∧ Below W.heap.size W W' := by
  rw [Try.params13] at hA hval
  obtain ⟨v0, d0, rfl, rfl, h0⟩ := trodAll_one hA
  obtain ⟨s, rfl, _, _, ws⟩ := Go.ChangeMaps.open_string Try.underlying9 (hval 0 _ v0 rfl rfl) h0
  exact (cellReads_walk s W).mono fun e W' hr => hr
set_option maxRecDepth 100000 in
theorem cellReads_lifted (os : Os) (started : os.Started) (H : Type) (enc : TypeId × Value → H) :
    ReturnsInHanded {} Try.checked os 13 .any (Rows.cellReadsSpec.pre6 enc Try.prog Try.f13 [] false) (Rows.cellReadsSpec.post enc Try.prog Try.f13 false true false false) :=
  lifted (C := Try.checked) (s := Rows.cellReadsSpec) (by kernel_rfl) started (by kernel_rfl) Try.func13
    (ChangeSpec.witness6 (enc := enc) (C := Try.checked) false ⟨#[], #[.string ⟨#[]⟩], []⟩ 12 (by kernel_rfl) (by kernel_rfl) (by kernel_rfl) (by kernel_rfl))
    (by kernel_rfl) (by kernel_rfl) rfl rfl Try.underlying4
    (fun ds h => by match ds, h with | [_], _ => exact ⟨rfl, rfl, rfl⟩)
    (fun W base args ds ps hval hA hlt hsz => cellReads_open enc W base args ds ps hval hA hlt hsz)
theorem cellReads_holds : Rows.CellReadsSaid :=
  OpenClaim.holds_of_wide 13 Try.f13 rfl rfl rfl rfl rfl rfl rfl ⟨rfl, rfl, rfl, rfl, rfl⟩ rfl rfl rfl rfl rfl (by kernel_rfl) Try.func13 (by kernel_rfl)
    (of_decide_eq_true (by kernel_rfl)) (by unfold Func.isWrapper; first | (rw [if_pos (by decide +kernel)]; kernel_rfl) | (rw [if_neg (by decide +kernel)]; exact ⟨rfl, rfl⟩))
    (fun os started H enc _ => cellReads_lifted os started H enc)
#print axioms cellReads_holds
end Go.Proofs.Ytmalaomcolgfcaa
