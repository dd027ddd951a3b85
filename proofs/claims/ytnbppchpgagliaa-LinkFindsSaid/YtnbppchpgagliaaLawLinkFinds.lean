/- The law LinkFinds: Find returns what the reference returns, for all arguments. Conditions: none. -/
import Derived.Test.YtnbppchpgagliaaFind
import Derived.Test.YtnbppchpgagliaaLaw
import Derived.ChangeMaps5

namespace Go.Proofs.Ytnbppchpgagliaa
open Go.ChangeShapes Go.WideShapes Go.ChangeAt Go.RowKit
set_option linter.unusedVariables false
set_option linter.unusedSimpArgs false
set_option maxRecDepth 100000

theorem lies_x (w : World) : Lies encE 11 (w.alloc (.cells #[.string ⟨#[120]⟩, .int .i64 0, .int .i64 0, .int .i64 0, .int .i64 0, .int .i64 0, .int .i64 0, .int .i64 0, .int .i64 0, .int .i64 0, .int .i64 0] 30)) (w.alloc (.cells #[.string ⟨#[120]⟩, .int .i64 0, .int .i64 0, .int .i64 0, .int .i64 0, .int .i64 0, .int .i64 0, .int .i64 0, .int .i64 0, .int .i64 0, .int .i64 0] 30)).heap.size (some ⟨w.heap.size, 0, none⟩) [⟨⟨#[120]⟩, Key.zero, Key.zero⟩] :=
  Lies.single w _ _ _ fun j hj => by simp only [encE, Key.zero, List.getElem?_toArray]
theorem c_link_Find0 (w : World) (g : Nat) (hg : g = w.heap.size) : Calls Try.prog 15 #[.agg #[.slice none 0 0, .slice none 0 0, .slice (some ⟨g, 0, none⟩) 1 1], .string ⟨#[120]⟩] (w.alloc (.cells #[.string ⟨#[120]⟩, .int .i64 0, .int .i64 0, .int .i64 0, .int .i64 0, .int .i64 0, .int .i64 0, .int .i64 0, .int .i64 0, .int .i64 0, .int .i64 0] 30)) (Ret (.tuple #[.agg #[.string ⟨#[120]⟩, .int .i64 0, .int .i64 0, .int .i64 0, .int .i64 0, .int .i64 0, .int .i64 0, .int .i64 0, .int .i64 0, .int .i64 0, .int .i64 0], .bool true]) (w.alloc (.cells #[.string ⟨#[120]⟩, .int .i64 0, .int .i64 0, .int .i64 0, .int .i64 0, .int .i64 0, .int .i64 0, .int .i64 0, .int .i64 0, .int .i64 0, .int .i64 0] 30))) := by
  subst hg
  have h := c_link_Find (some ⟨w.heap.size, 0, none⟩) 1 (.slice none 0 0) (.slice none 0 0) [⟨⟨#[120]⟩, Key.zero, Key.zero⟩] ⟨#[120]⟩ _ (by simp [maxLen]) (lies_x w)
  have e : findE [⟨⟨#[120]⟩, Key.zero, Key.zero⟩] ⟨#[120]⟩ = (⟨⟨#[120]⟩, Key.zero, Key.zero⟩, true) := findE_some (i := 0) (idxFrom_yes rfl (by simp [nameP])) rfl
  rw [e] at h
  exact h
set_option maxHeartbeats 1000000 in
theorem linkFinds_walk (E : Option Addr) (e : Nat) (A Ap : Option Addr) (n c np cp : Nat) (es : List Entry) (s : ByteArray) (w : World) (he : es.length ≤ e) (hlen : e ≤ maxLen) (hM : Lies encE 11 w w.heap.size E es) :
    Calls Try.prog 3 #[.agg #[.slice A n c, .slice Ap np cp, .slice E es.length e], .string s] w (Ret (.bool true) w) := by
  have h1 := fun W hM => c_link_Find E e (.slice A n c) (.slice Ap np cp) es s W (Nat.le_trans he hlen) hM
  have h2 := fun W hM => r_Find E e (.slice A n c) (.slice Ap np cp) es s W he hlen hM
  generalize findE es s = r at h1 h2
  obtain ⟨x, b⟩ := r
  have H1 := Lib.hid h1
  have H2 := Lib.hid h2
  clear h1 h2
  go_enter Try.func3, Try.ntmps3
  go_wp2_with (first | (go_at_call 15; (with_reducible refine (H1.out _ ((hM.below ((Below.refl _ _).alloc (Nat.le_refl _) _)).more (by simp [World.size_alloc]))).mono ?_); intro e w1 hr; obtain ⟨rfl, hb, hc, hf, hz⟩ := hr.use; (try simp only [World.size_alloc, World.size_setCell, World.size_drew] at hz); clear hr; have c0 := fun o => hc (w.heap.size) o (by (try simp only [World.size_alloc, World.size_setCell, World.size_drew]); omega); have f0 := fun o => hf (w.heap.size) o (by (try simp only [World.size_alloc, World.size_setCell, World.size_drew]); omega); have z0 : w.heap.size < w1.heap.size := (by (try simp only [World.size_alloc, World.size_setCell, World.size_drew]); omega); clear hc hf; simp only [go_sem, World.size_alloc, *] at c0 f0) | (go_at_call 16; (with_reducible refine (H2.out _ ((hM.below (by (repeat' (first | (with_reducible exact Below.refl _ _) | (with_reducible assumption) | (with_reducible refine Below.alloc ?_ ?_ _) | (with_reducible refine Below.drew ?_) | (with_reducible refine Below.setCell ?_ ?_ _) | (refine Below.trans ?_ (Below.mono (by with_reducible assumption) ?_)) | go_size)))).more (by simp only [World.size_alloc]; omega))).mono ?_); intro e w2 hr; obtain ⟨rfl, hb, hc, hf, hz⟩ := hr.use; (try simp only [World.size_alloc, World.size_setCell, World.size_drew] at hz); clear hr; have c0 := fun o => hc (w1.heap.size) o (by (try simp only [World.size_alloc, World.size_setCell, World.size_drew]); omega); have f0 := fun o => hf (w1.heap.size) o (by (try simp only [World.size_alloc, World.size_setCell, World.size_drew]); omega); have z0 : w1.heap.size < w2.heap.size := (by (try simp only [World.size_alloc, World.size_setCell, World.size_drew]); omega); clear hc hf; simp only [go_sem, World.size_alloc, *] at c0 f0) | (go_at_call 15; (with_reducible refine (c_link_Find0 _ _ (by simp only [World.size_alloc])).mono ?_); intro e w3 hr; obtain ⟨rfl, hb, hc, hf, hz⟩ := hr.use; (try simp only [World.size_alloc, World.size_setCell, World.size_drew] at hz); clear hr; have c0 := fun o => hc (w1.heap.size) o (by (try simp only [World.size_alloc, World.size_setCell, World.size_drew]); omega); have f0 := fun o => hf (w1.heap.size) o (by (try simp only [World.size_alloc, World.size_setCell, World.size_drew]); omega); have z0 : w1.heap.size < w3.heap.size := (by (try simp only [World.size_alloc, World.size_setCell, World.size_drew]); omega); have c1 := fun o => hc (w2.heap.size) o (by (try simp only [World.size_alloc, World.size_setCell, World.size_drew]); omega); have f1 := fun o => hf (w2.heap.size) o (by (try simp only [World.size_alloc, World.size_setCell, World.size_drew]); omega); have z1 : w2.heap.size < w3.heap.size := (by (try simp only [World.size_alloc, World.size_setCell, World.size_drew]); omega); clear hc hf; simp only [go_sem, World.size_alloc, *] at c0 f0 c1 f1))
  go_returns
  exact Ret.bool rfl (by (repeat' (first | (with_reducible exact Below.refl _ _) | (with_reducible assumption) | (with_reducible refine Below.alloc ?_ ?_ _) | (with_reducible refine Below.drew ?_) | (with_reducible refine Below.setCell ?_ ?_ _) | (refine Below.trans ?_ (Below.mono (by with_reducible assumption) ?_)) | go_size)))
theorem linkFinds_open {H : Type} (enc : TypeId × Value → H) (W : World) (base : Nat) (args : Array Value) (ds : List (DataW H)) (ps : List MemPlace)
    (hval : ∀ (j : Nat) t v, Try.f3.params[j]? = some t → args[j]? = some v → Value.okWide Try.prog W .any base t v)
    (hA : DataW.TrodAll enc Try.prog W 0 (fun _ => true) true Try.f3.params.toList args.toList ds ps) (hlt : ∀ x ∈ ps, x.block < W.heap.size)
    (hsz : (DataW.weightsEach Try.prog Try.f3.params.toList ds).all (· ≤ reachBytes) = true) :
    Calls Try.prog 3 args W fun e W' => e = .returned (.bool true) ∧ Below W.heap.size W W' := by
  rw [Try.params3] at hA hval
  obtain ⟨v0, v1, d0, d1, p0, p1, hargs, rfl, rfl, h0, h1⟩ := trodAll_two hA
  subst hargs
  obtain ⟨A, c, xs, P, E, e, es, rfl, ⟨Ap, np, cp, rfl⟩, _, _, hwf, hL, he, hemax, hwe, hM⟩ := open_image (hval 0 _ v0 rfl rfl) h0
  obtain ⟨s, rfl, _, _, ws⟩ := Go.ChangeMaps.open_string Try.underlying9 (hval 1 _ v1 rfl rfl) h1
  exact (linkFinds_walk E e A Ap xs.length c np cp es s W he hemax hM).mono fun e W' hr => hr
set_option maxRecDepth 100000 in
theorem linkFinds_lifted (os : Os) (started : os.Started) (H : Type) (enc : TypeId × Value → H) :
    ReturnsInHanded {} Try.checked os 3 .any (Rows.linkFindsSpec.pre6 enc Try.prog Try.f3 [] false) (Rows.linkFindsSpec.post enc Try.prog Try.f3 false true false false) :=
  lifted (C := Try.checked) (s := Rows.linkFindsSpec) (by kernel_rfl) started (by kernel_rfl) Try.func3
    (ChangeSpec.witness6 (enc := enc) (C := Try.checked) false ⟨#[], #[.agg #[.slice none 0 0, .slice none 0 0, .slice none 0 0], .string ⟨#[]⟩], []⟩ 12 (by kernel_rfl) (by kernel_rfl) (by kernel_rfl) (by kernel_rfl))
    (by kernel_rfl) (by kernel_rfl) rfl rfl Try.underlying4
    (fun ds h => by match ds, h with | [_, _], _ => exact ⟨rfl, rfl, rfl⟩)
    (fun W base args ds ps hval hA hlt hsz => linkFinds_open enc W base args ds ps hval hA hlt hsz)
theorem linkFinds_holds : Rows.LinkFindsSaid :=
  OpenClaim.holds_of_wide 3 Try.f3 rfl rfl rfl rfl rfl rfl rfl ⟨rfl, rfl, rfl, rfl, rfl⟩ rfl rfl rfl rfl rfl (by kernel_rfl) Try.func3 (by kernel_rfl)
    (of_decide_eq_true (by kernel_rfl)) (by unfold Func.isWrapper; first | (rw [if_pos (by decide +kernel)]; kernel_rfl) | (rw [if_neg (by decide +kernel)]; exact ⟨rfl, rfl⟩))
    (fun os started H enc _ => linkFinds_lifted os started H enc)
#print axioms linkFinds_holds
end Go.Proofs.Ytnbppchpgagliaa
