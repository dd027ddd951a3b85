/- What the parts say: The reference's step: the numbers of its switch. Conditions: none. -/
import Derived.Test.YthmpnnfejghhfaaGreatDoorP24
import Derived.Test.YthmpnnfejghhfaaGreatDoorP25
import Derived.Test.YthmpnnfejghhfaaGreatDoorP04
import Derived.Deep.CutBlock
import Derived.Test.YthmpnnfejghhfaaGreatDoorP21
import Derived.Test.YthmpnnfejghhfaaGreatDoorP26
set_option linter.unusedVariables false
set_option linter.unusedSimpArgs false
namespace Go.Proofs.YthmpnnfejghhfaaGreatDoor
theorem az200 {P : Prop} (h : P := by
  unfold swR at hI; refine am205 ?_; clear hF; intros
  conv => arg 2; whnf
  have cF := hI.facts; (try simp only [mm] at cF)
  go_wp2_with (first | (go_at_call 56; (with_reducible refine (r_none 16 _).mono ?_); refine am101 ?_; clear hI; (try clear cF); intro w' hI cF) | ((with_reducible refine at_store ?_); first | (refine listI rfl fun K hK => wpI_storeW _ _ _ rfl hI rfl 1 rfl rfl rfl (by kernel_rfl) (by kernel_rfl) fun w' hI' => hK _ _ ?_; clear hK K; (try clear hb); refine am92 ?_; clear hI hI'; (try clear cF); intro hI cF)) | fail)
  exact az44) : P := h
theorem az201 {P : Prop} (h : P := by
  unfold swR at hI; refine am205 ?_; clear hF; intros; have HK := Lib.hid hK; clear hK
  conv => arg 2; whnf
  have cF := hI.facts; (try simp only [mm] at cF)
  go_wp2_with (first | ((with_reducible refine at_store ?_); first | (refine listI rfl fun K hK => wpI_storeW _ _ _ rfl hI rfl 3 rfl rfl rfl (by kernel_rfl) (by simp [Value.oneCell']) fun w' hI' => hK _ _ ?_; clear hK K; (try clear hb); refine am92 ?_; clear hI hI'; (try clear cF); intro hI cF)) | fail)
  refine HK.out _ _ ?_ hI; unfold FrSw
  (repeat apply Exists.intro)
  rfl) : P := h
theorem am205 {P Q : Prop} (k : Q) (h : Hq Q → P := by (intro k_; refine FrOp.el (P := fun a => Code.wp _ _ _ a _) hF ?_; exact k_.out)) : P := h ⟨k⟩
open Go.RowKit
set_option maxRecDepth 100000
noncomputable def swCode : Code := restC 1 (firstC (restC 3 midCode))
set_option maxRecDepth 1000000 in
set_option maxHeartbeats 8000000 in
theorem r_sw1 (R : Ending → World → Prop) (K : Act → World → Prop) (mc : Array Value) (w wc : World) (k : Nat) (a b : Nat) (c : Int) (x y z : Val) (gM gR gI gA gB gC gT gV : Nat)
    (hI : InvT (fun _ => False) w (swR gM gR gI gV gA gB gC mc 1 a b c Val.zero x y z []) wc)
    (hK : ∀ a' w', FrSw mc k gM gR gI gA gB gC gT gV 0 1 true a' → InvT (fun _ => False) w (swR gM gR gI gV gA gB gC mc 1 a b c (Val.mk false (c) Key.zero) x y z []) w' → K a' w')
    {fr : Act} (hF : FrOp mc k gM gR gI gA gB gC gT gV 1 fr) : Code.wp Tryz.prog swCode (Exit.then K (bodyPost Tryz.prog Tryz.f31 R)) fr wc := by
  unfold swR at hI; refine am205 ?_; clear hF; intros; have HK := Lib.hid hK; clear hK
  conv => arg 2; whnf
  have cF := hI.facts; (try simp only [mm] at cF)
  go_wp2_with (first | ((with_reducible refine at_store ?_); first | (refine listI rfl fun K hK => wpI_store1 _ _ _ rfl hI rfl 3 rfl rfl rfl (by simp) (by kernel_rfl) fun w' hI' => hK _ _ ?_; clear hK K; (try clear hb); refine am92 ?_; clear hI hI'; (try clear cF); intro hI cF)) | fail)
  refine HK.out _ _ ?_ hI; unfold FrSw
  (repeat apply Exists.intro)
  rfl
set_option maxRecDepth 1000000 in
set_option maxHeartbeats 8000000 in
theorem r_sw2 (R : Ending → World → Prop) (K : Act → World → Prop) (mc : Array Value) (w wc : World) (k : Nat) (a b : Nat) (c : Int) (x y z : Val) (gM gR gI gA gB gC gT gV : Nat)
    (hI : InvT (fun _ => False) w (swR gM gR gI gV gA gB gC mc 2 a b c Val.zero x y z []) wc)
    (hK : ∀ a' w', FrSw mc k gM gR gI gA gB gC gT gV 0 1 true a' → InvT (fun _ => False) w (swR gM gR gI gV gA gB gC mc 2 a b c y x y z []) w' → K a' w')
    {fr : Act} (hF : FrOp mc k gM gR gI gA gB gC gT gV 2 fr) : Code.wp Tryz.prog swCode (Exit.then K (bodyPost Tryz.prog Tryz.f31 R)) fr wc := by
  exact az201
end Go.Proofs.YthmpnnfejghhfaaGreatDoor
namespace Go.Proofs.YthmpnnfejghhfaaGreatDoor
open Go.RowKit
set_option maxRecDepth 100000
set_option maxRecDepth 1000000 in
set_option maxHeartbeats 8000000 in
theorem r_sw6 (R : Ending → World → Prop) (K : Act → World → Prop) (mc : Array Value) (w wc : World) (k : Nat) (a b : Nat) (c : Int) (x y z : Val) (gM gR gI gA gB gC gT gV : Nat)
    (hI : InvT (fun _ => False) w (swR gM gR gI gV gA gB gC mc 6 a b c Val.zero x y z []) wc)
    (hK : ∀ a' w', FrSw mc k gM gR gI gA gB gC gT gV (dve z.n) 1 true a' → InvT (fun _ => False) w (swR gM gR gI gV gA gB gC mc 6 a b c (Val.mk false (dvq y.n z.n) Key.zero) x y z []) w' → K a' w')
    {fr : Act} (hF : FrOp mc k gM gR gI gA gB gC gT gV 6 fr) : Code.wp Tryz.prog swCode (Exit.then K (bodyPost Tryz.prog Tryz.f31 R)) fr wc := by
  unfold swR at hI; refine am205 ?_; clear hF; intros; have HK := Lib.hid hK; clear hK
  conv => arg 2; whnf
  have cF := hI.facts; (try simp only [mm] at cF)
  go_wp2_with (first | (go_at_call 60; (with_reducible refine (r_Div _ _ _).mono ?_); rintro e w1 ⟨rfl, rfl⟩) | ((with_reducible refine at_store ?_); first | (refine listI rfl fun K hK => wpI_store1 _ _ _ rfl hI rfl 3 rfl rfl rfl (by simp) (by kernel_rfl) fun w' hI' => hK _ _ ?_; clear hK K; (try clear hb); refine am92 ?_; clear hI hI'; (try clear cF); intro hI cF)) | fail)
  refine HK.out _ _ ?_ hI; unfold FrSw
  (repeat apply Exists.intro)
  rfl
set_option maxRecDepth 1000000 in
set_option maxHeartbeats 8000000 in
theorem r_sw8 (R : Ending → World → Prop) (K : Act → World → Prop) (mc : Array Value) (w wc : World) (k : Nat) (a b : Nat) (c : Int) (x y z : Val) (gM gR gI gA gB gC gT gV : Nat)
    (hI : InvT (fun _ => False) w (swR gM gR gI gV gA gB gC mc 8 a b c Val.zero x y z []) wc)
    (hK : ∀ a' w', FrSw mc k gM gR gI gA gB gC gT gV 0 c false a' → InvT (fun _ => False) w (swR gM gR gI gV gA gB gC mc 8 a b c Val.zero x y z []) w' → K a' w')
    {fr : Act} (hF : FrOp mc k gM gR gI gA gB gC gT gV 8 fr) : Code.wp Tryz.prog swCode (Exit.then K (bodyPost Tryz.prog Tryz.f31 R)) fr wc := by
  unfold swR at hI; refine am205 ?_; clear hF; intros; have HK := Lib.hid hK; clear hK
  conv => arg 2; whnf
  have cF := hI.facts; (try simp only [mm] at cF)
  go_wp2_with fail
  (refine wp_region_K [2] (by kernel_rfl) hI fun w' hI' hHeld => ?_; (try clear hb); refine am92 ?_; clear hI hI'; (try clear cF); intro hI cF)
  refine am104 ?_; refine wpAnyH_done (by kernel_rfl) ?_ _; clear hHeld
  (try go_wp2_with fail)
  refine HK.out _ _ ?_ hI; unfold FrSw
  (repeat apply Exists.intro)
  rfl
end Go.Proofs.YthmpnnfejghhfaaGreatDoor
namespace Go.Proofs.YthmpnnfejghhfaaGreatDoor
open Go.RowKit
set_option maxRecDepth 100000
def RStep (w : World) (p : Mach × Int) : Ending → World → Prop := fun ed w' => (p.2 = 0 ∧ RetRows2 w p.1 ed w') ∨ (¬ p.2 = 0 ∧ Ret (.tuple #[.agg zeroMC, .int .i64 p.2]) w ed w')
theorem RStep.err {w w' : World} {p : Mach × Int} {e : Int} (h : p.2 = e) (he : ¬ e = 0) (hb : Below w.heap.size w w') : RStep w p (.returned (.tuple #[.agg zeroMC, .int .i64 e])) w' := by
  subst h
  exact .inr ⟨he, rfl, hb⟩
theorem RStep.ok {w w' : World} {p : Mach × Int} {m : Mach} {ed : Ending} (h : p = (m, 0)) (hr : RetRows2 w m ed w') : RStep w p ed w' := by
  subst h
  exact .inl ⟨rfl, hr⟩
set_option maxRecDepth 1000000 in
set_option maxHeartbeats 8000000 in
theorem r_fin (p : Mach × Int) (mc mc1 : Array Value) (m1 : Mach) (w : World) (k : Nat) (op : Int) (a b : Nat) (c : Int) (x y z v : Val) (e by_ : Int) (sets : Bool) (gM gR gI gA gB gC gT gV : Nat) (ext : List Res) (A S O : Option Addr) (sa ss so : Nat)
    (hF : Fin' p m1 a v e by_ sets) (hmc : mc1 = (machL m1.regs m1.code (.slice A m1.mem.length sa) (.slice S m1.stack.length ss) (.slice O m1.out.length so)).toArray) (h8 : m1.regs.length = 8) (ha8 : a < 8)
    (hl1 : m1.mem.length ≤ sa ∧ sa ≤ maxLen ∧ m1.stack.length ≤ ss ∧ ss ≤ maxLen ∧ m1.out.length ≤ so ∧ so ≤ maxLen) (hl2 : m1.mem.length ≤ 400 ∧ m1.stack.length ≤ 16 ∧ m1.out.length ≤ 101)
    (hS : ∀ X w', InvT (fun _ => False) w (([.box gM 31 X, .box gR 31 zeroMC, .box gI 75 #[.int .i64 op, .int .i64 a, .int .i64 b, .int .i64 c], .box gV 25 #[.bool v.is, .int .i64 v.n, .int .i64 v.key.perm, .int .i64 v.key.base, .int .i64 v.key.len, .int .i64 v.key.pos, .int .i64 v.key.tag], .box gA 25 #[.bool x.is, .int .i64 x.n, .int .i64 x.key.perm, .int .i64 x.key.base, .int .i64 x.key.len, .int .i64 x.key.pos, .int .i64 x.key.tag], .box gB 25 #[.bool y.is, .int .i64 y.n, .int .i64 y.key.perm, .int .i64 y.key.base, .int .i64 y.key.len, .int .i64 y.key.pos, .int .i64 y.key.tag], .box gC 25 #[.bool z.is, .int .i64 z.n, .int .i64 z.key.perm, .int .i64 z.key.base, .int .i64 z.key.len, .int .i64 z.key.pos, .int .i64 z.key.tag]]) ++ ext) w' → Lies encV 7 w' w'.heap.size A m1.mem ∧ Lies encF 12 w' w'.heap.size S m1.stack ∧ Lies encI 1 w' w'.heap.size O m1.out)
    (hpos : 0 ≤ m1.code.pos ∧ m1.code.pos ≤ 400) (hby : -4096 ≤ by_ ∧ by_ ≤ 4096) (a' : Act) (w' : World) (hFr : FrSw mc k gM gR gI gA gB gC gT gV e by_ sets a') (hI : InvT (fun _ => False) w (([.box gM 31 mc1, .box gR 31 zeroMC, .box gI 75 #[.int .i64 op, .int .i64 a, .int .i64 b, .int .i64 c], .box gV 25 #[.bool v.is, .int .i64 v.n, .int .i64 v.key.perm, .int .i64 v.key.base, .int .i64 v.key.len, .int .i64 v.key.pos, .int .i64 v.key.tag], .box gA 25 #[.bool x.is, .int .i64 x.n, .int .i64 x.key.perm, .int .i64 x.key.base, .int .i64 x.key.len, .int .i64 x.key.pos, .int .i64 x.key.tag], .box gB 25 #[.bool y.is, .int .i64 y.n, .int .i64 y.key.perm, .int .i64 y.key.base, .int .i64 y.key.len, .int .i64 y.key.pos, .int .i64 y.key.tag], .box gC 25 #[.bool z.is, .int .i64 z.n, .int .i64 z.key.perm, .int .i64 z.key.base, .int .i64 z.key.len, .int .i64 z.key.pos, .int .i64 z.key.tag]]) ++ ext) w') :
    Code.wp Tryz.prog endCode (bodyPost Tryz.prog Tryz.f31 (RStep w p)) a' w' := by
  by_cases he : e = 0
  · subst he
    cases hr : inR (m1.code.pos + by_) 0 400
    · exact r_end_far (RStep w p) mc mc1 m1 w w' k op a b c v by_ sets gM gR gI gA gB gC gT gV ([.box gA 25 #[.bool x.is, .int .i64 x.n, .int .i64 x.key.perm, .int .i64 x.key.base, .int .i64 x.key.len, .int .i64 x.key.pos, .int .i64 x.key.tag], .box gB 25 #[.bool y.is, .int .i64 y.n, .int .i64 y.key.perm, .int .i64 y.key.base, .int .i64 y.key.len, .int .i64 y.key.pos, .int .i64 y.key.tag], .box gC 25 #[.bool z.is, .int .i64 z.n, .int .i64 z.key.perm, .int .i64 z.key.base, .int .i64 z.key.len, .int .i64 z.key.pos, .int .i64 z.key.tag]] ++ ext) hI (by have hL := hS mc1 w' hI; exact ⟨⟨A, S, O, sa, ss, so, hmc, hl1.1, hl1.2.1, hl1.2.2.1, hl1.2.2.2.1, hl1.2.2.2.2.1, hl1.2.2.2.2.2, hL.1, hL.2.1, hL.2.2⟩, h8⟩) hpos hby hr
        (fun w2 hb => RStep.err (hF.far rfl hr) (by decide) hb) hFr
    · have hp := hF.ok rfl hr
      cases sets
      · exact r_end_let (RStep w p) mc mc1 m1 w w' k op a b c v by_ gM gR gI gA gB gC gT gV ([.box gA 25 #[.bool x.is, .int .i64 x.n, .int .i64 x.key.perm, .int .i64 x.key.base, .int .i64 x.key.len, .int .i64 x.key.pos, .int .i64 x.key.tag], .box gB 25 #[.bool y.is, .int .i64 y.n, .int .i64 y.key.perm, .int .i64 y.key.base, .int .i64 y.key.len, .int .i64 y.key.pos, .int .i64 y.key.tag], .box gC 25 #[.bool z.is, .int .i64 z.n, .int .i64 z.key.perm, .int .i64 z.key.base, .int .i64 z.key.len, .int .i64 z.key.pos, .int .i64 z.key.tag]] ++ ext) A S O sa ss so hI hmc h8 ha8 hl1 hl2 hS hpos hby hr (fun va vs vo w2 h82 hr => RStep.ok hp ⟨h82, va, vs, vo, rfl, hr⟩) hFr
      · exact r_end_set (RStep w p) mc mc1 m1 w w' k op a b c v by_ gM gR gI gA gB gC gT gV ([.box gA 25 #[.bool x.is, .int .i64 x.n, .int .i64 x.key.perm, .int .i64 x.key.base, .int .i64 x.key.len, .int .i64 x.key.pos, .int .i64 x.key.tag], .box gB 25 #[.bool y.is, .int .i64 y.n, .int .i64 y.key.perm, .int .i64 y.key.base, .int .i64 y.key.len, .int .i64 y.key.pos, .int .i64 y.key.tag], .box gC 25 #[.bool z.is, .int .i64 z.n, .int .i64 z.key.perm, .int .i64 z.key.base, .int .i64 z.key.len, .int .i64 z.key.pos, .int .i64 z.key.tag]] ++ ext) A S O sa ss so hI hmc h8 ha8 hl1 hl2 hS hpos hby hr (fun va vs vo w2 h82 hr => RStep.ok hp ⟨h82, va, vs, vo, rfl, hr⟩) hFr
  · exact r_end_err (RStep w p) mc mc1 m1 w w' k op a b c v e by_ sets gM gR gI gA gB gC gT gV (.box 0 0 #[]) (.box 0 0 #[]) (.box 0 0 #[]) (.box 0 0 #[]) ([.box gA 25 #[.bool x.is, .int .i64 x.n, .int .i64 x.key.perm, .int .i64 x.key.base, .int .i64 x.key.len, .int .i64 x.key.pos, .int .i64 x.key.tag], .box gB 25 #[.bool y.is, .int .i64 y.n, .int .i64 y.key.perm, .int .i64 y.key.base, .int .i64 y.key.len, .int .i64 y.key.pos, .int .i64 y.key.tag], .box gC 25 #[.bool z.is, .int .i64 z.n, .int .i64 z.key.perm, .int .i64 z.key.base, .int .i64 z.key.len, .int .i64 z.key.pos, .int .i64 z.key.tag]] ++ ext) he hI (fun w2 hb => RStep.err (hF.err he) he hb) hFr
end Go.Proofs.YthmpnnfejghhfaaGreatDoor
