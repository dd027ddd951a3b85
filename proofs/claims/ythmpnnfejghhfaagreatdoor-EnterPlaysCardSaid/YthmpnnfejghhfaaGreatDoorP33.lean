/- What the parts say: The reference's step: Halt, Call. Conditions: the machine is one that may be. -/
import Derived.Test.YthmpnnfejghhfaaGreatDoorP24
import Derived.Test.YthmpnnfejghhfaaGreatDoorP25
import Derived.Test.YthmpnnfejghhfaaGreatDoorP04
import Derived.Deep.CutBlock
import Derived.Test.YthmpnnfejghhfaaGreatDoorP27
import Derived.Test.YthmpnnfejghhfaaGreatDoorP26
set_option linter.unusedVariables false
set_option linter.unusedSimpArgs false
namespace Go.Proofs.YthmpnnfejghhfaaGreatDoor
open Go.RowKit
set_option maxRecDepth 100000
set_option maxRecDepth 1000000 in
set_option maxHeartbeats 8000000 in
theorem r_sw0 (R : Ending → World → Prop) (K : Act → World → Prop) (mc : Array Value) (w wc : World) (k : Nat) (a b : Nat) (c : Int) (x y z : Val) (gM gR gI gA gB gC gT gV : Nat)
    (hI : InvT (fun _ => False) w (swR gM gR gI gV gA gB gC mc 0 a b c Val.zero x y z []) wc)
    (hR : ∀ w', Below w.heap.size w w' → R (.returned (.tuple #[.agg zeroMC, .int .i64 16])) w')
    {fr : Act} (hF : FrOp mc k gM gR gI gA gB gC gT gV 0 fr) : Code.wp Tryz.prog swCode (Exit.then K (bodyPost Tryz.prog Tryz.f31 R)) fr wc := by
  exact az200
set_option maxRecDepth 1000000 in
set_option maxHeartbeats 8000000 in
theorem r_sw18_bad (R : Ending → World → Prop) (K : Act → World → Prop) (mc : Array Value) (w wc : World) (k : Nat) (a b : Nat) (c : Int) (x y z : Val) (gM gR gI gA gB gC gT gV : Nat) (e : Int)
    (hI : InvT (fun _ => False) w (swR gM gR gI gV gA gB gC mc 18 a b c Val.zero x y z []) wc)
    (h64 : mc.size = 64)
    (HC : ∀ w', Below w.heap.size w w' → Calls Tryz.prog 66 #[.agg mc, .agg #[.int .i64 x.key.perm, .int .i64 x.key.base, .int .i64 x.key.len, .int .i64 x.key.pos, .int .i64 x.key.tag], .agg #[.int .i64 y.key.perm, .int .i64 y.key.base, .int .i64 y.key.len, .int .i64 y.key.pos, .int .i64 y.key.tag]] w' (Ret (.tuple #[.agg zeroMC, .int .i64 e]) w'))
    (hR : ∀ w', Below w.heap.size w w' → R (.returned (.tuple #[.agg zeroMC, .int .i64 e])) w')
    {fr : Act} (hF : FrOp mc k gM gR gI gA gB gC gT gV 18 fr) : Code.wp Tryz.prog swCode (Exit.then K (bodyPost Tryz.prog Tryz.f31 R)) fr wc := by
  unfold swR at hI; refine am205 ?_; clear hF; intros; have hsz := h64
  conv => arg 2; whnf
  have cF := hI.facts; (try simp only [mm] at cF)
  go_wp2_with (first | ((with_reducible refine at_load ?_); refine wpList_load_box rfl 31 _ rfl (hI.box (i := 0) rfl) rfl Tryz.underlying31 rfl (by simp only [hsz]; kernel_rfl) ?_) | (go_at_call 66; (with_reducible refine (HC _ hI.below).mono ?_); refine am101 ?_; clear hI; (try clear cF); intro w' hI cF) | ((with_reducible refine at_store ?_); first | (refine listI rfl fun K hK => wpI_storeW _ _ _ rfl hI rfl 1 rfl rfl rfl (by kernel_rfl) (by kernel_rfl) fun w' hI' => hK _ _ ?_; clear hK K; (try clear hb); refine am92 ?_; clear hI hI'; (try clear cF); intro hI cF)) | fail)
  exact az44
set_option maxRecDepth 1000000 in
set_option maxHeartbeats 8000000 in
theorem r_sw18_ok (R : Ending → World → Prop) (K : Act → World → Prop) (mc : Array Value) (w wc : World) (k : Nat) (a b : Nat) (c : Int) (x y z : Val) (gM gR gI gA gB gC gT gV : Nat) (m2 : Mach)
    (hI : InvT (fun _ => False) w (swR gM gR gI gV gA gB gC mc 18 a b c Val.zero x y z []) wc)
    (h64 : mc.size = 64)
    (HC : ∀ w', Below w.heap.size w w' → Calls Tryz.prog 66 #[.agg mc, .agg #[.int .i64 x.key.perm, .int .i64 x.key.base, .int .i64 x.key.len, .int .i64 x.key.pos, .int .i64 x.key.tag], .agg #[.int .i64 y.key.perm, .int .i64 y.key.base, .int .i64 y.key.len, .int .i64 y.key.pos, .int .i64 y.key.tag]] w' (RetRows2 w' m2))
    (hR : ∀ ed w', RetRows2 w m2 ed w' → R ed w')
    {fr : Act} (hF : FrOp mc k gM gR gI gA gB gC gT gV 18 fr) : Code.wp Tryz.prog swCode (Exit.then K (bodyPost Tryz.prog Tryz.f31 R)) fr wc := by
  unfold swR at hI; refine am205 ?_; clear hF; intros; have hsz := h64
  conv => arg 2; whnf
  have cF := hI.facts; (try simp only [mm] at cF)
  go_wp2_with (first
    | ((with_reducible refine at_load ?_); refine wpList_load_box rfl 31 _ rfl (hI.box (i := 0) rfl) rfl Tryz.underlying31 rfl (by simp only [hsz]; kernel_rfl) ?_)
    | (go_at_call 66
       refine (HC _ hI.below).mono ?_; rintro e w2 ⟨h82, va, vs, vo, rfl, hI2⟩; have hb := hI2.below; have hI' := hI.join hI2; clear hI2
       (try clear hb); replace hI := hI'; clear hI'; replace cF := hI.facts; (try simp only [mm, Act.put, Act.eval] at hI cF))
    | ((with_reducible refine at_store ?_); first | (refine listI rfl fun K hK => wpI_storeW _ _ _ rfl hI rfl 1 rfl rfl (by rw [zeroMC_size, List.size_toArray, machL_length h82]) (info_mach h82) (machL_one h82 (hI.one (i := 7) rfl) (hI.one (i := 8) rfl) (hI.one (i := 9) rfl)) fun w' hI' => hK _ _ ?_; clear hK K; (try clear hb); refine am92 ?_; clear hI hI'; (try clear cF); intro hI cF))
    | fail)
  have hbx := hI.box (i := 1) rfl; refine am172 ?_
  exact hR _ _ ⟨h82, _, _, _, rfl, ((hI.perm (List.perm_append_comm (l₁ := [_, _, _, _, _, _, _]) (l₂ := [_, _, _]))).first [_, _, _] _ rfl)⟩
end Go.Proofs.YthmpnnfejghhfaaGreatDoor
namespace Go.Proofs.YthmpnnfejghhfaaGreatDoor
open Go.RowKit
set_option maxRecDepth 100000
set_option maxRecDepth 1000000 in
set_option maxHeartbeats 8000000 in
theorem r_sw22f (R : Ending → World → Prop) (K : Act → World → Prop) (mc : Array Value) (w wc : World) (k : Nat) (a b : Nat) (c : Int) (x y z : Val) (gM gR gI gA gB gC gT gV : Nat) (A : Option Addr) (cp : Nat) (xs : List Int)
    (hI : InvT (fun _ => False) w (swR gM gR gI gV gA gB gC mc 22 a b c Val.zero x y z []) wc)
    (H64 : Hid (mc.size = 64))
    (p63 : mc[63]? = some (.slice A xs.length cp))
    (hn : 99 < xs.length)
    (hn2 : xs.length ≤ 100)
    (hcp : xs.length ≤ cp ∧ cp ≤ maxLen)
    (hL : Lies encI 1 w w.heap.size A xs)
    (hK : ∀ A2 cp2 a' w', FrSw mc k gM gR gI gA gB gC gT gV 9 1 false a' → InvT (fun _ => False) w (swR gM gR gI gV gA gB gC (mc.setIfInBounds 63 (.slice A2 (xs ++ [x.n]).length cp2)) 22 a b c Val.zero x y z [.row 3 1 (.slice A2 (xs ++ [x.n]).length cp2) (xs ++ [x.n]).length ((xs ++ [x.n]).flatMap encI)]) w' → K a' w')
    {fr : Act} (hF : FrOp mc k gM gR gI gA gB gC gT gV 22 fr) : Code.wp Tryz.prog swCode (Exit.then K (bodyPost Tryz.prog Tryz.f31 R)) fr wc := by
  unfold swR at hI; refine am205 ?_; clear hF; intros; have hnz : (99 : Int) < xs.length := (by omega)
  exact az9
end Go.Proofs.YthmpnnfejghhfaaGreatDoor
