/- What the parts say: The reference's step: Move, Narrow. Conditions: the key's numbers are numbers. -/
import Derived.Test.YthmpnnfejghhfaaGreatDoorP24
import Derived.Test.YthmpnnfejghhfaaGreatDoorP25
import Derived.Test.YthmpnnfejghhfaaGreatDoorP04
import Derived.Deep.CutBlock
import Derived.Test.YthmpnnfejghhfaaGreatDoorP27
set_option linter.unusedVariables false
set_option linter.unusedSimpArgs false
namespace Go.Proofs.YthmpnnfejghhfaaGreatDoor
open Go.RowKit
set_option maxRecDepth 100000
set_option maxRecDepth 1000000 in
set_option maxHeartbeats 8000000 in
theorem r_sw12 (R : Ending → World → Prop) (K : Act → World → Prop) (mc : Array Value) (w wc : World) (k : Nat) (a b : Nat) (c : Int) (x y z : Val) (gM gR gI gA gB gC gT gV : Nat)
    (hI : InvT (fun _ => False) w (swR gM gR gI gV gA gB gC mc 12 a b c Val.zero x y z []) wc)
    (hk : y.key.Wf)
    (hn : i64 z.n)
    (hK : ∀ a' w', FrSw mc k gM gR gI gA gB gC gT gV (keyMove y.key z.n).2 1 true a' → InvT (fun _ => False) w (swR gM gR gI gV gA gB gC mc 12 a b c (Val.mk true 0 ((keyMove y.key z.n).1)) x y z []) w' → K a' w')
    {fr : Act} (hF : FrOp mc k gM gR gI gA gB gC gT gV 12 fr) : Code.wp Tryz.prog swCode (Exit.then K (bodyPost Tryz.prog Tryz.f31 R)) fr wc := by
  unfold swR at hI; refine am205 ?_; clear hF; intros; have HK := Lib.hid hK; clear hK
  conv => arg 2; whnf
  have cF := hI.facts; (try simp only [mm] at cF)
  go_wp2_with (first | (go_at_call 62; (with_reducible refine (r_KeyOp_move y.key z.n hk hn _).mono ?_); refine am101 ?_; clear hI; (try clear cF); intro w' hI cF) | ((with_reducible refine at_store ?_); first | (refine listI rfl fun K hK => wpI_store1 _ _ _ rfl hI rfl 3 rfl rfl rfl (by simp) (by kernel_rfl) fun w' hI' => hK _ _ ?_; clear hK K; (try clear hb); refine am92 ?_; clear hI hI'; (try clear cF); intro hI cF)) | ((with_reducible refine at_store ?_); first | (refine listI rfl fun K hK => wpI_storeS _ _ _ rfl hI rfl 3 rfl rfl rfl (by simp) (by kernel_rfl) (by simp [Value.oneCell']) fun w' hI' => hK _ _ ?_; clear hK K; (try clear hb); refine am92 ?_; clear hI hI'; (try clear cF); intro hI cF)) | fail)
  refine HK.out _ _ ?_ hI; unfold FrSw
  (repeat apply Exists.intro)
  rfl
set_option maxRecDepth 1000000 in
set_option maxHeartbeats 8000000 in
theorem r_sw13 (R : Ending → World → Prop) (K : Act → World → Prop) (mc : Array Value) (w wc : World) (k : Nat) (a b : Nat) (c : Int) (x y z : Val) (gM gR gI gA gB gC gT gV : Nat)
    (hI : InvT (fun _ => False) w (swR gM gR gI gV gA gB gC mc 13 a b c Val.zero x y z []) wc)
    (hk : y.key.Wf)
    (hn : i64 z.n)
    (hK : ∀ a' w', FrSw mc k gM gR gI gA gB gC gT gV (keyNarrow y.key z.n).2 1 true a' → InvT (fun _ => False) w (swR gM gR gI gV gA gB gC mc 13 a b c (Val.mk true 0 ((keyNarrow y.key z.n).1)) x y z []) w' → K a' w')
    {fr : Act} (hF : FrOp mc k gM gR gI gA gB gC gT gV 13 fr) : Code.wp Tryz.prog swCode (Exit.then K (bodyPost Tryz.prog Tryz.f31 R)) fr wc := by
  unfold swR at hI; refine am205 ?_; clear hF; intros; have HK := Lib.hid hK; clear hK
  conv => arg 2; whnf
  have cF := hI.facts; (try simp only [mm] at cF)
  go_wp2_with (first | (go_at_call 62; (with_reducible refine (r_KeyOp_narrow y.key z.n hk hn _).mono ?_); refine am101 ?_; clear hI; (try clear cF); intro w' hI cF) | ((with_reducible refine at_store ?_); first | (refine listI rfl fun K hK => wpI_store1 _ _ _ rfl hI rfl 3 rfl rfl rfl (by simp) (by kernel_rfl) fun w' hI' => hK _ _ ?_; clear hK K; (try clear hb); refine am92 ?_; clear hI hI'; (try clear cF); intro hI cF)) | ((with_reducible refine at_store ?_); first | (refine listI rfl fun K hK => wpI_storeS _ _ _ rfl hI rfl 3 rfl rfl rfl (by simp) (by kernel_rfl) (by simp [Value.oneCell']) fun w' hI' => hK _ _ ?_; clear hK K; (try clear hb); refine am92 ?_; clear hI hI'; (try clear cF); intro hI cF)) | fail)
  refine HK.out _ _ ?_ hI; unfold FrSw
  (repeat apply Exists.intro)
  rfl
end Go.Proofs.YthmpnnfejghhfaaGreatDoor
namespace Go.Proofs.YthmpnnfejghhfaaGreatDoor
open Go.RowKit
set_option maxRecDepth 100000
set_option maxRecDepth 1000000 in
set_option maxHeartbeats 8000000 in
theorem r_sw16 (R : Ending → World → Prop) (K : Act → World → Prop) (mc : Array Value) (w wc : World) (k : Nat) (a b : Nat) (c : Int) (x y z : Val) (gM gR gI gA gB gC gT gV : Nat)
    (hI : InvT (fun _ => False) w (swR gM gR gI gV gA gB gC mc 16 a b c Val.zero x y z []) wc)
    (hk : y.key.Wf)
    (hz : z.key.Wf)
    (hK : ∀ a' w', FrSw mc k gM gR gI gA gB gC gT gV (keyOpen y.key z.key).2 1 true a' → InvT (fun _ => False) w (swR gM gR gI gV gA gB gC mc 16 a b c (Val.mk true 0 ((keyOpen y.key z.key).1)) x y z []) w' → K a' w')
    {fr : Act} (hF : FrOp mc k gM gR gI gA gB gC gT gV 16 fr) : Code.wp Tryz.prog swCode (Exit.then K (bodyPost Tryz.prog Tryz.f31 R)) fr wc := by
  unfold swR at hI; refine am205 ?_; clear hF; intros; have HK := Lib.hid hK; clear hK
  conv => arg 2; whnf
  have cF := hI.facts; (try simp only [mm] at cF)
  go_wp2_with (first | (go_at_call 63; (with_reducible refine (r_KeySeal_open y.key z.key hk hz _).mono ?_); refine am101 ?_; clear hI; (try clear cF); intro w' hI cF) | ((with_reducible refine at_store ?_); first | (refine listI rfl fun K hK => wpI_store1 _ _ _ rfl hI rfl 3 rfl rfl rfl (by simp) (by kernel_rfl) fun w' hI' => hK _ _ ?_; clear hK K; (try clear hb); refine am92 ?_; clear hI hI'; (try clear cF); intro hI cF)) | ((with_reducible refine at_store ?_); first | (refine listI rfl fun K hK => wpI_storeS _ _ _ rfl hI rfl 3 rfl rfl rfl (by simp) (by kernel_rfl) (by simp [Value.oneCell']) fun w' hI' => hK _ _ ?_; clear hK K; (try clear hb); refine am92 ?_; clear hI hI'; (try clear cF); intro hI cF)) | fail)
  refine HK.out _ _ ?_ hI; unfold FrSw
  (repeat apply Exists.intro)
  rfl
set_option maxRecDepth 1000000 in
set_option maxHeartbeats 8000000 in
theorem r_sw10 (R : Ending → World → Prop) (K : Act → World → Prop) (mc : Array Value) (w wc : World) (k : Nat) (a b : Nat) (c : Int) (x y z : Val) (gM gR gI gA gB gC gT gV : Nat) (A : Option Addr) (cp : Nat) (xs : List Val)
    (hI : InvT (fun _ => False) w (swR gM gR gI gV gA gB gC mc 10 a b c Val.zero x y z []) wc)
    (p61 : mc[61]? = some (.slice A xs.length cp))
    (hk : y.key.Wf)
    (hn : xs.length ≤ maxLen)
    (hwf : ∀ (i : Nat) v, xs[i]? = some v → Val.Wf v)
    (hL : Lies encV 7 w w.heap.size A xs)
    (hK : ∀ a' w', FrSw mc k gM gR gI gA gB gC gT gV (loadF xs y.key c).2 1 true a' → InvT (fun _ => False) w (swR gM gR gI gV gA gB gC mc 10 a b c (loadF xs y.key c).1 x y z []) w' → K a' w')
    {fr : Act} (hF : FrOp mc k gM gR gI gA gB gC gT gV 10 fr) : Code.wp Tryz.prog swCode (Exit.then K (bodyPost Tryz.prog Tryz.f31 R)) fr wc := by
  unfold swR at hI; refine am205 ?_; clear hF; intros; have HK := Lib.hid hK; clear hK
  conv => arg 2; whnf
  have cF := hI.facts; (try simp only [mm] at cF)
  go_wp2_with (first | (go_at_call 61; (with_reducible refine (r_Load A cp y.key hk c xs hn _ hwf (hI.lies hL)).mono ?_); refine am101 ?_; clear hI; (try clear cF); intro w' hI cF) | ((with_reducible refine at_store ?_); first | (refine listI rfl fun K hK => wpI_storeW _ _ _ rfl hI rfl 3 rfl rfl rfl (by kernel_rfl) (by simp [Value.oneCell']) fun w' hI' => hK _ _ ?_; clear hK K; (try clear hb); refine am92 ?_; clear hI hI'; (try clear cF); intro hI cF)) | fail)
  refine HK.out _ _ ?_ hI; unfold FrSw
  (repeat apply Exists.intro)
  rfl
end Go.Proofs.YthmpnnfejghhfaaGreatDoor
