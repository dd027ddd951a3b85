/- What the parts say: The reference's step: If and Here. Conditions: none. -/
import Derived.Test.YthmpnnfejghhfaaGreatDoorP24
import Derived.Test.YthmpnnfejghhfaaGreatDoorP25
import Derived.Test.YthmpnnfejghhfaaGreatDoorP04
import Derived.Deep.CutBlock
import Derived.Test.YthmpnnfejghhfaaGreatDoorP27
set_option linter.unusedVariables false
set_option linter.unusedSimpArgs false
namespace Go.Proofs.YthmpnnfejghhfaaGreatDoor
theorem az83 {P : Prop} (h : P := by
  conv => arg 2; whnf
  have cF := hI.facts; (try simp only [mm] at cF)
  go_wp2_with (first | fail)
  refine HK.out _ _ ?_ hI; unfold FrSw
  (repeat apply Exists.intro)
  rfl) : P := h
open Go.RowKit
set_option maxRecDepth 100000
set_option maxRecDepth 1000000 in
set_option maxHeartbeats 8000000 in
theorem r_sw9z (R : Ending → World → Prop) (K : Act → World → Prop) (mc : Array Value) (w wc : World) (k : Nat) (a b : Nat) (c : Int) (x y z : Val) (gM gR gI gA gB gC gT gV : Nat)
    (hI : InvT (fun _ => False) w (swR gM gR gI gV gA gB gC mc 9 a b c Val.zero x y z []) wc)
    (hx : x.n = 0)
    (hK : ∀ a' w', FrSw mc k gM gR gI gA gB gC gT gV 0 1 false a' → InvT (fun _ => False) w (swR gM gR gI gV gA gB gC mc 9 a b c Val.zero x y z []) w' → K a' w')
    {fr : Act} (hF : FrOp mc k gM gR gI gA gB gC gT gV 9 fr) : Code.wp Tryz.prog swCode (Exit.then K (bodyPost Tryz.prog Tryz.f31 R)) fr wc := by
  unfold swR at hI; refine am205 ?_; clear hF; intros; have hx' : (x.n != 0) = false := (by simp [hx]); have HK := Lib.hid hK; clear hK
  exact az83
set_option maxRecDepth 1000000 in
set_option maxHeartbeats 8000000 in
theorem r_sw9n (R : Ending → World → Prop) (K : Act → World → Prop) (mc : Array Value) (w wc : World) (k : Nat) (a b : Nat) (c : Int) (x y z : Val) (gM gR gI gA gB gC gT gV : Nat)
    (hI : InvT (fun _ => False) w (swR gM gR gI gV gA gB gC mc 9 a b c Val.zero x y z []) wc)
    (hx : ¬ x.n = 0)
    (hK : ∀ a' w', FrSw mc k gM gR gI gA gB gC gT gV 0 c false a' → InvT (fun _ => False) w (swR gM gR gI gV gA gB gC mc 9 a b c Val.zero x y z []) w' → K a' w')
    {fr : Act} (hF : FrOp mc k gM gR gI gA gB gC gT gV 9 fr) : Code.wp Tryz.prog swCode (Exit.then K (bodyPost Tryz.prog Tryz.f31 R)) fr wc := by
  unfold swR at hI; refine am205 ?_; clear hF; intros; have hx' : (x.n != 0) = true := (by simp [hx]); have HK := Lib.hid hK; clear hK
  exact az83
set_option maxRecDepth 1000000 in
set_option maxHeartbeats 8000000 in
theorem r_sw20 (R : Ending → World → Prop) (K : Act → World → Prop) (mc : Array Value) (w wc : World) (k : Nat) (a b : Nat) (c : Int) (x y z : Val) (gM gR gI gA gB gC gT gV : Nat) (kc : Key)
    (hI : InvT (fun _ => False) w (swR gM gR gI gV gA gB gC mc 20 a b c Val.zero x y z []) wc)
    (p56 : mc[56]? = some (.int .i64 kc.perm))
    (p57 : mc[57]? = some (.int .i64 kc.base))
    (p58 : mc[58]? = some (.int .i64 kc.len))
    (p59 : mc[59]? = some (.int .i64 kc.pos))
    (p60 : mc[60]? = some (.int .i64 kc.tag))
    (hK : ∀ a' w', FrSw mc k gM gR gI gA gB gC gT gV 0 1 true a' → InvT (fun _ => False) w (swR gM gR gI gV gA gB gC mc 20 a b c (Val.mk true 0 (kc)) x y z []) w' → K a' w')
    {fr : Act} (hF : FrOp mc k gM gR gI gA gB gC gT gV 20 fr) : Code.wp Tryz.prog swCode (Exit.then K (bodyPost Tryz.prog Tryz.f31 R)) fr wc := by
  exact az201
end Go.Proofs.YthmpnnfejghhfaaGreatDoor
namespace Go.Proofs.YthmpnnfejghhfaaGreatDoor
open Go.RowKit
set_option maxRecDepth 100000
set_option maxRecDepth 1000000 in
set_option maxHeartbeats 8000000 in
theorem r_sw14 (R : Ending → World → Prop) (K : Act → World → Prop) (mc : Array Value) (w wc : World) (k : Nat) (a b : Nat) (c : Int) (x y z : Val) (gM gR gI gA gB gC gT gV : Nat)
    (hI : InvT (fun _ => False) w (swR gM gR gI gV gA gB gC mc 14 a b c Val.zero x y z []) wc)
    (hk : y.key.Wf)
    (hK : ∀ a' w', FrSw mc k gM gR gI gA gB gC gT gV (keyDrop y.key c).2 1 true a' → InvT (fun _ => False) w (swR gM gR gI gV gA gB gC mc 14 a b c (Val.mk true 0 ((keyDrop y.key c).1)) x y z []) w' → K a' w')
    {fr : Act} (hF : FrOp mc k gM gR gI gA gB gC gT gV 14 fr) : Code.wp Tryz.prog swCode (Exit.then K (bodyPost Tryz.prog Tryz.f31 R)) fr wc := by
  unfold swR at hI; refine am205 ?_; clear hF; intros; have HK := Lib.hid hK; clear hK
  conv => arg 2; whnf
  have cF := hI.facts; (try simp only [mm] at cF)
  go_wp2_with (first | (go_at_call 62; (with_reducible refine (r_KeyOp_drop y.key c hk _).mono ?_); refine am101 ?_; clear hI; (try clear cF); intro w' hI cF) | ((with_reducible refine at_store ?_); first | (refine listI rfl fun K hK => wpI_store1 _ _ _ rfl hI rfl 3 rfl rfl rfl (by simp) (by kernel_rfl) fun w' hI' => hK _ _ ?_; clear hK K; (try clear hb); refine am92 ?_; clear hI hI'; (try clear cF); intro hI cF)) | ((with_reducible refine at_store ?_); first | (refine listI rfl fun K hK => wpI_storeS _ _ _ rfl hI rfl 3 rfl rfl rfl (by simp) (by kernel_rfl) (by simp [Value.oneCell']) fun w' hI' => hK _ _ ?_; clear hK K; (try clear hb); refine am92 ?_; clear hI hI'; (try clear cF); intro hI cF)) | fail)
  refine HK.out _ _ ?_ hI; unfold FrSw
  (repeat apply Exists.intro)
  rfl
set_option maxRecDepth 1000000 in
set_option maxHeartbeats 8000000 in
theorem r_sw15 (R : Ending → World → Prop) (K : Act → World → Prop) (mc : Array Value) (w wc : World) (k : Nat) (a b : Nat) (c : Int) (x y z : Val) (gM gR gI gA gB gC gT gV : Nat)
    (hI : InvT (fun _ => False) w (swR gM gR gI gV gA gB gC mc 15 a b c Val.zero x y z []) wc)
    (hk : y.key.Wf)
    (hz : z.key.Wf)
    (hK : ∀ a' w', FrSw mc k gM gR gI gA gB gC gT gV (keySeal y.key z.key).2 1 true a' → InvT (fun _ => False) w (swR gM gR gI gV gA gB gC mc 15 a b c (Val.mk true 0 ((keySeal y.key z.key).1)) x y z []) w' → K a' w')
    {fr : Act} (hF : FrOp mc k gM gR gI gA gB gC gT gV 15 fr) : Code.wp Tryz.prog swCode (Exit.then K (bodyPost Tryz.prog Tryz.f31 R)) fr wc := by
  unfold swR at hI; refine am205 ?_; clear hF; intros; have HK := Lib.hid hK; clear hK
  conv => arg 2; whnf
  have cF := hI.facts; (try simp only [mm] at cF)
  go_wp2_with (first | (go_at_call 63; (with_reducible refine (r_KeySeal_seal y.key z.key hk hz _).mono ?_); refine am101 ?_; clear hI; (try clear cF); intro w' hI cF) | ((with_reducible refine at_store ?_); first | (refine listI rfl fun K hK => wpI_store1 _ _ _ rfl hI rfl 3 rfl rfl rfl (by simp) (by kernel_rfl) fun w' hI' => hK _ _ ?_; clear hK K; (try clear hb); refine am92 ?_; clear hI hI'; (try clear cF); intro hI cF)) | ((with_reducible refine at_store ?_); first | (refine listI rfl fun K hK => wpI_storeS _ _ _ rfl hI rfl 3 rfl rfl rfl (by simp) (by kernel_rfl) (by simp [Value.oneCell']) fun w' hI' => hK _ _ ?_; clear hK K; (try clear hb); refine am92 ?_; clear hI hI'; (try clear cF); intro hI cF)) | fail)
  refine HK.out _ _ ?_ hI; unfold FrSw
  (repeat apply Exists.intro)
  rfl
end Go.Proofs.YthmpnnfejghhfaaGreatDoor
