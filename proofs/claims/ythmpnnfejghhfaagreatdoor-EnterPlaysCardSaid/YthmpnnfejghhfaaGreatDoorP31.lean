/- What the parts say: The reference's step: Store, Tell. Conditions: the machine's slices are not greater than a machine's may be. -/
import Derived.Test.YthmpnnfejghhfaaGreatDoorP24
import Derived.Test.YthmpnnfejghhfaaGreatDoorP25
import Derived.Test.YthmpnnfejghhfaaGreatDoorP04
import Derived.Deep.CutBlock
import Derived.Test.YthmpnnfejghhfaaGreatDoorP27
import Derived.Test.YthmpnnfejghhfaaGreatDoorP26
set_option linter.unusedVariables false
set_option linter.unusedSimpArgs false
namespace Go.Proofs.YthmpnnfejghhfaaGreatDoor
open Go.RowKit
set_option maxRecDepth 100000
set_option maxRecDepth 1000000 in
set_option maxHeartbeats 8000000 in
theorem r_sw11 (R : Ending → World → Prop) (K : Act → World → Prop) (mc : Array Value) (w wc : World) (k : Nat) (a b : Nat) (c : Int) (x y z : Val) (gM gR gI gA gB gC gT gV : Nat) (A : Option Addr) (cp : Nat) (xs : List Val)
    (hI : InvT (fun _ => False) w (swR gM gR gI gV gA gB gC mc 11 a b c Val.zero x y z []) wc)
    (H64 : Hid (mc.size = 64))
    (p61 : mc[61]? = some (.slice A xs.length cp))
    (hk : y.key.Wf)
    (hx : x.Wf)
    (hn : xs.length ≤ cp)
    (hcp : cp ≤ maxLen)
    (hwf : ∀ (i : Nat) v, xs[i]? = some v → Val.Wf v)
    (hL : Lies encV 7 w w.heap.size A xs)
    (hK : ∀ A2 cp2 a' w', FrSw mc k gM gR gI gA gB gC gT gV (storeF xs y.key c x).2 1 false a' → InvT (fun _ => False) w (swR gM gR gI gV gA gB gC (mc.setIfInBounds 61 (.slice A2 (storeF xs y.key c x).1.length cp2)) 11 a b c Val.zero x y z [.row 25 7 (.slice A2 (storeF xs y.key c x).1.length cp2) (storeF xs y.key c x).1.length ((storeF xs y.key c x).1.flatMap encV)]) w' → K a' w')
    {fr : Act} (hF : FrOp mc k gM gR gI gA gB gC gT gV 11 fr) : Code.wp Tryz.prog swCode (Exit.then K (bodyPost Tryz.prog Tryz.f31 R)) fr wc := by
  unfold swR at hI; refine am205 ?_; clear hF; intros; have HK := Lib.hid hK; clear hK
  conv => arg 2; whnf
  have cF := hI.facts; (try simp only [mm] at cF)
  go_wp2_with (first | (go_at_call 64; (with_reducible refine (r_Store A cp y.key hk c x hx xs _ hn hcp hwf (hI.lies hL)).mono ?_); rintro e w' ⟨A2, A2k, rfl, hO, -, hb⟩; have hI' := hI.ownrow hb hO; clear hO; (try clear hb); refine am92 ?_; clear hI hI'; (try clear cF); intro hI cF) | ((with_reducible refine at_store ?_); first | (refine listI rfl fun K hK => wpI_store1 _ _ _ rfl hI rfl 0 rfl rfl rfl (by rw [H64.out]; decide) (by kernel_rfl) fun w' hI' => hK _ _ ?_; clear hK K; (try clear hb); refine am92 ?_; clear hI hI'; (try clear cF); intro hI cF)) | fail)
  refine HK.out _ _ _ _ ?_ hI; unfold FrSw
  (repeat apply Exists.intro)
  rfl
set_option maxRecDepth 1000000 in
set_option maxHeartbeats 8000000 in
theorem r_sw22 (R : Ending → World → Prop) (K : Act → World → Prop) (mc : Array Value) (w wc : World) (k : Nat) (a b : Nat) (c : Int) (x y z : Val) (gM gR gI gA gB gC gT gV : Nat) (A : Option Addr) (cp : Nat) (xs : List Int)
    (hI : InvT (fun _ => False) w (swR gM gR gI gV gA gB gC mc 22 a b c Val.zero x y z []) wc)
    (H64 : Hid (mc.size = 64))
    (p63 : mc[63]? = some (.slice A xs.length cp))
    (hn : xs.length ≤ 99)
    (hn2 : xs.length ≤ 100)
    (hcp : xs.length ≤ cp ∧ cp ≤ maxLen)
    (hL : Lies encI 1 w w.heap.size A xs)
    (hK : ∀ A2 cp2 a' w', FrSw mc k gM gR gI gA gB gC gT gV 0 1 false a' → InvT (fun _ => False) w (swR gM gR gI gV gA gB gC (mc.setIfInBounds 63 (.slice A2 (xs ++ [x.n]).length cp2)) 22 a b c Val.zero x y z [.row 3 1 (.slice A2 (xs ++ [x.n]).length cp2) (xs ++ [x.n]).length ((xs ++ [x.n]).flatMap encI)]) w' → K a' w')
    {fr : Act} (hF : FrOp mc k gM gR gI gA gB gC gT gV 22 fr) : Code.wp Tryz.prog swCode (Exit.then K (bodyPost Tryz.prog Tryz.f31 R)) fr wc := by
  unfold swR at hI; refine am205 ?_; clear hF; intros; have hnz : ¬ (99 : Int) < xs.length := (by omega)
  exact az9
end Go.Proofs.YthmpnnfejghhfaaGreatDoor
