/- The contracts of mem.Put and Store: each returns a plain function of its values. Conditions: the numbers are numbers of 64 bits. -/
import Derived.Test.YtnbppchpgagliaaMemRef
import Derived.Test.YtnbppchpgagliaaOwnSet
namespace Go.Proofs.Ytnbppchpgagliaa
open Go.RowKit
set_option linter.unusedVariables false
set_option linter.unusedSimpArgs false
set_option maxRecDepth 100000

/-- Put: the memory behind it, and an error -/
def putF (xs : List Val) (k : Key) (off : Int) (v : Val) : List Val × Int :=
  if ((place xs.length k off 2).2 != 0) = true then (xs, (place xs.length k off 2).2) else
    if (v.is && !hasP 16 k.perm) = true then (xs, 12) else (xs.set (k.pos + off).toNat v, 0)
def storeF (xs : List Val) (k : Key) (off : Int) (v : Val) : List Val × Int :=
  if (memE xs != 0) = true then ([], memE xs) else if (valE v != 0) = true then ([], valE v) else if ((putF xs k off v).2 != 0) = true then ([], (putF xs k off v).2) else ((putF xs k off v).1, 0)
section
variable {xs : List Val} {k : Key} {off : Int} {v : Val}
theorem putF_no (h : ((place xs.length k off 2).2 != 0) = true) : putF xs k off v = (xs, (place xs.length k off 2).2) := by unfold putF; rw [if_pos h]
theorem putF_hid (h : ((place xs.length k off 2).2 != 0) = false) (h1 : (v.is && !hasP 16 k.perm) = true) : putF xs k off v = (xs, 12) := by unfold putF; rw [if_neg (by simp [h]), if_pos h1]
theorem putF_yes {i : Nat} (h : ((place xs.length k off 2).2 != 0) = false) (hi : k.pos + off = i) (h1 : (v.is && !hasP 16 k.perm) = false) : putF xs k off v = (xs.set i v, 0) := by unfold putF; rw [if_neg (by simp [h]), if_neg (by simp [h1]), hi, Int.toNat_natCast]
theorem putF_length : (putF xs k off v).1.length = xs.length := by unfold putF; split; · rfl
                                                                   split; · rfl
                                                                   simp
theorem storeF_mem (h : (memE xs != 0) = true) : storeF xs k off v = ([], memE xs) := by unfold storeF; rw [if_pos h]
theorem storeF_val (h : (memE xs != 0) = false) (h1 : (valE v != 0) = true) : storeF xs k off v = ([], valE v) := by unfold storeF; rw [if_neg (by simp [h]), if_pos h1]
theorem storeF_no (h : (memE xs != 0) = false) (h1 : (valE v != 0) = false) (h2 : ((putF xs k off v).2 != 0) = true) : storeF xs k off v = ([], (putF xs k off v).2) := by unfold storeF; rw [if_neg (by simp [h]), if_neg (by simp [h1]), if_pos h2]
theorem storeF_yes (h : (memE xs != 0) = false) (h1 : (valE v != 0) = false) (h2 : ((putF xs k off v).2 != 0) = false) : storeF xs k off v = ((putF xs k off v).1, 0) := by unfold storeF; rw [if_neg (by simp [h]), if_neg (by simp [h1]), if_neg (by simp [h2])]
theorem memE_len (h : (memE xs != 0) = false) : xs.length ≤ 400 := by
  unfold memE at h
  split at h
  · cases h
  · omega
end
theorem keyVal (k : Key) (v : Val) (w : World) : KeptB w [(#[.int .i64 k.perm, .int .i64 k.base, .int .i64 k.len, .int .i64 k.pos, .int .i64 k.tag], 28), (#[.bool v.is, .int .i64 v.n, .int .i64 v.key.perm, .int .i64 v.key.base, .int .i64 v.key.len, .int .i64 v.key.pos, .int .i64 v.key.tag], 35)] ((w.alloc (.cells #[.int .i64 k.perm, .int .i64 k.base, .int .i64 k.len, .int .i64 k.pos, .int .i64 k.tag] 28)).alloc (.cells #[.bool v.is, .int .i64 v.n, .int .i64 v.key.perm, .int .i64 v.key.base, .int .i64 v.key.len, .int .i64 v.key.pos, .int .i64 v.key.tag] 35)) :=
  ((KeptB.nil_ (Below.refl _ w)).more (t := 28) (cs := #[.int .i64 k.perm, .int .i64 k.base, .int .i64 k.len, .int .i64 k.pos, .int .i64 k.tag]) rfl).more (by simp [World.size_alloc])
/-- what a call that writes into a row leaves -/
def RetPut (e : TypeId) (w : World) (base : Nat) (v : Value) (xs : List Val) (r : Int) : Ending → World → Prop := fun ed w' => ed = .returned (.int .i64 r) ∧ Own encV e 7 w' base v xs ∧ w.grownBy w' v.ownBlock
theorem RetPut.mk {e : TypeId} {w w' : World} {base : Nat} {v : Value} {xs : List Val} {p : List Val × Int} {r : Int} (h : p = (xs, r)) (hO : Own encV e 7 w' base v xs) (hg : w.grownBy w' v.ownBlock) : RetPut e w base v p.1 p.2 (.returned (.int .i64 r)) w' := by
  subst h; exact ⟨rfl, hO, hg⟩
theorem grown_of_below {w w' : World} (h : Below w.heap.size w w') (row : Option Nat) : w.grownBy w' row := ⟨h.os, h.tape, h.output, h.size, fun k hk _ => h.block k hk⟩

set_option maxHeartbeats 2000000 in
theorem c_mem_Put (A : Option Addr) (c : Nat) (k : Key) (hk : k.Wf) (off : Int) (v : Val) (xs : List Val) (hn : xs.length ≤ maxLen) (base : Nat) (w : World) (hO : Own encV 35 7 w base (.slice A xs.length c) xs) :
    Calls Try.prog 56 #[.slice A xs.length c, .agg #[.int .i64 k.perm, .int .i64 k.base, .int .i64 k.len, .int .i64 k.pos, .int .i64 k.tag], .int .i64 off, .agg #[.bool v.is, .int .i64 v.n, .int .i64 v.key.perm, .int .i64 v.key.base, .int .i64 v.key.len, .int .i64 v.key.pos, .int .i64 v.key.tag]] w (RetPut 35 w base (.slice A xs.length c) (putF xs k off v).1 (putF xs k off v).2) := by
  have hat := c_mem_At A xs.length c k hk off 2 hn
  have HO := Lib.hid hO
  clear hO
  cases he : ((place xs.length k off 2).2 != 0)
  · obtain ⟨i, hi, hin, hi4, hpl⟩ := place_nat he
    rw [hpl] at hat
    have HAT := Lib.hid hat
    have HI := Lib.hid hi
    have HE := Lib.hid he
    clear hat hi hpl he
    obtain ⟨g, rfl, hg1, hg2, hgf, -⟩ := HO.out.at_ (List.getElem?_eq_getElem hin)
    have hie : (i : Int) < xs.length := by omega
    rcases v with ⟨vi, vn, vk⟩
    cases vi
    · have H := Lib.hid (putF_yes (v := ⟨false, vn, vk⟩) HE.out HI.out rfl)
      go_enter Try.func56, Try.ntmps56
      go_wp2_with (first | (go_at_call 90; (with_reducible refine (HAT.out _).mono ?_); intro e w1 hr; obtain ⟨rfl, hb, hc, hf, hz⟩ := hr.use; clear hr hc hf; have hK := KeptB.on (keyVal k ⟨false, vn, vk⟩ w) hb; clear hb hz; have HK := Lib.hid hK; have hbw := hK.below; have HB0 := Lib.hid (hK.box 0 _ rfl); have c0 := fun o => HB0.out.cell o; have f0 := fun o => HB0.out.frozen o; have z0 := HB0.out.lt; (try dsimp only at c0); have HB1 := Lib.hid (hK.box 1 _ rfl); have c1 := fun o => HB1.out.cell o; have f1 := fun o => HB1.out.frozen o; have z1 := HB1.out.lt; (try dsimp only at c1); (try simp only [Nat.add_zero] at c0 f0 z0); clear hK) | (refine wpList_store_own rfl _ _ rfl el_V ⟨false, vn, vk⟩ (HO.out.below hbw (Nat.le_refl _)) hin rfl rfl rfl ?_; intro w2 hO2 hgw2 hzw2))
      go_returns
      exact RetPut.mk H.out hO2 ((grown_of_below hbw _).trans (by exact ⟨hgw2.os, hgw2.tape, hgw2.output, hgw2.size, hgw2.block⟩))
    · cases h8 : hasP 16 k.perm
      · have H := Lib.hid (putF_hid (v := ⟨true, vn, vk⟩) HE.out (by rw [h8]; rfl))
        have h8' := hasP_bits h8
        go_enter Try.func56, Try.ntmps56
        go_wp2_with (first | (go_at_call 90; (with_reducible refine (HAT.out _).mono ?_); intro e w1 hr; obtain ⟨rfl, hb, hc, hf, hz⟩ := hr.use; clear hr hc hf; have hK := KeptB.on (keyVal k ⟨true, vn, vk⟩ w) hb; clear hb hz; have HK := Lib.hid hK; have hbw := hK.below; have HB0 := Lib.hid (hK.box 0 _ rfl); have c0 := fun o => HB0.out.cell o; have f0 := fun o => HB0.out.frozen o; have z0 := HB0.out.lt; (try dsimp only at c0); have HB1 := Lib.hid (hK.box 1 _ rfl); have c1 := fun o => HB1.out.cell o; have f1 := fun o => HB1.out.frozen o; have z1 := HB1.out.lt; (try dsimp only at c1); (try simp only [Nat.add_zero] at c0 f0 z0); clear hK) | (refine wpList_store_own rfl _ _ rfl el_V ⟨true, vn, vk⟩ (HO.out.below hbw (Nat.le_refl _)) hin rfl rfl rfl ?_; intro w2 hO2 hgw2 hzw2))
        go_returns
        exact RetPut.mk H.out (HO.out.below hbw (Nat.le_refl _)) (grown_of_below hbw _)
      · have H := Lib.hid (putF_yes (v := ⟨true, vn, vk⟩) HE.out HI.out (by rw [h8]; rfl))
        have h8' := hasP_bits h8
        go_enter Try.func56, Try.ntmps56
        go_wp2_with (first | (go_at_call 90; (with_reducible refine (HAT.out _).mono ?_); intro e w1 hr; obtain ⟨rfl, hb, hc, hf, hz⟩ := hr.use; clear hr hc hf; have hK := KeptB.on (keyVal k ⟨true, vn, vk⟩ w) hb; clear hb hz; have HK := Lib.hid hK; have hbw := hK.below; have HB0 := Lib.hid (hK.box 0 _ rfl); have c0 := fun o => HB0.out.cell o; have f0 := fun o => HB0.out.frozen o; have z0 := HB0.out.lt; (try dsimp only at c0); have HB1 := Lib.hid (hK.box 1 _ rfl); have c1 := fun o => HB1.out.cell o; have f1 := fun o => HB1.out.frozen o; have z1 := HB1.out.lt; (try dsimp only at c1); (try simp only [Nat.add_zero] at c0 f0 z0); clear hK) | (refine wpList_store_own rfl _ _ rfl el_V ⟨true, vn, vk⟩ (HO.out.below hbw (Nat.le_refl _)) hin rfl rfl rfl ?_; intro w2 hO2 hgw2 hzw2))
        go_returns
        exact RetPut.mk H.out hO2 ((grown_of_below hbw _).trans (by exact ⟨hgw2.os, hgw2.tape, hgw2.output, hgw2.size, hgw2.block⟩))
  · have H := Lib.hid (putF_no (v := v) he)
    generalize place xs.length k off 2 = r at hat he H
    obtain ⟨ra, rb⟩ := r
    have HAT := Lib.hid hat
    clear hat
    simp only at he
    go_enter Try.func56, Try.ntmps56
    go_wp2_with (go_at_call 90; (with_reducible refine (HAT.out _).mono ?_); intro e w1 hr; obtain ⟨rfl, hb, hc, hf, hz⟩ := hr.use; clear hr hc hf; have hK := KeptB.on (keyVal k v w) hb; clear hb hz; have HK := Lib.hid hK; have hbw := hK.below; have HB0 := Lib.hid (hK.box 0 _ rfl); have c0 := fun o => HB0.out.cell o; have f0 := fun o => HB0.out.frozen o; have z0 := HB0.out.lt; (try dsimp only at c0); have HB1 := Lib.hid (hK.box 1 _ rfl); have c1 := fun o => HB1.out.cell o; have f1 := fun o => HB1.out.frozen o; have z1 := HB1.out.lt; (try dsimp only at c1); (try simp only [Nat.add_zero] at c0 f0 z0); clear hK)
    go_returns
    exact RetPut.mk H.out (HO.out.below hbw (Nat.le_refl _)) (grown_of_below hbw _)
set_option maxHeartbeats 2000000 in
theorem c_mem_Store (A : Option Addr) (c : Nat) (k : Key) (hk : k.Wf) (off : Int) (v : Val) (xs : List Val) (w : World) (hL : Lies encV 7 w w.heap.size A xs) :
    Calls Try.prog 23 #[.slice A xs.length c, .agg #[.int .i64 k.perm, .int .i64 k.base, .int .i64 k.len, .int .i64 k.pos, .int .i64 k.tag], .int .i64 off, .agg #[.bool v.is, .int .i64 v.n, .int .i64 v.key.perm, .int .i64 v.key.base, .int .i64 v.key.len, .int .i64 v.key.pos, .int .i64 v.key.tag]] w (RetOwn encV 35 7 w (storeF xs k off v).1 fun s => .tuple #[s, .int .i64 (storeF xs k off v).2]) := by
  cases he : (memE xs != 0)
  · have hlen := memE_len he
    cases hv : (valE v != 0)
    · have HP := Lib.hid (fun W A' c' (hO : Own encV 35 7 W w.heap.size (.slice A' xs.length c') xs) => c_mem_Put A' c' k hk off v xs (by unfold maxLen; omega) w.heap.size W hO)
      have hpl := putF_length (xs := xs) (k := k) (off := off) (v := v)
      cases hp : ((putF xs k off v).2 != 0)
      · have H := Lib.hid (storeF_yes he hv hp)
        rw [H.out]
        generalize putF xs k off v = r at HP hp hpl H
        obtain ⟨ys, re⟩ := r
        simp only at hp hpl
        go_enter Try.func23, Try.ntmps23
        go_wp2_with (first | (go_at_call 19; (with_reducible refine (c_mem_Check A c xs _ ((hL.below (by (repeat' (first | (with_reducible exact Below.refl _ _) | (with_reducible assumption) | (with_reducible refine Below.alloc ?_ ?_ _) | (with_reducible refine Below.drew ?_) | (with_reducible refine Below.setCell ?_ ?_ _) | (refine Below.trans ?_ (Below.mono (by with_reducible assumption) ?_)) | go_size)))).more (by simp only [World.size_alloc]; omega))).mono ?_); intro e w1 hr; obtain ⟨rfl, hb, hc, hf, hz⟩ := hr.use; clear hr hc hf; have hK := KeptB.on (keyVal k v w) hb; clear hb hz; have HK := Lib.hid hK; have hbw := hK.below; have HB0 := Lib.hid (hK.box 0 _ rfl); have c0 := fun o => HB0.out.cell o; have f0 := fun o => HB0.out.frozen o; have z0 := HB0.out.lt; (try dsimp only at c0); have HB1 := Lib.hid (hK.box 1 _ rfl); have c1 := fun o => HB1.out.cell o; have f1 := fun o => HB1.out.frozen o; have z1 := HB1.out.lt; (try dsimp only at c1); (try simp only [Nat.add_zero] at c0 f0 z0); clear hK) | (go_at_call 50; (with_reducible refine (c_cell_Check v _).mono ?_); intro e w2 hr; obtain ⟨rfl, hb, hc, hf, hz⟩ := hr.use; clear hr hc hf; have hK := KeptB.on (HK.out) hb; clear hb hz; have HK := Lib.hid hK; have hbw := hK.below; have HB0 := Lib.hid (hK.box 0 _ rfl); have c0 := fun o => HB0.out.cell o; have f0 := fun o => HB0.out.frozen o; have z0 := HB0.out.lt; (try dsimp only at c0); have HB1 := Lib.hid (hK.box 1 _ rfl); have c1 := fun o => HB1.out.cell o; have f1 := fun o => HB1.out.frozen o; have z1 := HB1.out.lt; (try dsimp only at c1); (try simp only [Nat.add_zero] at c0 f0 z0); clear hK) | (go_at_call 55; (with_reducible refine (c_Clone_V A c xs w2 (by unfold maxLen; omega) (by omega) ((hL.below hbw).more (by omega))).mono ?_); rintro e w3 ⟨A3, k3, rfl, hO3, hL3, hb3⟩; have HO := Lib.hid (hO3.base_mono hbw.size); clear hO3 hL3; have hK := HK.out.on hb3; clear hb3; (skip; have HK := Lib.hid hK; have hbw := hK.below; have HB0 := Lib.hid (hK.box 0 _ rfl); have c0 := fun o => HB0.out.cell o; have f0 := fun o => HB0.out.frozen o; have z0 := HB0.out.lt; (try dsimp only at c0); have HB1 := Lib.hid (hK.box 1 _ rfl); have c1 := fun o => HB1.out.cell o; have f1 := fun o => HB1.out.frozen o; have z1 := HB1.out.lt; (try dsimp only at c1); (try simp only [Nat.add_zero] at c0 f0 z0); clear hK)) | (go_at_call 56; (with_reducible refine (HP.out _ _ _ HO.out).mono ?_); rintro e w4 ⟨rfl, hO4, hg4⟩))
        go_returns
        exact RetOwn.mk (fun _ => rfl) hO4 (hbw.grown hg4 (by omega) fun k hk => (HO.out.lt k hk).1)
      · have H := Lib.hid (storeF_no he hv hp)
        rw [H.out]
        generalize putF xs k off v = r at HP hp hpl H
        obtain ⟨ys, re⟩ := r
        simp only at hp hpl
        go_enter Try.func23, Try.ntmps23
        go_wp2_with (first | (go_at_call 19; (with_reducible refine (c_mem_Check A c xs _ ((hL.below (by (repeat' (first | (with_reducible exact Below.refl _ _) | (with_reducible assumption) | (with_reducible refine Below.alloc ?_ ?_ _) | (with_reducible refine Below.drew ?_) | (with_reducible refine Below.setCell ?_ ?_ _) | (refine Below.trans ?_ (Below.mono (by with_reducible assumption) ?_)) | go_size)))).more (by simp only [World.size_alloc]; omega))).mono ?_); intro e w1 hr; obtain ⟨rfl, hb, hc, hf, hz⟩ := hr.use; clear hr hc hf; have hK := KeptB.on (keyVal k v w) hb; clear hb hz; have HK := Lib.hid hK; have hbw := hK.below; have HB0 := Lib.hid (hK.box 0 _ rfl); have c0 := fun o => HB0.out.cell o; have f0 := fun o => HB0.out.frozen o; have z0 := HB0.out.lt; (try dsimp only at c0); have HB1 := Lib.hid (hK.box 1 _ rfl); have c1 := fun o => HB1.out.cell o; have f1 := fun o => HB1.out.frozen o; have z1 := HB1.out.lt; (try dsimp only at c1); (try simp only [Nat.add_zero] at c0 f0 z0); clear hK) | (go_at_call 50; (with_reducible refine (c_cell_Check v _).mono ?_); intro e w2 hr; obtain ⟨rfl, hb, hc, hf, hz⟩ := hr.use; clear hr hc hf; have hK := KeptB.on (HK.out) hb; clear hb hz; have HK := Lib.hid hK; have hbw := hK.below; have HB0 := Lib.hid (hK.box 0 _ rfl); have c0 := fun o => HB0.out.cell o; have f0 := fun o => HB0.out.frozen o; have z0 := HB0.out.lt; (try dsimp only at c0); have HB1 := Lib.hid (hK.box 1 _ rfl); have c1 := fun o => HB1.out.cell o; have f1 := fun o => HB1.out.frozen o; have z1 := HB1.out.lt; (try dsimp only at c1); (try simp only [Nat.add_zero] at c0 f0 z0); clear hK) | (go_at_call 55; (with_reducible refine (c_Clone_V A c xs w2 (by unfold maxLen; omega) (by omega) ((hL.below hbw).more (by omega))).mono ?_); rintro e w3 ⟨A3, k3, rfl, hO3, hL3, hb3⟩; have HO := Lib.hid (hO3.base_mono hbw.size); clear hO3 hL3; have hK := HK.out.on hb3; clear hb3; (skip; have HK := Lib.hid hK; have hbw := hK.below; have HB0 := Lib.hid (hK.box 0 _ rfl); have c0 := fun o => HB0.out.cell o; have f0 := fun o => HB0.out.frozen o; have z0 := HB0.out.lt; (try dsimp only at c0); have HB1 := Lib.hid (hK.box 1 _ rfl); have c1 := fun o => HB1.out.cell o; have f1 := fun o => HB1.out.frozen o; have z1 := HB1.out.lt; (try dsimp only at c1); (try simp only [Nat.add_zero] at c0 f0 z0); clear hK)) | (go_at_call 56; (with_reducible refine (HP.out _ _ _ HO.out).mono ?_); rintro e w4 ⟨rfl, hO4, hg4⟩))
        go_returns
        exact RetOwn.mk (fun _ => rfl) Own.nil_ (hbw.grown hg4 (by omega) fun k hk => (HO.out.lt k hk).1)
    · have H := Lib.hid (storeF_val (k := k) (off := off) he hv)
      rw [H.out]
      go_enter Try.func23, Try.ntmps23
      go_wp2_with (first | (go_at_call 19; (with_reducible refine (c_mem_Check A c xs _ ((hL.below (by (repeat' (first | (with_reducible exact Below.refl _ _) | (with_reducible assumption) | (with_reducible refine Below.alloc ?_ ?_ _) | (with_reducible refine Below.drew ?_) | (with_reducible refine Below.setCell ?_ ?_ _) | (refine Below.trans ?_ (Below.mono (by with_reducible assumption) ?_)) | go_size)))).more (by simp only [World.size_alloc]; omega))).mono ?_); intro e w1 hr; obtain ⟨rfl, hb, hc, hf, hz⟩ := hr.use; clear hr hc hf; have hK := KeptB.on (keyVal k v w) hb; clear hb hz; have HK := Lib.hid hK; have hbw := hK.below; have HB0 := Lib.hid (hK.box 0 _ rfl); have c0 := fun o => HB0.out.cell o; have f0 := fun o => HB0.out.frozen o; have z0 := HB0.out.lt; (try dsimp only at c0); have HB1 := Lib.hid (hK.box 1 _ rfl); have c1 := fun o => HB1.out.cell o; have f1 := fun o => HB1.out.frozen o; have z1 := HB1.out.lt; (try dsimp only at c1); (try simp only [Nat.add_zero] at c0 f0 z0); clear hK) | (go_at_call 50; (with_reducible refine (c_cell_Check v _).mono ?_); intro e w2 hr; obtain ⟨rfl, hb, hc, hf, hz⟩ := hr.use; clear hr hc hf; have hK := KeptB.on (HK.out) hb; clear hb hz; have HK := Lib.hid hK; have hbw := hK.below; have HB0 := Lib.hid (hK.box 0 _ rfl); have c0 := fun o => HB0.out.cell o; have f0 := fun o => HB0.out.frozen o; have z0 := HB0.out.lt; (try dsimp only at c0); have HB1 := Lib.hid (hK.box 1 _ rfl); have c1 := fun o => HB1.out.cell o; have f1 := fun o => HB1.out.frozen o; have z1 := HB1.out.lt; (try dsimp only at c1); (try simp only [Nat.add_zero] at c0 f0 z0); clear hK))
      go_returns
      exact RetOwn.mk (fun _ => rfl) Own.nil_ hbw
  · have H := Lib.hid (storeF_mem (k := k) (off := off) (v := v) he)
    rw [H.out]
    go_enter Try.func23, Try.ntmps23
    go_wp2_with (go_at_call 19; (with_reducible refine (c_mem_Check A c xs _ ((hL.below (by (repeat' (first | (with_reducible exact Below.refl _ _) | (with_reducible assumption) | (with_reducible refine Below.alloc ?_ ?_ _) | (with_reducible refine Below.drew ?_) | (with_reducible refine Below.setCell ?_ ?_ _) | (refine Below.trans ?_ (Below.mono (by with_reducible assumption) ?_)) | go_size)))).more (by simp only [World.size_alloc]; omega))).mono ?_); intro e w1 hr; obtain ⟨rfl, hb, hc, hf, hz⟩ := hr.use; clear hr hc hf; have hK := KeptB.on (keyVal k v w) hb; clear hb hz; have HK := Lib.hid hK; have hbw := hK.below; have HB0 := Lib.hid (hK.box 0 _ rfl); have c0 := fun o => HB0.out.cell o; have f0 := fun o => HB0.out.frozen o; have z0 := HB0.out.lt; (try dsimp only at c0); have HB1 := Lib.hid (hK.box 1 _ rfl); have c1 := fun o => HB1.out.cell o; have f1 := fun o => HB1.out.frozen o; have z1 := HB1.out.lt; (try dsimp only at c1); (try simp only [Nat.add_zero] at c0 f0 z0); clear hK)
    go_returns
    exact RetOwn.mk (fun _ => rfl) Own.nil_ hbw
end Go.Proofs.Ytnbppchpgagliaa
