/- What the parts say: The contract of the reference's Store: it returns the same plain function. Conditions: the numbers are numbers of 64 bits. -/
import Derived.Test.YthmpnnfejghhfaaGreatDoorP11
import Derived.Deep.AppendLies
set_option linter.unusedVariables false
set_option linter.unusedSimpArgs false
namespace Go.Proofs.YthmpnnfejghhfaaGreatDoor
theorem az88 {P : Prop} (h : P := by
  clear hat6 hat7
  go_wp2
  all_goals
    go_returns
    rw [HS.out]
    exact RetOwn.mk (fun _ => rfl) (by rw [HSET.out]; exact hO7.base_mono (by omega)) hB7) : P := h
theorem am122 {P Q : Prop} (k : Q) (h : Hq Q → P := by (intro k_; have hz6 := hg6.size; (try simp only [World.size_alloc, World.size_drew] at hz6); have hS6 : ∀ o, w6.cell? ⟨w.heap.size + 1, o, none⟩ = #[.bool false, .int .i64 vn, .int .i64 vk.perm, .int .i64 vk.base, .int .i64 vk.len, .int .i64 vk.pos, .int .i64 vk.tag][o]? := fun o => (hg6.cell_far ⟨w.heap.size + 1, o, none⟩ (show w.heap.size + 1 < _ by ((try simp only [World.size_alloc, World.size_setCell, World.size_drew]) <;> omega)) (fun h => absurd (HO.out.lt _ h.symm).1 (show ¬ w3.heap.size ≤ w.heap.size + 1 by omega))).trans (by first | exact hS5 o | exact (World.cell?_alloc_lt _ _ _ z5).trans (hS5 o) | fail); have z6 : w.heap.size + 1 < w6.heap.size := (by omega); have hB6 := Below.grown (B := w.heap.size) (a := w) bel hg6 (by ((try simp only [World.size_alloc, World.size_setCell, World.size_drew]) <;> omega)) (fun k hk => by have := (HO.out.lt k hk).1; omega); revert hB6; revert z6; revert hS6; revert hz6; exact k_.out)) : P := h ⟨k⟩
theorem am123 {P Q : Prop} (k : Q) (h : Hq Q → P := by (intro k_; have hz6 := hg6.size; (try simp only [World.size_alloc, World.size_drew] at hz6); have hS6 : ∀ o, w6.cell? ⟨w.heap.size + 1, o, none⟩ = #[.bool true, .int .i64 vn, .int .i64 vk.perm, .int .i64 vk.base, .int .i64 vk.len, .int .i64 vk.pos, .int .i64 vk.tag][o]? := fun o => (hg6.cell_far ⟨w.heap.size + 1, o, none⟩ (show w.heap.size + 1 < _ by ((try simp only [World.size_alloc, World.size_setCell, World.size_drew]) <;> omega)) (fun h => absurd (HO.out.lt _ h.symm).1 (show ¬ w3.heap.size ≤ w.heap.size + 1 by omega))).trans (by first | exact hS5 o | exact (World.cell?_alloc_lt _ _ _ z5).trans (hS5 o) | fail); have z6 : w.heap.size + 1 < w6.heap.size := (by omega); have hB6 := Below.grown (B := w.heap.size) (a := w) bel hg6 (by ((try simp only [World.size_alloc, World.size_setCell, World.size_drew]) <;> omega)) (fun k hk => by have := (HO.out.lt k hk).1; omega); revert hB6; revert z6; revert hS6; revert hz6; exact k_.out)) : P := h ⟨k⟩
theorem am135 {P Q : Prop} (k : Q) (h : Hq Q → P := by (intro k_; (with_reducible refine (r_MemCheck A c xs _ HW.out ((hL.below bel).more (by simp only [World.size_alloc]; omega))).mono ?_); refine am110 ?_; exact k_.out)) : P := h ⟨k⟩
theorem am155 {P Q : Prop} (k : Q) (h : Hq Q → P := by (intro k_; (with_reducible refine (HAT.out _).mono ?_); intro e w3 hr; obtain ⟨rfl, hb, hc, hf, hz⟩ := hr.use; clear hr hc hf; have hK := KeptB.on (HK.out) hb; refine am94 ?_; clear hb hz hK; revert w3; exact k_.out)) : P := h ⟨k⟩
theorem am187 {P Q : Prop} (k : Q) (h : Hq Q → P := by (intro k_; (with_reducible refine (r_CellCheck _ hv0 _).mono ?_); refine am113 ?_; exact k_.out)) : P := h ⟨k⟩
theorem am188 {P Q : Prop} (k : Q) (h : Hq Q → P := by (intro k_; have hie : (i : Int) + 1 ≤ xs.length := (by omega); have hi0 : (0 : Int) ≤ (i : Int) := (by omega); have hi01 : (0 : Int) ≤ (i : Int) + 1 := (by omega); have hic : (i : Int) ≤ c := (by omega); have hic1 : (i : Int) + 1 ≤ c := (by omega); have e1 : IntKind.i64.wrap ((i : Int) + 1) = (i : Int) + 1 := IntWalk.i64_in _ (by omega); have e2 : ((i : Int) + 1).toNat = i + 1 := (by omega); revert e2; revert e1; revert hic1; revert hic; revert hi01; revert hi0; revert hie; exact k_.out)) : P := h ⟨k⟩
theorem am198 {P Q : Prop} (k : Q) (h : Hq Q → P := by (intro k_; (with_reducible refine (r_Copy_take _ c i xs _ (by omega) hlen ((hL.below bel).more (by ((try simp only [World.size_alloc, World.size_setCell, World.size_drew]) <;> omega)))).mono ?_); rintro e w5 ⟨v5, rfl, hO5, hb5⟩; have hz5 := hb5.size; (try simp only [World.size_alloc, World.size_drew] at hz5); revert hz5; revert hb5; revert hO5; revert v5; revert w5; exact k_.out)) : P := h ⟨k⟩
open Go.RowKit
set_option maxRecDepth 100000

theorem lies_built {α : Type} {enc : α → List Value} {size : Nat} {w w' : World} {cs : Array Value} {t : TypeId} (hb : Below (w.alloc (.cells cs t)).drew.heap.size (w.alloc (.cells cs t)).drew w') (x : α) (h : ∀ j, j < size → cs[j]? = (enc x)[j]?) :
    Lies enc size w' (w.heap.size + 1) (some ⟨w.heap.size, 0, none⟩) [x] := by
  have h1 := Lies.one w cs t x rfl h
  have h2 : Below (w.heap.size + 1) (w.alloc (.cells cs t)) w' := by
    have h3 : Below (w.heap.size + 1) (w.alloc (.cells cs t)).drew w' := hb.mono (by rw [World.size_drew, World.size_alloc]; exact Nat.le_refl _)
    exact ⟨h3.os, h3.tape, h3.output, h3.size, h3.block⟩
  exact h1.below h2
theorem Lies.drew {α : Type} {enc : α → List Value} {size : Nat} {w : World} {B : Nat} {A : Option Addr} {xs : List α} (h : Lies enc size w B A xs) : Lies enc size w.drew B A xs := h
theorem r_Copy_take (A : Option Addr) (c i : Nat) (xs : List Val) (w : World) (hi : i ≤ xs.length) (hn : xs.length ≤ 400) (hL : Lies encV 7 w w.heap.size A xs) :
    Calls Tryz.prog 43 #[.slice A i c] w fun e w' => ∃ v, e = .returned v ∧ Own encV 25 7 w' w.heap.size v (xs.take i) ∧ Below w.heap.size w w' := by
  have hl : (xs.take i).length = i := by rw [List.length_take]; omega
  have h := r_Copy_V A c (xs.take i) w (by unfold maxLen; omega) (by omega) hL.front
  rw [hl] at h
  exact h.mono fun e w' ⟨A', c', he, hO, _, hb⟩ => ⟨_, he, hO, hb⟩
set_option maxHeartbeats 4000000 in
theorem r_Store (A : Option Addr) (c : Nat) (k : Key) (hk : k.Wf) (off : Int) (v : Val) (hv0 : v.Wf) (xs : List Val) (w : World) (hc0 : xs.length ≤ c) (hc1 : c ≤ maxLen) (hwf : ∀ (i : Nat) v, xs[i]? = some v → Val.Wf v) (hL : Lies encV 7 w w.heap.size A xs) :
    Calls Tryz.prog 64 #[.slice A xs.length c, .agg #[.int .i64 k.perm, .int .i64 k.base, .int .i64 k.len, .int .i64 k.pos, .int .i64 k.tag], .int .i64 off, .agg #[.bool v.is, .int .i64 v.n, .int .i64 v.key.perm, .int .i64 v.key.base, .int .i64 v.key.len, .int .i64 v.key.pos, .int .i64 v.key.tag]] w (RetOwn encV 25 7 w (storeF xs k off v).1 fun s => .tuple #[s, .int .i64 (storeF xs k off v).2]) := by
  have HW := Lib.hid hwf; clear hwf
  have hcmax : c ≤ 9223372036854775807 := by unfold maxLen at hc1; omega
  have hs16 := subB_pow k.perm 4 (by omega); simp only [show (2 : Int) ^ 4 = 16 from rfl] at hs16; have HS16 := Lib.hid hs16; clear hs16
  cases he : (memE xs != 0)
  · have hlen := memE_len he
    cases hv : (valE v != 0)
    · have hat := r_place A xs.length c k hk off 1 (by omega) (by unfold maxLen; omega); simp only [show (2 : Int) ^ 1 = 2 from rfl] at hat
      cases hp : ((place xs.length k off 2).2 != 0)
      · obtain ⟨i, hi, hin, hi4, hpl⟩ := place_nat hp
        rw [hpl] at hat
        have HAT := Lib.hid hat; have HI := Lib.hid hi; have HE := Lib.hid hp; clear hat hi hpl hp
        rcases v with ⟨vi, vn, vk⟩
        cases vi
        · have H := Lib.hid (putF_yes (v := ⟨false, vn, vk⟩) HE.out HI.out (rfl)); have HS := Lib.hid (show storeF xs k off ⟨false, vn, vk⟩ = (xs.set i ⟨false, vn, vk⟩, 0) by rw [storeF_yes he hv (by rw [H.out]; rfl), H.out]); have HSET := Lib.hid (show xs.set i (Val.mk false vn vk) = xs.take i ++ [Val.mk false vn vk] ++ xs.drop (i + 1) by rw [List.set_eq_take_append_cons_drop, if_pos hin]; simp)
          go_enter Tryz.func64, Tryz.ntmps64
          go_wp2_with (first | (go_at_call 54; refine am135 ?_; intro w1 hb hz; have hK := KeptB.on (keyVal k ⟨false, vn, vk⟩ w) hb; refine am94 ?_; clear hb hz hK; intro HK hbw HB0 HB1 f1 z1 c1 c0 f0 z0) | (go_at_call 53; refine am187 ?_; intro w2; intro HK hbw HB0 HB1 f1 z1 c1 c0 f0 z0) | (go_at_call 57; refine am155 ?_; intro w3; intro HK hbw HB0 HB1 f1 z1 c1 c0 f0 z0))
          obtain ⟨b, o, v', rfl, hb, hv', -⟩ := hL.cellsV hin
          refine am188 ?_; intro hie hi0 hi01 hic hic1 e1 e2
          go_region_held3 (fun w' => (∀ o, w'.cell? ⟨w.heap.size + 1, o, none⟩ = #[.bool false, .int .i64 vn, .int .i64 vk.perm, .int .i64 vk.base, .int .i64 vk.len, .int .i64 vk.pos, .int .i64 vk.tag][o]?))
            (first | exact hS7 | exact hS6 | exact fun o => (World.cell?_alloc_lt _ _ _ z5).trans (hS5 o) | exact hS5 | exact fun o => (World.cell?_alloc_lt _ _ _ z1).trans (c1 o) | exact c1 | fail)
            (first | (go_at_call 43; refine am198 ?_; intro w5 v5 hO5 hb5 hz5; have hS5 : ∀ o, w5.cell? ⟨w.heap.size + 1, o, none⟩ = #[.bool false, .int .i64 vn, .int .i64 vk.perm, .int .i64 vk.base, .int .i64 vk.len, .int .i64 vk.pos, .int .i64 vk.tag][o]? := fun o => (hb5.cell (p := ⟨_, o, none⟩) (by ((try simp only [World.size_alloc, World.size_setCell, World.size_drew]) <;> omega))).trans (by first | exact c1 o | exact (World.cell?_alloc_lt _ _ _ z1).trans (c1 o) | fail); have z5 : w.heap.size + 1 < w5.heap.size := (by omega); have HO := Lib.hid (hO5.base_mono (b := w3.heap.size) (by ((try simp only [World.size_alloc, World.size_setCell, World.size_drew]) <;> omega))); (try have HLV := lies_built (enc := encV) (size := 7) hb5 (Val.mk false vn vk) (fun j hj => by rw [List.getElem?_toArray]; rfl)); clear hO5; dsimp only) | (refine step_app rfl _ _ rfl el_V (HO.out.alloc _) (ys := [(Val.mk false vn vk)]) (Lies.one (enc := encV) _ _ _ (Val.mk false vn vk) rfl (fun j hj => by rw [List.getElem?_toArray]; rfl)) rfl rfl rfl (by simp [maxLen]; omega) (by simp; omega) (by ((try simp only [World.size_alloc, World.size_setCell, World.size_drew]) <;> omega)) ?_; intro v6 w6 hO6 hg6 hat6; refine am122 ?_; intro hz6 hS6 z6 hB6) | (refine step_app rfl _ _ rfl el_V HO.out (ys := [(Val.mk false vn vk)]) HLV rfl rfl rfl (by simp [maxLen]; omega) (by simp; omega) (by ((try simp only [World.size_alloc, World.size_setCell, World.size_drew]) <;> omega)) ?_; intro v6 w6 hO6 hg6 hat6; refine am122 ?_; intro hz6 hS6 z6 hB6) | (refine step_app rfl _ _ rfl el_V hO6 (ys := xs.drop (i + 1)) ((hL.below hB6).cut (k := i + 1) hc0) rfl (by simp) rfl (by simp [maxLen]; omega) (by simp; omega) (by omega) ?_; intro v7 w7 hO7 hg7 hat7; have hS7 : ∀ o, w7.cell? ⟨w.heap.size + 1, o, none⟩ = #[.bool false, .int .i64 vn, .int .i64 vk.perm, .int .i64 vk.base, .int .i64 vk.len, .int .i64 vk.pos, .int .i64 vk.tag][o]? := fun o => (hg7.cell_far ⟨w.heap.size + 1, o, none⟩ z6 (fun h => absurd (hO6.lt _ h.symm).1 (show ¬ w3.heap.size ≤ w.heap.size + 1 by omega))).trans (hS6 o); have hB7 := hB6.grown hg7 (by omega) (fun k hk => by have := (hO6.lt k hk).1; omega)) | fail)
          all_goals
            exact az88
        · cases h8 : hasP 16 k.perm
          · have H := Lib.hid (putF_hid (v := ⟨true, vn, vk⟩) HE.out (by rw [h8]; rfl)); have HS := Lib.hid (show storeF xs k off ⟨true, vn, vk⟩ = ([], 12) by rw [storeF_no he hv (by rw [H.out]; rfl), H.out]); have h8' : subB 16 k.perm = false := HS16.out.trans h8
            rw [HS.out]
            go_enter Tryz.func64, Tryz.ntmps64
            go_wp2_with (first | (go_at_call 54; refine am135 ?_; refine am192 ?_; intro w1; intro HK hbw HB0 HB1 f1 z1 c1 c0 f0 z0) | (go_at_call 53; refine am187 ?_; intro w2; intro HK hbw HB0 HB1 f1 z1 c1 c0 f0 z0) | (go_at_call 57; refine am155 ?_; intro w3; intro HK hbw HB0 HB1 f1 z1 c1 c0 f0 z0) | (go_at_call 84; (with_reducible refine (r_Within _ _ _).mono ?_); rintro e w1 ⟨rfl, rfl⟩))
            go_returns
            exact RetOwn.mk (fun _ => rfl) Own.nil_ hbw
          · have h8' : subB 16 k.perm = true := HS16.out.trans h8; have H := Lib.hid (putF_yes (v := ⟨true, vn, vk⟩) HE.out HI.out (by rw [h8]; rfl)); have HS := Lib.hid (show storeF xs k off ⟨true, vn, vk⟩ = (xs.set i ⟨true, vn, vk⟩, 0) by rw [storeF_yes he hv (by rw [H.out]; rfl), H.out]); have HSET := Lib.hid (show xs.set i (Val.mk true vn vk) = xs.take i ++ [Val.mk true vn vk] ++ xs.drop (i + 1) by rw [List.set_eq_take_append_cons_drop, if_pos hin]; simp)
            go_enter Tryz.func64, Tryz.ntmps64
            go_wp2_with (first | (go_at_call 54; refine am135 ?_; refine am192 ?_; intro w1; intro HK hbw HB0 HB1 f1 z1 c1 c0 f0 z0) | (go_at_call 53; refine am187 ?_; intro w2; intro HK hbw HB0 HB1 f1 z1 c1 c0 f0 z0) | (go_at_call 57; refine am155 ?_; intro w3; intro HK hbw HB0 HB1 f1 z1 c1 c0 f0 z0) | (go_at_call 84; (with_reducible refine (r_Within _ _ _).mono ?_); rintro e w1 ⟨rfl, rfl⟩))
            obtain ⟨b, o, v', rfl, hb, hv', -⟩ := hL.cellsV hin
            refine am188 ?_; intro hie hi0 hi01 hic hic1 e1 e2
            go_region_held3 (fun w' => (∀ o, w'.cell? ⟨w.heap.size + 1, o, none⟩ = #[.bool true, .int .i64 vn, .int .i64 vk.perm, .int .i64 vk.base, .int .i64 vk.len, .int .i64 vk.pos, .int .i64 vk.tag][o]?))
              (first | exact hS7 | exact hS6 | exact fun o => (World.cell?_alloc_lt _ _ _ z5).trans (hS5 o) | exact hS5 | exact fun o => (World.cell?_alloc_lt _ _ _ z1).trans (c1 o) | exact c1 | fail)
              (first | (go_at_call 43; refine am198 ?_; intro w5 v5 hO5 hb5 hz5; have hS5 : ∀ o, w5.cell? ⟨w.heap.size + 1, o, none⟩ = #[.bool true, .int .i64 vn, .int .i64 vk.perm, .int .i64 vk.base, .int .i64 vk.len, .int .i64 vk.pos, .int .i64 vk.tag][o]? := fun o => (hb5.cell (p := ⟨_, o, none⟩) (by ((try simp only [World.size_alloc, World.size_setCell, World.size_drew]) <;> omega))).trans (by first | exact c1 o | exact (World.cell?_alloc_lt _ _ _ z1).trans (c1 o) | fail); have z5 : w.heap.size + 1 < w5.heap.size := (by omega); have HO := Lib.hid (hO5.base_mono (b := w3.heap.size) (by ((try simp only [World.size_alloc, World.size_setCell, World.size_drew]) <;> omega))); (try have HLV := lies_built (enc := encV) (size := 7) hb5 (Val.mk true vn vk) (fun j hj => by rw [List.getElem?_toArray]; rfl)); clear hO5; dsimp only) | (refine step_app rfl _ _ rfl el_V (HO.out.alloc _) (ys := [(Val.mk true vn vk)]) (Lies.one (enc := encV) _ _ _ (Val.mk true vn vk) rfl (fun j hj => by rw [List.getElem?_toArray]; rfl)) rfl rfl rfl (by simp [maxLen]; omega) (by simp; omega) (by ((try simp only [World.size_alloc, World.size_setCell, World.size_drew]) <;> omega)) ?_; intro v6 w6 hO6 hg6 hat6; refine am123 ?_; intro hz6 hS6 z6 hB6) | (refine step_app rfl _ _ rfl el_V HO.out (ys := [(Val.mk true vn vk)]) HLV rfl rfl rfl (by simp [maxLen]; omega) (by simp; omega) (by ((try simp only [World.size_alloc, World.size_setCell, World.size_drew]) <;> omega)) ?_; intro v6 w6 hO6 hg6 hat6; refine am123 ?_; intro hz6 hS6 z6 hB6) | (refine step_app rfl _ _ rfl el_V hO6 (ys := xs.drop (i + 1)) ((hL.below hB6).cut (k := i + 1) hc0) rfl (by simp) rfl (by simp [maxLen]; omega) (by simp; omega) (by omega) ?_; intro v7 w7 hO7 hg7 hat7; have hS7 : ∀ o, w7.cell? ⟨w.heap.size + 1, o, none⟩ = #[.bool true, .int .i64 vn, .int .i64 vk.perm, .int .i64 vk.base, .int .i64 vk.len, .int .i64 vk.pos, .int .i64 vk.tag][o]? := fun o => (hg7.cell_far ⟨w.heap.size + 1, o, none⟩ z6 (fun h => absurd (hO6.lt _ h.symm).1 (show ¬ w3.heap.size ≤ w.heap.size + 1 by omega))).trans (hS6 o); have hB7 := hB6.grown hg7 (by omega) (fun k hk => by have := (hO6.lt k hk).1; omega)) | fail)
            all_goals
              exact az88
      · have H := Lib.hid (putF_no (v := v) hp); have HS := Lib.hid (show storeF xs k off v = ([], (place xs.length k off 2).2) by rw [storeF_no he hv (by rw [H.out]; exact hp), H.out])
        rw [HS.out]
        generalize place xs.length k off 2 = r at hat hp HS H
        obtain ⟨ra, rb⟩ := r; have HAT := Lib.hid hat; clear hat
        simp only at hp
        go_enter Tryz.func64, Tryz.ntmps64
        go_wp2_with (first | (go_at_call 54; refine am135 ?_; intro w1 hb hz; have hK := KeptB.on (keyVal k v w) hb; refine am94 ?_; clear hb hz hK; intro HK hbw HB0 HB1 f1 z1 c1 c0 f0 z0) | (go_at_call 53; refine am187 ?_; intro w2; intro HK hbw HB0 HB1 f1 z1 c1 c0 f0 z0) | (go_at_call 57; refine am155 ?_; intro w3; intro HK hbw HB0 HB1 f1 z1 c1 c0 f0 z0))
        go_returns
        exact RetOwn.mk (fun _ => rfl) Own.nil_ hbw
    · have H := Lib.hid (storeF_val (k := k) (off := off) he hv)
      rw [H.out]
      go_enter Tryz.func64, Tryz.ntmps64
      go_wp2_with (first | (go_at_call 54; refine am135 ?_; intro w1 hb hz; have hK := KeptB.on (keyVal k v w) hb; refine am94 ?_; clear hb hz hK; intro HK hbw HB0 HB1 f1 z1 c1 c0 f0 z0) | (go_at_call 53; refine am187 ?_; intro w2; intro HK hbw HB0 HB1 f1 z1 c1 c0 f0 z0))
      go_returns
      exact RetOwn.mk (fun _ => rfl) Own.nil_ hbw
  · have H := Lib.hid (storeF_mem (k := k) (off := off) (v := v) he)
    rw [H.out]
    go_enter Tryz.func64, Tryz.ntmps64
    go_wp2_with (go_at_call 54; refine am135 ?_; intro w1 hb hz; have hK := KeptB.on (keyVal k v w) hb; refine am94 ?_; clear hb hz hK; intro HK hbw HB0 HB1 f1 z1 c1 c0 f0 z0)
    go_returns
    exact RetOwn.mk (fun _ => rfl) Own.nil_ hbw
end Go.Proofs.YthmpnnfejghhfaaGreatDoor
