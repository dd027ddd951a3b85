/- What the parts say: The contracts of mem.At, Get and Load and of their references: each returns a plain function of its values. Conditions: the numbers are numbers of 64 bits. -/
import Derived.Test.YthmpnnfejghhfaaGreatDoorP07
import Derived.Test.YthmpnnfejghhfaaGreatDoorP09
import Derived.Test.YthmpnnfejghhfaaGreatDoorP03
import Derived.Test.YthmpnnfejghhfaaGreatDoorP04
import Derived.Test.YthmpnnfejghhfaaGreatDoorP10
set_option linter.unusedVariables false
set_option linter.unusedSimpArgs false
namespace Go.Proofs.YthmpnnfejghhfaaGreatDoor
theorem az19 {P : Prop} (h : P := by
  go_enter Tryz.func75, Tryz.ntmps75
  go_wp2_with (go_at_call 45; (with_reducible refine (c_keys_Check k _).mono ?_); refine am177 ?_; intro w1; intro HK hbw HB0 c0 f0 z0)
  go_ret2
  exact Ret.int2 H.out bel) : P := h
theorem az22 {P : Prop} (h : P := by
  go_enter Tryz.func75, Tryz.ntmps75
  go_wp2_with (first | (go_at_call 45; (with_reducible refine (c_keys_Check k _).mono ?_); refine am177 ?_; intro w1; intro HK hbw HB0 c0 f0 z0) | (go_at_call 89; (with_reducible refine (c_keys_Covers k (k.pos + off) hk (by unfold i64; omega) _).mono ?_); refine am156 ?_; intro w2; intro HK hbw HB0 c0 f0 z0))
  go_ret2
  exact Ret.int2 H.out bel) : P := h
theorem az45 {P : Prop} (h : P := by
  go_enter Tryz.func57, Tryz.ntmps57
  go_wp2_with (go_at_call 83; (with_reducible refine (r_KeyCheck k hk _).mono ?_); refine am177 ?_; intro w1; intro HK hbw HB0 c0 f0 z0)
  go_ret2
  exact Ret.int2 H.out bel) : P := h
theorem az80 {P : Prop} (h : P := by
  go_returns
  exact RetPut.mk H.out hO2 ((grown_of_below hbw _).trans (by exact ⟨hgw2.os, hgw2.tape, hgw2.output, hgw2.size, hgw2.block⟩)) (fun h => absurd rfl h)) : P := h
theorem az82 {P : Prop} (h : P := by
  have H := Lib.hid (place_out (n := n) (off := off) (p := p) h0 h1 h2 (by
    cases h3 : cov k (k.pos + off)
    · rfl
    · have := cov_off h0 h3; omega))
  exact az19) : P := h
theorem am94 {P Q : Prop} (k : Q) (h : Hq Q → P := by (intro k_; have HK := Lib.hid hK; have hbw := hK.below; have HB0 := Lib.hid (hK.box 0 _ rfl); have c0 := fun o => HB0.out.cell o; have f0 := fun o => HB0.out.frozen o; have z0 := HB0.out.lt; (try dsimp only at c0); have HB1 := Lib.hid (hK.box 1 _ rfl); have c1 := fun o => HB1.out.cell o; have f1 := fun o => HB1.out.frozen o; have z1 := HB1.out.lt; (try dsimp only at c1); (try simp only [Nat.add_zero] at c0 f0 z0); revert z0; revert f0; revert c0; revert c1; revert z1; revert f1; revert HB1; revert HB0; revert hbw; revert HK; exact k_.out)) : P := h ⟨k⟩
theorem am100 {P Q : Prop} (k : Q) (h : Hq Q → P := by (intro k_; have HK := Lib.hid hK; have hbw := hK.below; have HB0 := Lib.hid (hK.box 0 _ rfl); have c0 := fun o => HB0.out.cell o; have f0 := fun o => HB0.out.frozen o; have z0 := HB0.out.lt; (try dsimp only at c0); (try simp only [Nat.add_zero] at c0 f0 z0); revert z0; revert f0; revert c0; revert HB0; revert hbw; revert HK; exact k_.out)) : P := h ⟨k⟩
theorem am110 {P Q : Prop} (k : Q) (h : Hq Q → P := by (intro k_; intro e w1 hr; obtain ⟨rfl, hb, hc, hf, hz⟩ := hr.use; clear hr hc hf; revert hz; revert hb; revert w1; exact k_.out)) : P := h ⟨k⟩
theorem am113 {P Q : Prop} (k : Q) (h : Hq Q → P := by (intro k_; intro e w2 hr; obtain ⟨rfl, hb, hc, hf, hz⟩ := hr.use; clear hr hc hf; have hK := KeptB.on (HK.out) hb; refine am94 ?_; clear hb hz hK; revert w2; exact k_.out)) : P := h ⟨k⟩
theorem am120 {P Q : Prop} (k : Q) (h : Hq Q → P := by (intro k_; (with_reducible refine (r_MemCheck _ c xs _ HW.out ((hL.below bel).more (by simp only [World.size_alloc]; omega))).mono ?_); refine am110 ?_; intro w1 hb hz; have hK := KeptB.on (keyB2 k w) hb; refine am94 ?_; clear hb hz hK; revert w1; exact k_.out)) : P := h ⟨k⟩
theorem am154 {P Q : Prop} (k : Q) (h : Hq Q → P := by (intro k_; (try simp only [Exit.inBlock, Exit.then]); refine bodyPost_ret (results_ct rfl rfl hbw3 Tryz.underlying25 rfl (by kernel_rfl)) rfl ?_; exact k_.out)) : P := h ⟨k⟩
theorem am156 {P Q : Prop} (k : Q) (h : Hq Q → P := by (intro k_; intro e w2 hr; obtain ⟨rfl, hb, hc, hf, hz⟩ := hr.use; clear hr hc hf; have hK := KeptB.on (HK.out) hb; refine am100 ?_; clear hb hz hK; revert w2; exact k_.out)) : P := h ⟨k⟩
theorem am164 {P Q : Prop} (k : Q) (h : Hq Q → P := by (intro k_; (try simp only [Exit.inBlock, Exit.then]); refine bodyPost_ret (results_ct rfl rfl hbw2 Tryz.underlying25 rfl (by kernel_rfl)) rfl ?_; exact k_.out)) : P := h ⟨k⟩
theorem am168 {P Q : Prop} (k : Q) (h : Hq Q → P := by (intro k_; (with_reducible refine (HAT.out _).mono ?_); refine am110 ?_; intro w1 hb hz; have hK := KeptB.on (keyB2 k w) hb; refine am94 ?_; clear hb hz hK; revert w1; exact k_.out)) : P := h ⟨k⟩
theorem am177 {P Q : Prop} (k : Q) (h : Hq Q → P := by (intro k_; refine am110 ?_; intro w1 hb hz; have hK := KeptB.on (keyB k w) hb; refine am100 ?_; clear hb hz hK; revert w1; exact k_.out)) : P := h ⟨k⟩
theorem am192 {P Q : Prop} (k : Q) (h : Hq Q → P := by (intro k_; intro w1 hb hz; have hK := KeptB.on (keyVal k ⟨true, vn, vk⟩ w) hb; refine am94 ?_; clear hb hz hK; revert w1; exact k_.out)) : P := h ⟨k⟩
open Go.RowKit
set_option maxRecDepth 100000

def place (n : Nat) (k : Key) (off p : Int) : Int × Int :=
  if keyOk k = true then (if (k.tag == 0) = true then (if hasP p k.perm = true then (if (cov k (k.pos + off) && decide (k.pos + off < n)) = true then (k.pos + off, 0) else (0, 13)) else (0, 12)) else (0, 11)) else (0, 1)
section
variable {n : Nat} {k : Key} {off p : Int}
theorem place_bad (h : keyOk k = false) : place n k off p = (0, 1) := by simp [place, h]
theorem place_seal (h : keyOk k = true) (h1 : (k.tag == 0) = false) : place n k off p = (0, 11) := by unfold place; rw [if_pos h, if_neg (by simp [h1])]
theorem place_perm (h : keyOk k = true) (h1 : (k.tag == 0) = true) (h2 : hasP p k.perm = false) : place n k off p = (0, 12) := by unfold place; rw [if_pos h, if_pos h1, if_neg (by simp [h2])]
theorem place_out (h : keyOk k = true) (h1 : (k.tag == 0) = true) (h2 : hasP p k.perm = true) (h3 : (cov k (k.pos + off) && decide (k.pos + off < n)) = false) : place n k off p = (0, 13) := by unfold place; rw [if_pos h, if_pos h1, if_pos h2, if_neg (by simp [h3])]
theorem place_in (h : keyOk k = true) (h1 : (k.tag == 0) = true) (h2 : hasP p k.perm = true) (h3 : cov k (k.pos + off) = true) (h4 : k.pos + off < n) : place n k off p = (k.pos + off, 0) := by unfold place; rw [if_pos h, if_pos h1, if_pos h2, if_pos (by rw [h3, decide_eq_true h4]; rfl)]
theorem cov_off (h : keyOk k = true) (h3 : cov k (k.pos + off) = true) : -400 ≤ off ∧ off ≤ 400 ∧ 0 ≤ k.pos + off ∧ k.pos + off < 400 := by
  have := keyOk_iff.1 h
  have := cov_iff.1 h3
  omega
theorem place_ok (h : (place n k off p).2 = 0) : keyOk k = true ∧ k.tag = 0 ∧ hasP p k.perm = true ∧ (place n k off p).1 = k.pos + off ∧ 0 ≤ k.pos + off ∧ k.pos + off < n ∧ k.pos + off < 400 ∧ cov k (k.pos + off) = true := by
  cases h0 : keyOk k
  · rw [place_bad h0] at h; cases h
  cases h1 : (k.tag == 0)
  · rw [place_seal h0 h1] at h; cases h
  cases h2 : hasP p k.perm
  · rw [place_perm h0 h1 h2] at h; cases h
  cases h3 : (cov k (k.pos + off) && decide (k.pos + off < n))
  · rw [place_out h0 h1 h2 h3] at h; cases h
  · rw [Bool.and_eq_true, decide_eq_true_eq] at h3
    have := cov_off h0 h3.1
    rw [place_in h0 h1 h2 h3.1 h3.2]
    exact ⟨rfl, by simpa using h1, rfl, rfl, this.2.2.1, h3.2, this.2.2.2, h3.1⟩
end
theorem hasP_bits {p x : Int} {b : Bool} (h : hasP p x = b) : (bits .and .i64 x p == 0) = !b := by
  unfold hasP at h
  rw [← h]; simp
theorem Ret.int2 {a b : Int} {w w' : World} {p : Int × Int} (h : p = (a, b)) (hb : Below w.heap.size w w') : Ret (.tuple #[.int .i64 p.1, .int .i64 p.2]) w (.returned (.tuple #[.int .i64 a, .int .i64 b])) w' := by
  subst h; exact ⟨rfl, hb⟩

theorem keyB (k : Key) (w : World) : KeptB w [(#[.int .i64 k.perm, .int .i64 k.base, .int .i64 k.len, .int .i64 k.pos, .int .i64 k.tag], 23)] (w.alloc (.cells #[.int .i64 k.perm, .int .i64 k.base, .int .i64 k.len, .int .i64 k.pos, .int .i64 k.tag] 23)) := (KeptB.nil_ (Below.refl _ w)).more (t := 23) (cs := #[.int .i64 k.perm, .int .i64 k.base, .int .i64 k.len, .int .i64 k.pos, .int .i64 k.tag]) rfl
set_option maxHeartbeats 2000000 in
theorem c_mem_At (A : Option Addr) (n c : Nat) (k : Key) (hk : k.Wf) (off p : Int) (hn : n ≤ maxLen) (w : World) :
    Calls Tryz.prog 75 #[.slice A n c, .agg #[.int .i64 k.perm, .int .i64 k.base, .int .i64 k.len, .int .i64 k.pos, .int .i64 k.tag], .int .i64 off, .int .i64 p] w (Ret (.tuple #[.int .i64 (place n k off p).1, .int .i64 (place n k off p).2]) w) := by
  have hn' : n ≤ 9223372036854775807 := by unfold maxLen at hn; omega
  clear hn
  cases h0 : keyOk k
  · have k0 := keyE_no h0; have H := Lib.hid (place_bad (n := n) (off := off) (p := p) h0)
    exact az19
  have k0 := keyE_ok h0; obtain ⟨⟨b1, b2⟩, ⟨l1, l2⟩, ⟨p1, p2⟩, ⟨a1, a2⟩, ⟨t1, t2⟩⟩ := keyOk_iff.1 h0
  cases h1 : (k.tag == 0)
  · have H := Lib.hid (place_seal (n := n) (off := off) (p := p) h0 h1)
    have h1' : (k.tag != 0) = true := by rw [bne, h1]; rfl
    exact az19
  have h1' : (k.tag != 0) = false := by rw [bne, h1]; rfl
  cases h2 : hasP p k.perm
  · have H := Lib.hid (place_perm (n := n) (off := off) (p := p) h0 h1 h2); have h2' := hasP_bits h2
    exact az19
  have h2' := hasP_bits h2
  rcases Int.lt_or_le off (-400) with g1 | g1
  · exact az82
  rcases Int.lt_or_le 400 off with g2 | g2
  · exact az82
  cases h3 : cov k (k.pos + off)
  · have H := Lib.hid (place_out (n := n) (off := off) (p := p) h0 h1 h2 (by rw [h3]; rfl))
    exact az22
  rcases Int.lt_or_le (k.pos + off) n with g3 | g3
  · have H := Lib.hid (place_in (n := n) (off := off) (p := p) h0 h1 h2 h3 g3)
    exact az22
  · have H := Lib.hid (place_out (n := n) (off := off) (p := p) h0 h1 h2 (by rw [h3, decide_eq_false (by omega)]; rfl))
    exact az22
def Val.zero : Val := ⟨false, 0, Key.zero⟩
def getF (xs : List Val) (k : Key) (off : Int) : Val × Int :=
  if ((place xs.length k off 1).2 != 0) = true then (Val.zero, (place xs.length k off 1).2) else
    match xs[(k.pos + off).toNat]? with
    | some v => if (v.is && !hasP 8 k.perm) = true then (Val.zero, 0) else (v, 0)
    | none => (Val.zero, 0)
def loadF (xs : List Val) (k : Key) (off : Int) : Val × Int := if (memE xs != 0) = true then (Val.zero, memE xs) else getF xs k off
theorem getF_no {xs : List Val} {k : Key} {off : Int} (h : ((place xs.length k off 1).2 != 0) = true) : getF xs k off = (Val.zero, (place xs.length k off 1).2) := by unfold getF; rw [if_pos h]
theorem getF_hid {xs : List Val} {k : Key} {off : Int} {i : Nat} {v : Val} (h : ((place xs.length k off 1).2 != 0) = false) (hi : k.pos + off = i) (hv : xs[i]? = some v) (h1 : (v.is && !hasP 8 k.perm) = true) : getF xs k off = (Val.zero, 0) := by
  unfold getF; rw [if_neg (by simp [h]), hi, Int.toNat_natCast, hv]; simp only [h1, if_true]
theorem getF_yes {xs : List Val} {k : Key} {off : Int} {i : Nat} {v : Val} (h : ((place xs.length k off 1).2 != 0) = false) (hi : k.pos + off = i) (hv : xs[i]? = some v) (h1 : (v.is && !hasP 8 k.perm) = false) : getF xs k off = (v, 0) := by
  unfold getF; rw [if_neg (by simp [h]), hi, Int.toNat_natCast, hv]; simp [h1]
theorem place_nat {n : Nat} {k : Key} {off p : Int} (h : ((place n k off p).2 != 0) = false) : ∃ i : Nat, k.pos + off = i ∧ i < n ∧ i < 400 ∧ place n k off p = ((i : Int), 0) := by
  have h' : (place n k off p).2 = 0 := (by simpa using h); obtain ⟨_, _, _, h1, h2, h3, h4, _⟩ := place_ok h'; refine ⟨(k.pos + off).toNat, by omega, by omega, by omega, ?_⟩; refine Prod.ext ?_ h'
  rw [h1]; omega
theorem Ret.val {p q : Val × Int} {w w' : World} (h : q = p) (hb : Below w.heap.size w w') :
    Ret (.tuple #[.agg #[.bool p.1.is, .int .i64 p.1.n, .int .i64 p.1.key.perm, .int .i64 p.1.key.base, .int .i64 p.1.key.len, .int .i64 p.1.key.pos, .int .i64 p.1.key.tag], .int .i64 p.2]) w (.returned (.tuple #[.agg #[.bool q.1.is, .int .i64 q.1.n, .int .i64 q.1.key.perm, .int .i64 q.1.key.base, .int .i64 q.1.key.len, .int .i64 q.1.key.pos, .int .i64 q.1.key.tag], .int .i64 q.2])) w' := by subst h; exact ⟨rfl, hb⟩
def valZ : Array Value := #[.bool false, .int .i64 0, .int .i64 0, .int .i64 0, .int .i64 0, .int .i64 0, .int .i64 0]
theorem keyB2 (k : Key) (w : World) : KeptB w [(#[.int .i64 k.perm, .int .i64 k.base, .int .i64 k.len, .int .i64 k.pos, .int .i64 k.tag], 23), (valZ, 25)] ((w.alloc (.cells #[.int .i64 k.perm, .int .i64 k.base, .int .i64 k.len, .int .i64 k.pos, .int .i64 k.tag] 23)).alloc (.cells valZ 25)) :=
  ((KeptB.nil_ (Below.refl _ w)).more (t := 23) (cs := #[.int .i64 k.perm, .int .i64 k.base, .int .i64 k.len, .int .i64 k.pos, .int .i64 k.tag]) rfl).more (by simp [World.size_alloc])
theorem KeptB.stored {w W W' : World} {bs : List (Array Value × TypeId)} {g : Nat} (h : KeptB w bs W) (hg : W.grownBy W' (some g)) (hw : w.heap.size ≤ g) : Below w.heap.size w W' :=
  h.below.grown hg h.below.size fun k hk => by cases hk; exact hw

set_option maxHeartbeats 2000000 in
theorem c_mem_Get (A : Option Addr) (c : Nat) (k : Key) (hk : k.Wf) (off : Int) (xs : List Val) (hn : xs.length ≤ maxLen) (w : World) (hL : Lies encV 7 w w.heap.size A xs) :
    Calls Tryz.prog 106 #[.slice A xs.length c, .agg #[.int .i64 k.perm, .int .i64 k.base, .int .i64 k.len, .int .i64 k.pos, .int .i64 k.tag], .int .i64 off] w (Ret (.tuple #[.agg #[.bool (getF xs k off).1.is, .int .i64 (getF xs k off).1.n, .int .i64 (getF xs k off).1.key.perm, .int .i64 (getF xs k off).1.key.base, .int .i64 (getF xs k off).1.key.len, .int .i64 (getF xs k off).1.key.pos, .int .i64 (getF xs k off).1.key.tag], .int .i64 (getF xs k off).2]) w) := by
  have hat := c_mem_At A xs.length c k hk off 1 hn
  cases he : ((place xs.length k off 1).2 != 0)
  · obtain ⟨i, hi, hin, hi4, hpl⟩ := place_nat he
    rw [hpl] at hat
    have HAT := Lib.hid hat; have HI := Lib.hid hi; have HE := Lib.hid he; clear hat hi hpl he
    obtain ⟨b, o, v, rfl, hb, hv, -⟩ := hL.cellsV hin
    have HV := Lib.hid hv; clear hv
    rcases v with ⟨vi, vn, vk⟩
    cases vi
    · have H := Lib.hid (getF_yes HE.out HI.out HV.out rfl)
      go_enter Tryz.func106, Tryz.ntmps106
      go_wp2_with (first | ((go_at_call 75; refine am168 ?_; intro w1; intro HK hbw HB0 HB1 f1 z1 c1 c0 f0 z0); obtain ⟨b', o', v', hbo, -, hv', q0, q1, q2, q3, q4, q5, q6⟩ := (hL.below hbw).cellsV hin; cases hbo; cases HV.out.symm.trans hv'; clear hv') | (refine wpList_store_box rfl 25 (.tmp 6) _ rfl (HB1.out) rfl rfl (by kernel_rfl) rfl (by simp [Value.oneCell']) ?_; intro w2 hbw2 hgw2 hzw2))
      (refine am164 ?_)
      exact Ret.val (q := (⟨false, vn, vk⟩, 0)) H.out.symm (HK.out.stored hgw2 (by omega))
    · cases h8 : hasP 8 k.perm
      · have H := Lib.hid (getF_hid HE.out HI.out HV.out (by rw [h8]; rfl)); have h8' := hasP_bits h8
        go_enter Tryz.func106, Tryz.ntmps106
        go_wp2_with (first | ((go_at_call 75; refine am168 ?_; intro w1; intro HK hbw HB0 HB1 f1 z1 c1 c0 f0 z0); obtain ⟨b', o', v', hbo, -, hv', q0, q1, q2, q3, q4, q5, q6⟩ := (hL.below hbw).cellsV hin; cases hbo; cases HV.out.symm.trans hv'; clear hv') | (refine wpList_store_box rfl 25 (.tmp 6) _ rfl (HB1.out) rfl rfl (by kernel_rfl) rfl (by simp [Value.oneCell']) ?_; intro w2 hbw2 hgw2 hzw2))
        (refine am164 ?_)
        exact Ret.val (q := (Val.zero, 0)) H.out.symm (HK.out.stored hgw2 (by omega))
      · have H := Lib.hid (getF_yes HE.out HI.out HV.out (by rw [h8]; rfl)); have h8' := hasP_bits h8
        go_enter Tryz.func106, Tryz.ntmps106
        go_wp2_with (first | ((go_at_call 75; refine am168 ?_; intro w1; intro HK hbw HB0 HB1 f1 z1 c1 c0 f0 z0); obtain ⟨b', o', v', hbo, -, hv', q0, q1, q2, q3, q4, q5, q6⟩ := (hL.below hbw).cellsV hin; cases hbo; cases HV.out.symm.trans hv'; clear hv') | (refine wpList_store_box rfl 25 (.tmp 6) _ rfl (HB1.out) rfl rfl (by kernel_rfl) rfl (by simp [Value.oneCell']) ?_; intro w2 hbw2 hgw2 hzw2))
        (refine am164 ?_)
        exact Ret.val (q := (⟨true, vn, vk⟩, 0)) H.out.symm (HK.out.stored hgw2 (by omega))
  · have H := Lib.hid (getF_no he)
    generalize place xs.length k off 1 = r at hat he H
    obtain ⟨ra, rb⟩ := r; have HAT := Lib.hid hat; clear hat
    simp only at he
    go_enter Tryz.func106, Tryz.ntmps106
    go_wp2_with (first | (go_at_call 75; refine am168 ?_; intro w1; intro HK hbw HB0 HB1 f1 z1 c1 c0 f0 z0) | (refine wpList_store_box rfl 25 (.tmp 6) _ rfl (HB1.out) rfl rfl (by kernel_rfl) rfl (by simp [Value.oneCell']) ?_; intro w2 hbw2 hgw2 hzw2))
    (refine am164 ?_)
    exact Ret.val (q := (Val.zero, rb)) H.out.symm (HK.out.stored hgw2 (by omega))
end Go.Proofs.YthmpnnfejghhfaaGreatDoor
namespace Go.Proofs.YthmpnnfejghhfaaGreatDoor
open Go.RowKit
set_option maxRecDepth 100000

set_option maxHeartbeats 2000000 in
theorem r_place (A : Option Addr) (n c : Nat) (k : Key) (hk : k.Wf) (off : Int) (j : Nat) (hj : j < 63) (hn : n ≤ maxLen) (w : World) :
    Calls Tryz.prog 57 #[.slice A n c, .agg #[.int .i64 k.perm, .int .i64 k.base, .int .i64 k.len, .int .i64 k.pos, .int .i64 k.tag], .int .i64 off, .int .i64 (2 ^ j)] w (Ret (.tuple #[.int .i64 (place n k off (2 ^ j)).1, .int .i64 (place n k off (2 ^ j)).2]) w) := by
  have hn' : n ≤ 9223372036854775807 := by unfold maxLen at hn; omega
  clear hn; have hsub := subB_pow k.perm j hj
  generalize (2 : Int) ^ j = p at hsub
  cases h0 : keyOk k
  · have k0 := keyE_no h0; have H := Lib.hid (place_bad (n := n) (off := off) (p := p) h0)
    exact az45
  have k0 := keyE_ok h0; obtain ⟨⟨b1, b2⟩, ⟨l1, l2⟩, ⟨p1, p2⟩, ⟨a1, a2⟩, ⟨t1, t2⟩⟩ := keyOk_iff.1 h0
  cases h1 : (k.tag == 0)
  · have H := Lib.hid (place_seal (n := n) (off := off) (p := p) h0 h1)
    have h1' : 0 < k.tag := by have := beq_eq_false_iff_ne.1 h1; omega
    exact az45
  have h1' : ¬ 0 < k.tag := by have := eq_of_beq h1; omega
  cases h2 : hasP p k.perm
  · have H := Lib.hid (place_perm (n := n) (off := off) (p := p) h0 h1 h2); have h2' : subB p k.perm = false := hsub.trans h2; clear hsub
    go_enter Tryz.func57, Tryz.ntmps57
    go_wp2_with (first | (go_at_call 83; (with_reducible refine (r_KeyCheck k hk _).mono ?_); refine am177 ?_; intro w1; intro HK hbw HB0 c0 f0 z0) | (go_at_call 84; (with_reducible refine (r_Within _ _ _).mono ?_); rintro e w1 ⟨rfl, rfl⟩))
    go_ret2
    exact Ret.int2 H.out bel
  have h2' : subB p k.perm = true := hsub.trans h2; clear hsub
  go_enter Tryz.func57, Tryz.ntmps57
  go_wp2_with (first | (go_at_call 83; (with_reducible refine (r_KeyCheck k hk _).mono ?_); refine am177 ?_; intro w1; intro HK hbw HB0 c0 f0 z0) | (go_at_call 84; (with_reducible refine (r_Within _ _ _).mono ?_); rintro e w1 ⟨rfl, rfl⟩))
  go_loopw [11, 27] (fun _ v wr => ∃ m : Nat, v = .int .i64 m ∧ m ≤ n ∧ (∀ i : Nat, i < m → off = i - k.pos → cov k i = false) ∧ KeptB w [(#[.int .i64 k.perm, .int .i64 k.base, .int .i64 k.len, .int .i64 k.pos, .int .i64 k.tag], 23)] wr) (fun _ v _ => (n - intOf v).toNat)
  case atStart => exact ⟨0, rfl, by omega, fun i hi => by omega, HK.out⟩
  case round =>
    obtain ⟨m, rfl, hm, hall, hK⟩ := hrel
    (skip; have HK := Lib.hid hK; have hbw := hK.below; have HB0 := Lib.hid (hK.box 0 _ rfl); have c0 := fun o => HB0.out.cell o; have f0 := fun o => HB0.out.frozen o; have z0 := HB0.out.lt; (try dsimp only at c0); (try simp only [Nat.add_zero] at c0 f0 z0); clear hK); have HA := Lib.hid hall; clear hall
    rcases Nat.lt_or_ge m n with hlt | hge
    · cases ho : (off == (m : Int) - k.pos)
      · have ho' := beq_eq_false_iff_ne.1 ho; have HO := Lib.hid ho'; clear ho'
        go_wp2
        go_roundw
        case rel =>
          refine ⟨m + 1, by go_num, by omega, fun i hi h => ?_, HK.out⟩
          rcases Nat.lt_or_ge i m with hl | hl
          · exact HA.out i hl h
          · obtain rfl : i = m := by omega
            exact absurd h HO.out
        case measure => simp [intOf]; omega
      · have ho' := Lib.hid (eq_of_beq ho)
        cases hc : cov k m
        · go_wp2_with (go_at_call 85; (with_reducible refine (r_Covers k m hk (by unfold i64; omega) _).mono ?_); refine am156 ?_; intro w2; intro HK hbw HB0 c0 f0 z0)
          go_roundw
          case rel =>
            refine ⟨m + 1, by go_num, by omega, fun i hi h => ?_, HK.out⟩
            rcases Nat.lt_or_ge i m with hl | hl
            · exact HA.out i hl h
            · obtain rfl : i = m := by omega
              exact hc
          case measure => simp [intOf]; omega
        · have H := Lib.hid (show place n k off p = ((m : Int), 0) by
            have e : k.pos + off = m := by have := ho'.out; omega
            have := place_in (n := n) (off := off) (p := p) h0 h1 h2 (by rw [e]; exact hc) (by omega)
            rw [this, e])
          go_wp2_with (go_at_call 85; (with_reducible refine (r_Covers k m hk (by unfold i64; omega) _).mono ?_); refine am156 ?_; intro w2; intro HK hbw HB0 c0 f0 z0)
          go_ret2
          exact Ret.int2 H.out bel
    · obtain rfl : m = n := by omega
      have H := Lib.hid (place_out (n := m) (off := off) (p := p) h0 h1 h2 (by
        cases h3 : cov k (k.pos + off)
        · rfl
        · have h4 := cov_off h0 h3
          rw [Bool.true_and, decide_eq_false_iff_not]
          intro h5; have h6 := HA.out (k.pos + off).toNat (by omega) (by omega)
          rw [show (((k.pos + off).toNat : Nat) : Int) = k.pos + off by omega, h3] at h6
          cases h6))
      go_wp2
      go_ret2
      exact Ret.int2 H.out bel
set_option maxHeartbeats 2000000 in
theorem r_Load (A : Option Addr) (c : Nat) (k : Key) (hk : k.Wf) (off : Int) (xs : List Val) (hn : xs.length ≤ maxLen) (w : World) (hwf : ∀ (i : Nat) v, xs[i]? = some v → Val.Wf v) (hL : Lies encV 7 w w.heap.size A xs) :
    Calls Tryz.prog 61 #[.slice A xs.length c, .agg #[.int .i64 k.perm, .int .i64 k.base, .int .i64 k.len, .int .i64 k.pos, .int .i64 k.tag], .int .i64 off] w (Ret (.tuple #[.agg #[.bool (loadF xs k off).1.is, .int .i64 (loadF xs k off).1.n, .int .i64 (loadF xs k off).1.key.perm, .int .i64 (loadF xs k off).1.key.base, .int .i64 (loadF xs k off).1.key.len, .int .i64 (loadF xs k off).1.key.pos, .int .i64 (loadF xs k off).1.key.tag], .int .i64 (loadF xs k off).2]) w) := by
  have HW := Lib.hid hwf; clear hwf; have hs8 := subB_pow k.perm 3 (by omega); simp only [show (2 : Int) ^ 3 = 8 from rfl] at hs8; have HS8 := Lib.hid hs8; clear hs8
  cases he : (memE xs != 0)
  · have hat := r_place A xs.length c k hk off 0 (by omega) hn; simp only [show (2 : Int) ^ 0 = 1 from rfl] at hat; have HL := Lib.hid (show loadF xs k off = getF xs k off by unfold loadF; rw [if_neg (by simp [he])])
    cases hp : ((place xs.length k off 1).2 != 0)
    · obtain ⟨i, hi, hin, hi4, hpl⟩ := place_nat hp
      rw [hpl] at hat
      have HAT := Lib.hid hat; have HI := Lib.hid hi; have HE := Lib.hid hp; clear hat hi hpl hp
      obtain ⟨b, o, v, rfl, hb, hv, -⟩ := hL.cellsV hin
      have HV := Lib.hid hv; clear hv
      rcases v with ⟨vi, vn, vk⟩
      cases vi
      · have H := Lib.hid (HL.out.trans (getF_yes HE.out HI.out HV.out rfl))
        go_enter Tryz.func61, Tryz.ntmps61
        go_wp2_with (first | (go_at_call 54; refine am120 ?_; intro w1; intro HK hbw HB0 HB1 f1 z1 c1 c0 f0 z0) | ((go_at_call 57; (with_reducible refine (HAT.out _).mono ?_); refine am113 ?_; intro w2; intro HK hbw HB0 HB1 f1 z1 c1 c0 f0 z0); obtain ⟨b', o', v', hbo, -, hv', q0, q1, q2, q3, q4, q5, q6⟩ := (hL.below hbw).cellsV hin; cases hbo; cases HV.out.symm.trans hv'; clear hv') | (refine wpList_store_box rfl 25 (.tmp 6) _ rfl (HB1.out) rfl rfl (by kernel_rfl) rfl (by simp [Value.oneCell']) ?_; intro w3 hbw3 hgw3 hzw3))
        (refine am154 ?_)
        exact Ret.val (q := (⟨false, vn, vk⟩, 0)) H.out.symm (HK.out.stored hgw3 (by omega))
      · cases h8 : hasP 8 k.perm
        · have H := Lib.hid (HL.out.trans (getF_hid HE.out HI.out HV.out (by rw [h8]; rfl))); have h8' : subB 8 k.perm = false := HS8.out.trans h8
          go_enter Tryz.func61, Tryz.ntmps61
          go_wp2_with (first | (go_at_call 54; refine am120 ?_; intro w1; intro HK hbw HB0 HB1 f1 z1 c1 c0 f0 z0) | ((go_at_call 57; (with_reducible refine (HAT.out _).mono ?_); refine am113 ?_; intro w2; intro HK hbw HB0 HB1 f1 z1 c1 c0 f0 z0); obtain ⟨b', o', v', hbo, -, hv', q0, q1, q2, q3, q4, q5, q6⟩ := (hL.below hbw).cellsV hin; cases hbo; cases HV.out.symm.trans hv'; clear hv') | (go_at_call 84; (with_reducible refine (r_Within _ _ _).mono ?_); rintro e w1 ⟨rfl, rfl⟩) | (refine wpList_store_box rfl 25 (.tmp 6) _ rfl (HB1.out) rfl rfl (by kernel_rfl) rfl (by simp [Value.oneCell']) ?_; intro w3 hbw3 hgw3 hzw3))
          (refine am154 ?_)
          exact Ret.val (q := (Val.zero, 0)) H.out.symm (HK.out.stored hgw3 (by omega))
        · have H := Lib.hid (HL.out.trans (getF_yes HE.out HI.out HV.out (by rw [h8]; rfl))); have h8' : subB 8 k.perm = true := HS8.out.trans h8
          go_enter Tryz.func61, Tryz.ntmps61
          go_wp2_with (first | (go_at_call 54; refine am120 ?_; intro w1; intro HK hbw HB0 HB1 f1 z1 c1 c0 f0 z0) | ((go_at_call 57; (with_reducible refine (HAT.out _).mono ?_); refine am113 ?_; intro w2; intro HK hbw HB0 HB1 f1 z1 c1 c0 f0 z0); obtain ⟨b', o', v', hbo, -, hv', q0, q1, q2, q3, q4, q5, q6⟩ := (hL.below hbw).cellsV hin; cases hbo; cases HV.out.symm.trans hv'; clear hv') | (go_at_call 84; (with_reducible refine (r_Within _ _ _).mono ?_); rintro e w1 ⟨rfl, rfl⟩) | (refine wpList_store_box rfl 25 (.tmp 6) _ rfl (HB1.out) rfl rfl (by kernel_rfl) rfl (by simp [Value.oneCell']) ?_; intro w3 hbw3 hgw3 hzw3))
          (refine am154 ?_)
          exact Ret.val (q := (⟨true, vn, vk⟩, 0)) H.out.symm (HK.out.stored hgw3 (by omega))
    · have H := Lib.hid (HL.out.trans (getF_no hp))
      generalize place xs.length k off 1 = r at hat hp H
      obtain ⟨ra, rb⟩ := r; have HAT := Lib.hid hat; clear hat
      simp only at hp
      go_enter Tryz.func61, Tryz.ntmps61
      go_wp2_with (first | (go_at_call 54; refine am120 ?_; intro w1; intro HK hbw HB0 HB1 f1 z1 c1 c0 f0 z0) | (go_at_call 57; (with_reducible refine (HAT.out _).mono ?_); refine am113 ?_; intro w2; intro HK hbw HB0 HB1 f1 z1 c1 c0 f0 z0) | (refine wpList_store_box rfl 25 (.tmp 6) _ rfl (HB1.out) rfl rfl (by kernel_rfl) rfl (by simp [Value.oneCell']) ?_; intro w3 hbw3 hgw3 hzw3))
      (refine am154 ?_)
      exact Ret.val (q := (Val.zero, rb)) H.out.symm (HK.out.stored hgw3 (by omega))
  · have H := Lib.hid (show loadF xs k off = (Val.zero, memE xs) by unfold loadF; rw [if_pos he])
    go_enter Tryz.func61, Tryz.ntmps61
    go_wp2_with (first | (go_at_call 54; refine am120 ?_; intro w1; intro HK hbw HB0 HB1 f1 z1 c1 c0 f0 z0) | (refine wpList_store_box rfl 25 (.tmp 6) _ rfl (HB1.out) rfl rfl (by kernel_rfl) rfl (by simp [Value.oneCell']) ?_; intro w3 hbw3 hgw3 hzw3))
    (refine am154 ?_)
    exact Ret.val (q := (Val.zero, memE xs)) H.out.symm (HK.out.stored hgw3 (by omega))
end Go.Proofs.YthmpnnfejghhfaaGreatDoor
namespace Go.Proofs.YthmpnnfejghhfaaGreatDoor
open Go.RowKit
set_option maxRecDepth 100000

def putF (xs : List Val) (k : Key) (off : Int) (v : Val) : List Val × Int :=
  if ((place xs.length k off 2).2 != 0) = true then (xs, (place xs.length k off 2).2) else
    if (v.is && !hasP 16 k.perm) = true then (xs, 12) else (xs.set (k.pos + off).toNat v, 0)
def storeF (xs : List Val) (k : Key) (off : Int) (v : Val) : List Val × Int :=
  if (memE xs != 0) = true then ([], memE xs) else if (valE v != 0) = true then ([], valE v) else if ((putF xs k off v).2 != 0) = true then ([], (putF xs k off v).2) else ((putF xs k off v).1, 0)
section
variable {xs : List Val} {k : Key} {off : Int} {v : Val}
theorem putF_no (h : ((place xs.length k off 2).2 != 0) = true) : putF xs k off v = (xs, (place xs.length k off 2).2) := by unfold putF; rw [if_pos h]
theorem putF_hid (h : ((place xs.length k off 2).2 != 0) = false) (h1 : (v.is && !hasP 16 k.perm) = true) : putF xs k off v = (xs, 12) := by unfold putF; rw [if_neg (by simp [h]), if_pos h1]
theorem putF_yes {i : Nat} (h : ((place xs.length k off 2).2 != 0) = false) (hi : k.pos + off = i) (h1 : (v.is && !hasP 16 k.perm) = false) : putF xs k off v = (xs.set i v, 0) := by unfold putF; rw [if_neg (by simp [h]), if_neg (by simp [h1]), hi, Int.toNat_natCast]
theorem putF_length : (putF xs k off v).1.length = xs.length := by unfold putF; split; · rfl
                                                                   split; · rfl
                                                                   simp
theorem storeF_mem (h : (memE xs != 0) = true) : storeF xs k off v = ([], memE xs) := by unfold storeF; rw [if_pos h]
theorem storeF_val (h : (memE xs != 0) = false) (h1 : (valE v != 0) = true) : storeF xs k off v = ([], valE v) := by unfold storeF; rw [if_neg (by simp [h]), if_pos h1]
theorem storeF_no (h : (memE xs != 0) = false) (h1 : (valE v != 0) = false) (h2 : ((putF xs k off v).2 != 0) = true) : storeF xs k off v = ([], (putF xs k off v).2) := by unfold storeF; rw [if_neg (by simp [h]), if_neg (by simp [h1]), if_pos h2]
theorem storeF_yes (h : (memE xs != 0) = false) (h1 : (valE v != 0) = false) (h2 : ((putF xs k off v).2 != 0) = false) : storeF xs k off v = ((putF xs k off v).1, 0) := by unfold storeF; rw [if_neg (by simp [h]), if_neg (by simp [h1]), if_neg (by simp [h2])]
theorem memE_len (h : (memE xs != 0) = false) : xs.length ≤ 400 := by
  unfold memE at h
  split at h
  · cases h
  · omega
end
theorem keyVal (k : Key) (v : Val) (w : World) : KeptB w [(#[.int .i64 k.perm, .int .i64 k.base, .int .i64 k.len, .int .i64 k.pos, .int .i64 k.tag], 23), (#[.bool v.is, .int .i64 v.n, .int .i64 v.key.perm, .int .i64 v.key.base, .int .i64 v.key.len, .int .i64 v.key.pos, .int .i64 v.key.tag], 25)] ((w.alloc (.cells #[.int .i64 k.perm, .int .i64 k.base, .int .i64 k.len, .int .i64 k.pos, .int .i64 k.tag] 23)).alloc (.cells #[.bool v.is, .int .i64 v.n, .int .i64 v.key.perm, .int .i64 v.key.base, .int .i64 v.key.len, .int .i64 v.key.pos, .int .i64 v.key.tag] 25)) :=
  ((KeptB.nil_ (Below.refl _ w)).more (t := 23) (cs := #[.int .i64 k.perm, .int .i64 k.base, .int .i64 k.len, .int .i64 k.pos, .int .i64 k.tag]) rfl).more (by simp [World.size_alloc])
def RetPut (e : TypeId) (w : World) (base : Nat) (v : Value) (xs : List Val) (r : Int) : Ending → World → Prop := fun ed w' => ed = .returned (.int .i64 r) ∧ Own encV e 7 w' base v xs ∧ w.grownBy w' v.ownBlock ∧ (¬ r = 0 → Below w.heap.size w w')
theorem RetPut.mk {e : TypeId} {w w' : World} {base : Nat} {v : Value} {xs : List Val} {p : List Val × Int} {r : Int} (h : p = (xs, r)) (hO : Own encV e 7 w' base v xs) (hg : w.grownBy w' v.ownBlock) (hz : ¬ r = 0 → Below w.heap.size w w') : RetPut e w base v p.1 p.2 (.returned (.int .i64 r)) w' := by
  subst h; exact ⟨rfl, hO, hg, hz⟩
theorem grown_of_below {w w' : World} (h : Below w.heap.size w w') (row : Option Nat) : w.grownBy w' row := ⟨h.os, h.tape, h.output, h.size, fun k hk _ => h.block k hk⟩

set_option maxHeartbeats 2000000 in
theorem c_mem_Put (A : Option Addr) (c : Nat) (k : Key) (hk : k.Wf) (off : Int) (v : Val) (xs : List Val) (hn : xs.length ≤ maxLen) (base : Nat) (w : World) (hO : Own encV 25 7 w base (.slice A xs.length c) xs) :
    Calls Tryz.prog 107 #[.slice A xs.length c, .agg #[.int .i64 k.perm, .int .i64 k.base, .int .i64 k.len, .int .i64 k.pos, .int .i64 k.tag], .int .i64 off, .agg #[.bool v.is, .int .i64 v.n, .int .i64 v.key.perm, .int .i64 v.key.base, .int .i64 v.key.len, .int .i64 v.key.pos, .int .i64 v.key.tag]] w (RetPut 25 w base (.slice A xs.length c) (putF xs k off v).1 (putF xs k off v).2) := by
  have hat := c_mem_At A xs.length c k hk off 2 hn; have HO := Lib.hid hO; clear hO
  cases he : ((place xs.length k off 2).2 != 0)
  · obtain ⟨i, hi, hin, hi4, hpl⟩ := place_nat he
    rw [hpl] at hat
    have HAT := Lib.hid hat; have HI := Lib.hid hi; have HE := Lib.hid he; clear hat hi hpl he
    obtain ⟨g, rfl, hg1, hg2, hgf, -⟩ := HO.out.at_ (List.getElem?_eq_getElem hin)
    have hie : (i : Int) < xs.length := (by omega)
    rcases v with ⟨vi, vn, vk⟩
    cases vi
    · have H := Lib.hid (putF_yes (v := ⟨false, vn, vk⟩) HE.out HI.out rfl)
      go_enter Tryz.func107, Tryz.ntmps107
      go_wp2_with (first | (go_at_call 75; (with_reducible refine (HAT.out _).mono ?_); refine am110 ?_; intro w1 hb hz; have hK := KeptB.on (keyVal k ⟨false, vn, vk⟩ w) hb; refine am94 ?_; clear hb hz hK; intro HK hbw HB0 HB1 f1 z1 c1 c0 f0 z0) | (refine wpList_store_own rfl _ _ rfl el_V ⟨false, vn, vk⟩ (HO.out.below hbw (Nat.le_refl _)) hin rfl rfl rfl ?_; intro w2 hO2 hgw2 hzw2))
      exact az80
    · cases h8 : hasP 16 k.perm
      · have H := Lib.hid (putF_hid (v := ⟨true, vn, vk⟩) HE.out (by rw [h8]; rfl)); have h8' := hasP_bits h8
        go_enter Tryz.func107, Tryz.ntmps107
        go_wp2_with (first | (go_at_call 75; (with_reducible refine (HAT.out _).mono ?_); refine am110 ?_; refine am192 ?_; intro w1; intro HK hbw HB0 HB1 f1 z1 c1 c0 f0 z0) | (refine wpList_store_own rfl _ _ rfl el_V ⟨true, vn, vk⟩ (HO.out.below hbw (Nat.le_refl _)) hin rfl rfl rfl ?_; intro w2 hO2 hgw2 hzw2))
        go_returns
        exact RetPut.mk H.out (HO.out.below hbw (Nat.le_refl _)) (grown_of_below hbw _) (fun _ => hbw)
      · have H := Lib.hid (putF_yes (v := ⟨true, vn, vk⟩) HE.out HI.out (by rw [h8]; rfl)); have h8' := hasP_bits h8
        go_enter Tryz.func107, Tryz.ntmps107
        go_wp2_with (first | (go_at_call 75; (with_reducible refine (HAT.out _).mono ?_); refine am110 ?_; refine am192 ?_; intro w1; intro HK hbw HB0 HB1 f1 z1 c1 c0 f0 z0) | (refine wpList_store_own rfl _ _ rfl el_V ⟨true, vn, vk⟩ (HO.out.below hbw (Nat.le_refl _)) hin rfl rfl rfl ?_; intro w2 hO2 hgw2 hzw2))
        exact az80
  · have H := Lib.hid (putF_no (v := v) he)
    generalize place xs.length k off 2 = r at hat he H
    obtain ⟨ra, rb⟩ := r; have HAT := Lib.hid hat; clear hat
    simp only at he
    go_enter Tryz.func107, Tryz.ntmps107
    go_wp2_with (go_at_call 75; (with_reducible refine (HAT.out _).mono ?_); refine am110 ?_; intro w1 hb hz; have hK := KeptB.on (keyVal k v w) hb; refine am94 ?_; clear hb hz hK; intro HK hbw HB0 HB1 f1 z1 c1 c0 f0 z0)
    go_returns
    exact RetPut.mk H.out (HO.out.below hbw (Nat.le_refl _)) (grown_of_below hbw _) (fun _ => hbw)
end Go.Proofs.YthmpnnfejghhfaaGreatDoor
