/- The contracts of mem.At, Get and Load and of their references: each returns a plain function of its values. Conditions: the numbers are numbers of 64 bits. -/
import Derived.Test.YtnbppchpgagliaaMem
import Derived.Test.YtnbppchpgagliaaBox
import Derived.Test.YtnbppchpgagliaaOwn
import Derived.Test.YtnbppchpgagliaaKeysRef
namespace Go.Proofs.Ytnbppchpgagliaa
open Go.RowKit
set_option linter.unusedVariables false
set_option linter.unusedSimpArgs false
set_option maxRecDepth 100000

/-- at which of n cells, by a key -/
def place (n : Nat) (k : Key) (off p : Int) : Int × Int :=
  if keyOk k = true then (if (k.tag == 0) = true then (if hasP p k.perm = true then (if (cov k (k.pos + off) && decide (k.pos + off < n)) = true then (k.pos + off, 0) else (0, 13)) else (0, 12)) else (0, 11)) else (0, 1)
section
variable {n : Nat} {k : Key} {off p : Int}
theorem place_bad (h : keyOk k = false) : place n k off p = (0, 1) := by simp [place, h]
theorem place_seal (h : keyOk k = true) (h1 : (k.tag == 0) = false) : place n k off p = (0, 11) := by unfold place; rw [if_pos h, if_neg (by simp [h1])]
theorem place_perm (h : keyOk k = true) (h1 : (k.tag == 0) = true) (h2 : hasP p k.perm = false) : place n k off p = (0, 12) := by unfold place; rw [if_pos h, if_pos h1, if_neg (by simp [h2])]
theorem place_out (h : keyOk k = true) (h1 : (k.tag == 0) = true) (h2 : hasP p k.perm = true) (h3 : (cov k (k.pos + off) && decide (k.pos + off < n)) = false) : place n k off p = (0, 13) := by unfold place; rw [if_pos h, if_pos h1, if_pos h2, if_neg (by simp [h3])]
theorem place_in (h : keyOk k = true) (h1 : (k.tag == 0) = true) (h2 : hasP p k.perm = true) (h3 : cov k (k.pos + off) = true) (h4 : k.pos + off < n) : place n k off p = (k.pos + off, 0) := by unfold place; rw [if_pos h, if_pos h1, if_pos h2, if_pos (by rw [h3, decide_eq_true h4]; rfl)]
theorem cov_off (h : keyOk k = true) (h3 : cov k (k.pos + off) = true) : -400 ≤ off ∧ off ≤ 400 ∧ 0 ≤ k.pos + off ∧ k.pos + off < 400 := by
  have := keyOk_iff.1 h
  have := cov_iff.1 h3
  omega
/-- what it is, where it is one -/
theorem place_ok (h : (place n k off p).2 = 0) : keyOk k = true ∧ k.tag = 0 ∧ hasP p k.perm = true ∧ (place n k off p).1 = k.pos + off ∧ 0 ≤ k.pos + off ∧ k.pos + off < n ∧ k.pos + off < 400 ∧ cov k (k.pos + off) = true := by
  cases h0 : keyOk k
  · rw [place_bad h0] at h; cases h
  cases h1 : (k.tag == 0)
  · rw [place_seal h0 h1] at h; cases h
  cases h2 : hasP p k.perm
  · rw [place_perm h0 h1 h2] at h; cases h
  cases h3 : (cov k (k.pos + off) && decide (k.pos + off < n))
  · rw [place_out h0 h1 h2 h3] at h; cases h
  · rw [Bool.and_eq_true, decide_eq_true_eq] at h3
    have := cov_off h0 h3.1
    rw [place_in h0 h1 h2 h3.1 h3.2]
    exact ⟨rfl, by simpa using h1, rfl, rfl, this.2.2.1, h3.2, this.2.2.2, h3.1⟩
end
theorem hasP_bits {p x : Int} {b : Bool} (h : hasP p x = b) : (bits .and .i64 x p == 0) = !b := by
  unfold hasP at h
  rw [← h]; simp
theorem Ret.int2 {a b : Int} {w w' : World} {p : Int × Int} (h : p = (a, b)) (hb : Below w.heap.size w w') : Ret (.tuple #[.int .i64 p.1, .int .i64 p.2]) w (.returned (.tuple #[.int .i64 a, .int .i64 b])) w' := by
  subst h; exact ⟨rfl, hb⟩

theorem keyB (k : Key) (w : World) : KeptB w [(#[.int .i64 k.perm, .int .i64 k.base, .int .i64 k.len, .int .i64 k.pos, .int .i64 k.tag], 28)] (w.alloc (.cells #[.int .i64 k.perm, .int .i64 k.base, .int .i64 k.len, .int .i64 k.pos, .int .i64 k.tag] 28)) := (KeptB.nil_ (Below.refl _ w)).more (t := 28) (cs := #[.int .i64 k.perm, .int .i64 k.base, .int .i64 k.len, .int .i64 k.pos, .int .i64 k.tag]) rfl
set_option maxHeartbeats 2000000 in
theorem c_mem_At (A : Option Addr) (n c : Nat) (k : Key) (hk : k.Wf) (off p : Int) (hn : n ≤ maxLen) (w : World) :
    Calls Try.prog 90 #[.slice A n c, .agg #[.int .i64 k.perm, .int .i64 k.base, .int .i64 k.len, .int .i64 k.pos, .int .i64 k.tag], .int .i64 off, .int .i64 p] w (Ret (.tuple #[.int .i64 (place n k off p).1, .int .i64 (place n k off p).2]) w) := by
  have hn' : n ≤ 9223372036854775807 := by unfold maxLen at hn; omega
  clear hn
  cases h0 : keyOk k
  · have k0 := keyE_no h0
    have H := Lib.hid (place_bad (n := n) (off := off) (p := p) h0)
    go_enter Try.func90, Try.ntmps90
    go_wp2_with (go_at_call 52; (with_reducible refine (c_keys_Check k _).mono ?_); intro e w1 hr; obtain ⟨rfl, hb, hc, hf, hz⟩ := hr.use; clear hr hc hf; have hK := KeptB.on (keyB k w) hb; clear hb hz; have HK := Lib.hid hK; have hbw := hK.below; have HB0 := Lib.hid (hK.box 0 _ rfl); have c0 := fun o => HB0.out.cell o; have f0 := fun o => HB0.out.frozen o; have z0 := HB0.out.lt; (try dsimp only at c0); (try simp only [Nat.add_zero] at c0 f0 z0); clear hK)
    go_ret2
    exact Ret.int2 H.out (by (repeat' (first | (with_reducible exact Below.refl _ _) | (with_reducible assumption) | (with_reducible refine Below.alloc ?_ ?_ _) | (with_reducible refine Below.drew ?_) | (with_reducible refine Below.setCell ?_ ?_ _) | (refine Below.trans ?_ (Below.mono (by with_reducible assumption) ?_)) | go_size)))
  have k0 := keyE_ok h0
  obtain ⟨⟨b1, b2⟩, ⟨l1, l2⟩, ⟨p1, p2⟩, ⟨a1, a2⟩, ⟨t1, t2⟩⟩ := keyOk_iff.1 h0
  cases h1 : (k.tag == 0)
  · have H := Lib.hid (place_seal (n := n) (off := off) (p := p) h0 h1)
    have h1' : (k.tag != 0) = true := by rw [bne, h1]; rfl
    go_enter Try.func90, Try.ntmps90
    go_wp2_with (go_at_call 52; (with_reducible refine (c_keys_Check k _).mono ?_); intro e w1 hr; obtain ⟨rfl, hb, hc, hf, hz⟩ := hr.use; clear hr hc hf; have hK := KeptB.on (keyB k w) hb; clear hb hz; have HK := Lib.hid hK; have hbw := hK.below; have HB0 := Lib.hid (hK.box 0 _ rfl); have c0 := fun o => HB0.out.cell o; have f0 := fun o => HB0.out.frozen o; have z0 := HB0.out.lt; (try dsimp only at c0); (try simp only [Nat.add_zero] at c0 f0 z0); clear hK)
    go_ret2
    exact Ret.int2 H.out (by (repeat' (first | (with_reducible exact Below.refl _ _) | (with_reducible assumption) | (with_reducible refine Below.alloc ?_ ?_ _) | (with_reducible refine Below.drew ?_) | (with_reducible refine Below.setCell ?_ ?_ _) | (refine Below.trans ?_ (Below.mono (by with_reducible assumption) ?_)) | go_size)))
  have h1' : (k.tag != 0) = false := by rw [bne, h1]; rfl
  cases h2 : hasP p k.perm
  · have H := Lib.hid (place_perm (n := n) (off := off) (p := p) h0 h1 h2)
    have h2' := hasP_bits h2
    go_enter Try.func90, Try.ntmps90
    go_wp2_with (go_at_call 52; (with_reducible refine (c_keys_Check k _).mono ?_); intro e w1 hr; obtain ⟨rfl, hb, hc, hf, hz⟩ := hr.use; clear hr hc hf; have hK := KeptB.on (keyB k w) hb; clear hb hz; have HK := Lib.hid hK; have hbw := hK.below; have HB0 := Lib.hid (hK.box 0 _ rfl); have c0 := fun o => HB0.out.cell o; have f0 := fun o => HB0.out.frozen o; have z0 := HB0.out.lt; (try dsimp only at c0); (try simp only [Nat.add_zero] at c0 f0 z0); clear hK)
    go_ret2
    exact Ret.int2 H.out (by (repeat' (first | (with_reducible exact Below.refl _ _) | (with_reducible assumption) | (with_reducible refine Below.alloc ?_ ?_ _) | (with_reducible refine Below.drew ?_) | (with_reducible refine Below.setCell ?_ ?_ _) | (refine Below.trans ?_ (Below.mono (by with_reducible assumption) ?_)) | go_size)))
  have h2' := hasP_bits h2
  rcases Int.lt_or_le off (-400) with g1 | g1
  · have H := Lib.hid (place_out (n := n) (off := off) (p := p) h0 h1 h2 (by
      cases h3 : cov k (k.pos + off)
      · rfl
      · have := cov_off h0 h3; omega))
    go_enter Try.func90, Try.ntmps90
    go_wp2_with (go_at_call 52; (with_reducible refine (c_keys_Check k _).mono ?_); intro e w1 hr; obtain ⟨rfl, hb, hc, hf, hz⟩ := hr.use; clear hr hc hf; have hK := KeptB.on (keyB k w) hb; clear hb hz; have HK := Lib.hid hK; have hbw := hK.below; have HB0 := Lib.hid (hK.box 0 _ rfl); have c0 := fun o => HB0.out.cell o; have f0 := fun o => HB0.out.frozen o; have z0 := HB0.out.lt; (try dsimp only at c0); (try simp only [Nat.add_zero] at c0 f0 z0); clear hK)
    go_ret2
    exact Ret.int2 H.out (by (repeat' (first | (with_reducible exact Below.refl _ _) | (with_reducible assumption) | (with_reducible refine Below.alloc ?_ ?_ _) | (with_reducible refine Below.drew ?_) | (with_reducible refine Below.setCell ?_ ?_ _) | (refine Below.trans ?_ (Below.mono (by with_reducible assumption) ?_)) | go_size)))
  rcases Int.lt_or_le 400 off with g2 | g2
  · have H := Lib.hid (place_out (n := n) (off := off) (p := p) h0 h1 h2 (by
      cases h3 : cov k (k.pos + off)
      · rfl
      · have := cov_off h0 h3; omega))
    go_enter Try.func90, Try.ntmps90
    go_wp2_with (go_at_call 52; (with_reducible refine (c_keys_Check k _).mono ?_); intro e w1 hr; obtain ⟨rfl, hb, hc, hf, hz⟩ := hr.use; clear hr hc hf; have hK := KeptB.on (keyB k w) hb; clear hb hz; have HK := Lib.hid hK; have hbw := hK.below; have HB0 := Lib.hid (hK.box 0 _ rfl); have c0 := fun o => HB0.out.cell o; have f0 := fun o => HB0.out.frozen o; have z0 := HB0.out.lt; (try dsimp only at c0); (try simp only [Nat.add_zero] at c0 f0 z0); clear hK)
    go_ret2
    exact Ret.int2 H.out (by (repeat' (first | (with_reducible exact Below.refl _ _) | (with_reducible assumption) | (with_reducible refine Below.alloc ?_ ?_ _) | (with_reducible refine Below.drew ?_) | (with_reducible refine Below.setCell ?_ ?_ _) | (refine Below.trans ?_ (Below.mono (by with_reducible assumption) ?_)) | go_size)))
  cases h3 : cov k (k.pos + off)
  · have H := Lib.hid (place_out (n := n) (off := off) (p := p) h0 h1 h2 (by rw [h3]; rfl))
    go_enter Try.func90, Try.ntmps90
    go_wp2_with (first | (go_at_call 52; (with_reducible refine (c_keys_Check k _).mono ?_); intro e w1 hr; obtain ⟨rfl, hb, hc, hf, hz⟩ := hr.use; clear hr hc hf; have hK := KeptB.on (keyB k w) hb; clear hb hz; have HK := Lib.hid hK; have hbw := hK.below; have HB0 := Lib.hid (hK.box 0 _ rfl); have c0 := fun o => HB0.out.cell o; have f0 := fun o => HB0.out.frozen o; have z0 := HB0.out.lt; (try dsimp only at c0); (try simp only [Nat.add_zero] at c0 f0 z0); clear hK) | (go_at_call 97; (with_reducible refine (c_keys_Covers k (k.pos + off) hk (by unfold i64; omega) _).mono ?_); intro e w2 hr; obtain ⟨rfl, hb, hc, hf, hz⟩ := hr.use; clear hr hc hf; have hK := KeptB.on (HK.out) hb; clear hb hz; have HK := Lib.hid hK; have hbw := hK.below; have HB0 := Lib.hid (hK.box 0 _ rfl); have c0 := fun o => HB0.out.cell o; have f0 := fun o => HB0.out.frozen o; have z0 := HB0.out.lt; (try dsimp only at c0); (try simp only [Nat.add_zero] at c0 f0 z0); clear hK))
    go_ret2
    exact Ret.int2 H.out (by (repeat' (first | (with_reducible exact Below.refl _ _) | (with_reducible assumption) | (with_reducible refine Below.alloc ?_ ?_ _) | (with_reducible refine Below.drew ?_) | (with_reducible refine Below.setCell ?_ ?_ _) | (refine Below.trans ?_ (Below.mono (by with_reducible assumption) ?_)) | go_size)))
  rcases Int.lt_or_le (k.pos + off) n with g3 | g3
  · have H := Lib.hid (place_in (n := n) (off := off) (p := p) h0 h1 h2 h3 g3)
    go_enter Try.func90, Try.ntmps90
    go_wp2_with (first | (go_at_call 52; (with_reducible refine (c_keys_Check k _).mono ?_); intro e w1 hr; obtain ⟨rfl, hb, hc, hf, hz⟩ := hr.use; clear hr hc hf; have hK := KeptB.on (keyB k w) hb; clear hb hz; have HK := Lib.hid hK; have hbw := hK.below; have HB0 := Lib.hid (hK.box 0 _ rfl); have c0 := fun o => HB0.out.cell o; have f0 := fun o => HB0.out.frozen o; have z0 := HB0.out.lt; (try dsimp only at c0); (try simp only [Nat.add_zero] at c0 f0 z0); clear hK) | (go_at_call 97; (with_reducible refine (c_keys_Covers k (k.pos + off) hk (by unfold i64; omega) _).mono ?_); intro e w2 hr; obtain ⟨rfl, hb, hc, hf, hz⟩ := hr.use; clear hr hc hf; have hK := KeptB.on (HK.out) hb; clear hb hz; have HK := Lib.hid hK; have hbw := hK.below; have HB0 := Lib.hid (hK.box 0 _ rfl); have c0 := fun o => HB0.out.cell o; have f0 := fun o => HB0.out.frozen o; have z0 := HB0.out.lt; (try dsimp only at c0); (try simp only [Nat.add_zero] at c0 f0 z0); clear hK))
    go_ret2
    exact Ret.int2 H.out (by (repeat' (first | (with_reducible exact Below.refl _ _) | (with_reducible assumption) | (with_reducible refine Below.alloc ?_ ?_ _) | (with_reducible refine Below.drew ?_) | (with_reducible refine Below.setCell ?_ ?_ _) | (refine Below.trans ?_ (Below.mono (by with_reducible assumption) ?_)) | go_size)))
  · have H := Lib.hid (place_out (n := n) (off := off) (p := p) h0 h1 h2 (by rw [h3, decide_eq_false (by omega)]; rfl))
    go_enter Try.func90, Try.ntmps90
    go_wp2_with (first | (go_at_call 52; (with_reducible refine (c_keys_Check k _).mono ?_); intro e w1 hr; obtain ⟨rfl, hb, hc, hf, hz⟩ := hr.use; clear hr hc hf; have hK := KeptB.on (keyB k w) hb; clear hb hz; have HK := Lib.hid hK; have hbw := hK.below; have HB0 := Lib.hid (hK.box 0 _ rfl); have c0 := fun o => HB0.out.cell o; have f0 := fun o => HB0.out.frozen o; have z0 := HB0.out.lt; (try dsimp only at c0); (try simp only [Nat.add_zero] at c0 f0 z0); clear hK) | (go_at_call 97; (with_reducible refine (c_keys_Covers k (k.pos + off) hk (by unfold i64; omega) _).mono ?_); intro e w2 hr; obtain ⟨rfl, hb, hc, hf, hz⟩ := hr.use; clear hr hc hf; have hK := KeptB.on (HK.out) hb; clear hb hz; have HK := Lib.hid hK; have hbw := hK.below; have HB0 := Lib.hid (hK.box 0 _ rfl); have c0 := fun o => HB0.out.cell o; have f0 := fun o => HB0.out.frozen o; have z0 := HB0.out.lt; (try dsimp only at c0); (try simp only [Nat.add_zero] at c0 f0 z0); clear hK))
    go_ret2
    exact Ret.int2 H.out (by (repeat' (first | (with_reducible exact Below.refl _ _) | (with_reducible assumption) | (with_reducible refine Below.alloc ?_ ?_ _) | (with_reducible refine Below.drew ?_) | (with_reducible refine Below.setCell ?_ ?_ _) | (refine Below.trans ?_ (Below.mono (by with_reducible assumption) ?_)) | go_size)))
def Val.zero : Val := ⟨false, 0, Key.zero⟩
/-- Get: what lies there, and an error -/
def getF (xs : List Val) (k : Key) (off : Int) : Val × Int :=
  if ((place xs.length k off 1).2 != 0) = true then (Val.zero, (place xs.length k off 1).2) else
    match xs[(k.pos + off).toNat]? with
    | some v => if (v.is && !hasP 8 k.perm) = true then (Val.zero, 0) else (v, 0)
    | none => (Val.zero, 0)
def loadF (xs : List Val) (k : Key) (off : Int) : Val × Int := if (memE xs != 0) = true then (Val.zero, memE xs) else getF xs k off
theorem getF_no {xs : List Val} {k : Key} {off : Int} (h : ((place xs.length k off 1).2 != 0) = true) : getF xs k off = (Val.zero, (place xs.length k off 1).2) := by unfold getF; rw [if_pos h]
theorem getF_hid {xs : List Val} {k : Key} {off : Int} {i : Nat} {v : Val} (h : ((place xs.length k off 1).2 != 0) = false) (hi : k.pos + off = i) (hv : xs[i]? = some v) (h1 : (v.is && !hasP 8 k.perm) = true) : getF xs k off = (Val.zero, 0) := by
  unfold getF; rw [if_neg (by simp [h]), hi, Int.toNat_natCast, hv]; simp only [h1, if_true]
theorem getF_yes {xs : List Val} {k : Key} {off : Int} {i : Nat} {v : Val} (h : ((place xs.length k off 1).2 != 0) = false) (hi : k.pos + off = i) (hv : xs[i]? = some v) (h1 : (v.is && !hasP 8 k.perm) = false) : getF xs k off = (v, 0) := by
  unfold getF; rw [if_neg (by simp [h]), hi, Int.toNat_natCast, hv]; simp [h1]
/-- the place as a number of a cell -/
theorem place_nat {n : Nat} {k : Key} {off p : Int} (h : ((place n k off p).2 != 0) = false) : ∃ i : Nat, k.pos + off = i ∧ i < n ∧ i < 400 ∧ place n k off p = ((i : Int), 0) := by
  have h' : (place n k off p).2 = 0 := by simpa using h
  obtain ⟨_, _, _, h1, h2, h3, h4, _⟩ := place_ok h'
  refine ⟨(k.pos + off).toNat, by omega, by omega, by omega, ?_⟩
  refine Prod.ext ?_ h'
  rw [h1]; omega
theorem Ret.val {p q : Val × Int} {w w' : World} (h : q = p) (hb : Below w.heap.size w w') :
    Ret (.tuple #[.agg #[.bool p.1.is, .int .i64 p.1.n, .int .i64 p.1.key.perm, .int .i64 p.1.key.base, .int .i64 p.1.key.len, .int .i64 p.1.key.pos, .int .i64 p.1.key.tag], .int .i64 p.2]) w (.returned (.tuple #[.agg #[.bool q.1.is, .int .i64 q.1.n, .int .i64 q.1.key.perm, .int .i64 q.1.key.base, .int .i64 q.1.key.len, .int .i64 q.1.key.pos, .int .i64 q.1.key.tag], .int .i64 q.2])) w' := by subst h; exact ⟨rfl, hb⟩
def valZ : Array Value := #[.bool false, .int .i64 0, .int .i64 0, .int .i64 0, .int .i64 0, .int .i64 0, .int .i64 0]
theorem keyB2 (k : Key) (w : World) : KeptB w [(#[.int .i64 k.perm, .int .i64 k.base, .int .i64 k.len, .int .i64 k.pos, .int .i64 k.tag], 28), (valZ, 35)] ((w.alloc (.cells #[.int .i64 k.perm, .int .i64 k.base, .int .i64 k.len, .int .i64 k.pos, .int .i64 k.tag] 28)).alloc (.cells valZ 35)) :=
  ((KeptB.nil_ (Below.refl _ w)).more (t := 28) (cs := #[.int .i64 k.perm, .int .i64 k.base, .int .i64 k.len, .int .i64 k.pos, .int .i64 k.tag]) rfl).more (by simp [World.size_alloc])
theorem KeptB.stored {w W W' : World} {bs : List (Array Value × TypeId)} {g : Nat} (h : KeptB w bs W) (hg : W.grownBy W' (some g)) (hw : w.heap.size ≤ g) : Below w.heap.size w W' :=
  h.below.grown hg h.below.size fun k hk => by cases hk; exact hw

set_option maxHeartbeats 2000000 in
theorem c_mem_Get (A : Option Addr) (c : Nat) (k : Key) (hk : k.Wf) (off : Int) (xs : List Val) (hn : xs.length ≤ maxLen) (w : World) (hL : Lies encV 7 w w.heap.size A xs) :
    Calls Try.prog 47 #[.slice A xs.length c, .agg #[.int .i64 k.perm, .int .i64 k.base, .int .i64 k.len, .int .i64 k.pos, .int .i64 k.tag], .int .i64 off] w (Ret (.tuple #[.agg #[.bool (getF xs k off).1.is, .int .i64 (getF xs k off).1.n, .int .i64 (getF xs k off).1.key.perm, .int .i64 (getF xs k off).1.key.base, .int .i64 (getF xs k off).1.key.len, .int .i64 (getF xs k off).1.key.pos, .int .i64 (getF xs k off).1.key.tag], .int .i64 (getF xs k off).2]) w) := by
  have hat := c_mem_At A xs.length c k hk off 1 hn
  cases he : ((place xs.length k off 1).2 != 0)
  · obtain ⟨i, hi, hin, hi4, hpl⟩ := place_nat he
    rw [hpl] at hat
    have HAT := Lib.hid hat
    have HI := Lib.hid hi
    have HE := Lib.hid he
    clear hat hi hpl he
    obtain ⟨b, o, v, rfl, hb, hv, -⟩ := hL.cellsV hin
    have HV := Lib.hid hv
    clear hv
    rcases v with ⟨vi, vn, vk⟩
    cases vi
    · have H := Lib.hid (getF_yes HE.out HI.out HV.out rfl)
      go_enter Try.func47, Try.ntmps47
      go_wp2_with (first | ((go_at_call 90; (with_reducible refine (HAT.out _).mono ?_); intro e w1 hr; obtain ⟨rfl, hb, hc, hf, hz⟩ := hr.use; clear hr hc hf; have hK := KeptB.on (keyB2 k w) hb; clear hb hz; have HK := Lib.hid hK; have hbw := hK.below; have HB0 := Lib.hid (hK.box 0 _ rfl); have c0 := fun o => HB0.out.cell o; have f0 := fun o => HB0.out.frozen o; have z0 := HB0.out.lt; (try dsimp only at c0); have HB1 := Lib.hid (hK.box 1 _ rfl); have c1 := fun o => HB1.out.cell o; have f1 := fun o => HB1.out.frozen o; have z1 := HB1.out.lt; (try dsimp only at c1); (try simp only [Nat.add_zero] at c0 f0 z0); clear hK); obtain ⟨b', o', v', hbo, -, hv', q0, q1, q2, q3, q4, q5, q6⟩ := (hL.below hbw).cellsV hin; cases hbo; cases HV.out.symm.trans hv'; clear hv') | (refine wpList_store_box rfl 35 (.tmp 6) _ rfl (HB1.out) rfl rfl (by kernel_rfl) rfl (by simp [Value.oneCell']) ?_; intro w2 hbw2 hgw2 hzw2))
      ((try simp only [Exit.inBlock, Exit.then]); refine bodyPost_ret (results_ct rfl rfl hbw2 Try.underlying35 rfl (by kernel_rfl)) rfl ?_)
      exact Ret.val (q := (⟨false, vn, vk⟩, 0)) H.out.symm (HK.out.stored hgw2 (by omega))
    · cases h8 : hasP 8 k.perm
      · have H := Lib.hid (getF_hid HE.out HI.out HV.out (by rw [h8]; rfl))
        have h8' := hasP_bits h8
        go_enter Try.func47, Try.ntmps47
        go_wp2_with (first | ((go_at_call 90; (with_reducible refine (HAT.out _).mono ?_); intro e w1 hr; obtain ⟨rfl, hb, hc, hf, hz⟩ := hr.use; clear hr hc hf; have hK := KeptB.on (keyB2 k w) hb; clear hb hz; have HK := Lib.hid hK; have hbw := hK.below; have HB0 := Lib.hid (hK.box 0 _ rfl); have c0 := fun o => HB0.out.cell o; have f0 := fun o => HB0.out.frozen o; have z0 := HB0.out.lt; (try dsimp only at c0); have HB1 := Lib.hid (hK.box 1 _ rfl); have c1 := fun o => HB1.out.cell o; have f1 := fun o => HB1.out.frozen o; have z1 := HB1.out.lt; (try dsimp only at c1); (try simp only [Nat.add_zero] at c0 f0 z0); clear hK); obtain ⟨b', o', v', hbo, -, hv', q0, q1, q2, q3, q4, q5, q6⟩ := (hL.below hbw).cellsV hin; cases hbo; cases HV.out.symm.trans hv'; clear hv') | (refine wpList_store_box rfl 35 (.tmp 6) _ rfl (HB1.out) rfl rfl (by kernel_rfl) rfl (by simp [Value.oneCell']) ?_; intro w2 hbw2 hgw2 hzw2))
        ((try simp only [Exit.inBlock, Exit.then]); refine bodyPost_ret (results_ct rfl rfl hbw2 Try.underlying35 rfl (by kernel_rfl)) rfl ?_)
        exact Ret.val (q := (Val.zero, 0)) H.out.symm (HK.out.stored hgw2 (by omega))
      · have H := Lib.hid (getF_yes HE.out HI.out HV.out (by rw [h8]; rfl))
        have h8' := hasP_bits h8
        go_enter Try.func47, Try.ntmps47
        go_wp2_with (first | ((go_at_call 90; (with_reducible refine (HAT.out _).mono ?_); intro e w1 hr; obtain ⟨rfl, hb, hc, hf, hz⟩ := hr.use; clear hr hc hf; have hK := KeptB.on (keyB2 k w) hb; clear hb hz; have HK := Lib.hid hK; have hbw := hK.below; have HB0 := Lib.hid (hK.box 0 _ rfl); have c0 := fun o => HB0.out.cell o; have f0 := fun o => HB0.out.frozen o; have z0 := HB0.out.lt; (try dsimp only at c0); have HB1 := Lib.hid (hK.box 1 _ rfl); have c1 := fun o => HB1.out.cell o; have f1 := fun o => HB1.out.frozen o; have z1 := HB1.out.lt; (try dsimp only at c1); (try simp only [Nat.add_zero] at c0 f0 z0); clear hK); obtain ⟨b', o', v', hbo, -, hv', q0, q1, q2, q3, q4, q5, q6⟩ := (hL.below hbw).cellsV hin; cases hbo; cases HV.out.symm.trans hv'; clear hv') | (refine wpList_store_box rfl 35 (.tmp 6) _ rfl (HB1.out) rfl rfl (by kernel_rfl) rfl (by simp [Value.oneCell']) ?_; intro w2 hbw2 hgw2 hzw2))
        ((try simp only [Exit.inBlock, Exit.then]); refine bodyPost_ret (results_ct rfl rfl hbw2 Try.underlying35 rfl (by kernel_rfl)) rfl ?_)
        exact Ret.val (q := (⟨true, vn, vk⟩, 0)) H.out.symm (HK.out.stored hgw2 (by omega))
  · have H := Lib.hid (getF_no he)
    generalize place xs.length k off 1 = r at hat he H
    obtain ⟨ra, rb⟩ := r
    have HAT := Lib.hid hat
    clear hat
    simp only at he
    go_enter Try.func47, Try.ntmps47
    go_wp2_with (first | (go_at_call 90; (with_reducible refine (HAT.out _).mono ?_); intro e w1 hr; obtain ⟨rfl, hb, hc, hf, hz⟩ := hr.use; clear hr hc hf; have hK := KeptB.on (keyB2 k w) hb; clear hb hz; have HK := Lib.hid hK; have hbw := hK.below; have HB0 := Lib.hid (hK.box 0 _ rfl); have c0 := fun o => HB0.out.cell o; have f0 := fun o => HB0.out.frozen o; have z0 := HB0.out.lt; (try dsimp only at c0); have HB1 := Lib.hid (hK.box 1 _ rfl); have c1 := fun o => HB1.out.cell o; have f1 := fun o => HB1.out.frozen o; have z1 := HB1.out.lt; (try dsimp only at c1); (try simp only [Nat.add_zero] at c0 f0 z0); clear hK) | (refine wpList_store_box rfl 35 (.tmp 6) _ rfl (HB1.out) rfl rfl (by kernel_rfl) rfl (by simp [Value.oneCell']) ?_; intro w2 hbw2 hgw2 hzw2))
    ((try simp only [Exit.inBlock, Exit.then]); refine bodyPost_ret (results_ct rfl rfl hbw2 Try.underlying35 rfl (by kernel_rfl)) rfl ?_)
    exact Ret.val (q := (Val.zero, rb)) H.out.symm (HK.out.stored hgw2 (by omega))
set_option maxHeartbeats 2000000 in
theorem c_mem_Load (A : Option Addr) (c : Nat) (k : Key) (hk : k.Wf) (off : Int) (xs : List Val) (hn : xs.length ≤ maxLen) (w : World) (hL : Lies encV 7 w w.heap.size A xs) :
    Calls Try.prog 17 #[.slice A xs.length c, .agg #[.int .i64 k.perm, .int .i64 k.base, .int .i64 k.len, .int .i64 k.pos, .int .i64 k.tag], .int .i64 off] w (Ret (.tuple #[.agg #[.bool (loadF xs k off).1.is, .int .i64 (loadF xs k off).1.n, .int .i64 (loadF xs k off).1.key.perm, .int .i64 (loadF xs k off).1.key.base, .int .i64 (loadF xs k off).1.key.len, .int .i64 (loadF xs k off).1.key.pos, .int .i64 (loadF xs k off).1.key.tag], .int .i64 (loadF xs k off).2]) w) := by
  cases he : (memE xs != 0)
  · have H := Lib.hid (show getF xs k off = loadF xs k off by unfold loadF; rw [if_neg (by simp [he])])
    have hg := c_mem_Get A c k hk off xs hn
    generalize getF xs k off = r at hg H
    obtain ⟨rv, re⟩ := r
    have HG := Lib.hid hg
    clear hg
    go_enter Try.func17, Try.ntmps17
    go_wp2_with (first | (go_at_call 19; (with_reducible refine (c_mem_Check A c xs _ ((hL.below (by (repeat' (first | (with_reducible exact Below.refl _ _) | (with_reducible assumption) | (with_reducible refine Below.alloc ?_ ?_ _) | (with_reducible refine Below.drew ?_) | (with_reducible refine Below.setCell ?_ ?_ _) | (refine Below.trans ?_ (Below.mono (by with_reducible assumption) ?_)) | go_size)))).more (by simp only [World.size_alloc]; omega))).mono ?_); intro e w1 hr; obtain ⟨rfl, hb, hc, hf, hz⟩ := hr.use; clear hr hc hf; have hK := KeptB.on (keyB2 k w) hb; clear hb hz; have HK := Lib.hid hK; have hbw := hK.below; have HB0 := Lib.hid (hK.box 0 _ rfl); have c0 := fun o => HB0.out.cell o; have f0 := fun o => HB0.out.frozen o; have z0 := HB0.out.lt; (try dsimp only at c0); have HB1 := Lib.hid (hK.box 1 _ rfl); have c1 := fun o => HB1.out.cell o; have f1 := fun o => HB1.out.frozen o; have z1 := HB1.out.lt; (try dsimp only at c1); (try simp only [Nat.add_zero] at c0 f0 z0); clear hK) | (go_at_call 47; (with_reducible refine (HG.out _ ((hL.below hbw).more (by omega))).mono ?_); intro e w2 hr; obtain ⟨rfl, hb, hc, hf, hz⟩ := hr.use; clear hr hc hf; have hK := KeptB.on (HK.out) hb; clear hb hz; have HK := Lib.hid hK; have hbw := hK.below; have HB0 := Lib.hid (hK.box 0 _ rfl); have c0 := fun o => HB0.out.cell o; have f0 := fun o => HB0.out.frozen o; have z0 := HB0.out.lt; (try dsimp only at c0); have HB1 := Lib.hid (hK.box 1 _ rfl); have c1 := fun o => HB1.out.cell o; have f1 := fun o => HB1.out.frozen o; have z1 := HB1.out.lt; (try dsimp only at c1); (try simp only [Nat.add_zero] at c0 f0 z0); clear hK) | (refine wpList_store_box rfl 35 (.tmp 6) _ rfl (HB1.out) rfl rfl (by kernel_rfl) rfl (by simp [Value.oneCell']) ?_; intro w3 hbw3 hgw3 hzw3))
    ((try simp only [Exit.inBlock, Exit.then]); refine bodyPost_ret (results_ct rfl rfl hbw3 Try.underlying35 rfl (by kernel_rfl)) rfl ?_)
    exact Ret.val (q := (rv, re)) H.out (HK.out.stored hgw3 (by omega))
  · have H := Lib.hid (show loadF xs k off = (Val.zero, memE xs) by unfold loadF; rw [if_pos he])
    go_enter Try.func17, Try.ntmps17
    go_wp2_with (first | (go_at_call 19; (with_reducible refine (c_mem_Check A c xs _ ((hL.below (by (repeat' (first | (with_reducible exact Below.refl _ _) | (with_reducible assumption) | (with_reducible refine Below.alloc ?_ ?_ _) | (with_reducible refine Below.drew ?_) | (with_reducible refine Below.setCell ?_ ?_ _) | (refine Below.trans ?_ (Below.mono (by with_reducible assumption) ?_)) | go_size)))).more (by simp only [World.size_alloc]; omega))).mono ?_); intro e w1 hr; obtain ⟨rfl, hb, hc, hf, hz⟩ := hr.use; clear hr hc hf; have hK := KeptB.on (keyB2 k w) hb; clear hb hz; have HK := Lib.hid hK; have hbw := hK.below; have HB0 := Lib.hid (hK.box 0 _ rfl); have c0 := fun o => HB0.out.cell o; have f0 := fun o => HB0.out.frozen o; have z0 := HB0.out.lt; (try dsimp only at c0); have HB1 := Lib.hid (hK.box 1 _ rfl); have c1 := fun o => HB1.out.cell o; have f1 := fun o => HB1.out.frozen o; have z1 := HB1.out.lt; (try dsimp only at c1); (try simp only [Nat.add_zero] at c0 f0 z0); clear hK) | (refine wpList_store_box rfl 35 (.tmp 6) _ rfl (HB1.out) rfl rfl (by kernel_rfl) rfl (by simp [Value.oneCell']) ?_; intro w2 hbw2 hgw2 hzw2))
    ((try simp only [Exit.inBlock, Exit.then]); refine bodyPost_ret (results_ct rfl rfl hbw2 Try.underlying35 rfl (by kernel_rfl)) rfl ?_)
    exact Ret.val (q := (Val.zero, memE xs)) H.out.symm (HK.out.stored hgw2 (by omega))
end Go.Proofs.Ytnbppchpgagliaa
