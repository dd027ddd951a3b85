/- The closures of the reference's Sweep. Conditions: none. -/
import Derived.Test.YtnbppchpgagliaaStruck
import Derived.Test.YtnbppchpgagliaaMStore
namespace Go.Proofs.Ytnbppchpgagliaa
open Go.RowKit
set_option linter.unusedVariables false
set_option linter.unusedSimpArgs false
set_option maxRecDepth 100000
section
variable {w w' : World} {r : Option Nat}
theorem gby_alloc (h : w.grownBy w' r) (o : Obj) : w.grownBy (w'.alloc o) r :=
  ⟨h.os, h.tape, h.output, Nat.le_trans h.size (by simp), fun k hk hn => (Below.heap_alloc _ _ _ (Nat.lt_of_lt_of_le hk h.size)).trans (h.block k hk hn)⟩
theorem gby_drew (h : w.grownBy w' r) : w.grownBy w'.drew r := ⟨h.os, h.tape, h.output, h.size, h.block⟩
theorem gby_set (h : w.grownBy w' r) {p : Addr} (hp : w.heap.size ≤ p.block ∨ r = some p.block) (u : Value) : w.grownBy (w'.setCell p u) r :=
  ⟨h.os, h.tape, h.output, by rw [World.size_setCell]; exact h.size, fun k hk hn => (Below.heap_setCell _ _ _ _ (by rintro rfl; rcases hp with hp | hp; omega; exact hn hp.symm)).trans (h.block k hk hn)⟩
theorem gby_below {w2 : World} {B : Nat} (h : w.grownBy w' r) (hb : Below B w' w2) (hB : w.heap.size ≤ B) : w.grownBy w2 r :=
  ⟨hb.os.trans h.os, hb.tape.trans h.tape, hb.output.trans h.output, Nat.le_trans h.size hb.size, fun k hk hn => (hb.block k (by omega)).trans (h.block k hk hn)⟩
theorem gby_of (h : Below w.heap.size w w') : w.grownBy w' r := ⟨h.os, h.tape, h.output, h.size, fun k hk _ => h.block k hk⟩
theorem gby_trans {w2 : World} {r' : Option Nat} (h : w.grownBy w' r) (h2 : w'.grownBy w2 r') (hr : r' = r ∨ ∀ k, r' = some k → w.heap.size ≤ k) : w.grownBy w2 r :=
  ⟨h2.os.trans h.os, h2.tape.trans h.tape, h2.output.trans h.output, Nat.le_trans h.size h2.size, fun k hk hn => (h2.block k (Nat.lt_of_lt_of_le hk h.size) (by rintro rfl; rcases hr with rfl | hr; exact hn rfl; have := hr k rfl; omega)).trans (h.block k hk hn)⟩
end
/-- what a stroke of the reference leaves: its answer, and one more counted -/
def RStroke (w : World) (bm : Nat) (v : Value) (many : Int) : Ending → World → Prop := fun e w' => e = .returned v ∧ w.grownBy w' (some bm) ∧ Box w' bm 3 #[.int .i64 many]
set_option maxHeartbeats 1000000 in
theorem r_swVal (b1 b2 bm : Nat) (base n many : Int) (v : Val) (w : World) (h1 : Box w b1 3 #[.int .i64 base]) (h2 : Box w b2 3 #[.int .i64 n]) (hm : Box w bm 3 #[.int .i64 many]) (hk : v.is = true → keyOk v.key = true)
    (n1 : 0 ≤ base) (n2 : base ≤ 400) (n3 : 0 ≤ n) (n4 : base + n ≤ 400) (n5 : 0 ≤ many) (n6 : many ≤ 100000) :
    Calls Try.prog 64 #[.agg #[.bool v.is, .int .i64 v.n, .int .i64 v.key.perm, .int .i64 v.key.base, .int .i64 v.key.len, .int .i64 v.key.pos, .int .i64 v.key.tag], .pointer (some ⟨b1, 0, none⟩), .pointer (some ⟨b2, 0, none⟩), .pointer (some ⟨bm, 0, none⟩)] w (RStroke w bm (.agg #[.bool (swV base n v).is, .int .i64 (swV base n v).n, .int .i64 (swV base n v).key.perm, .int .i64 (swV base n v).key.base, .int .i64 (swV base n v).key.len, .int .i64 (swV base n v).key.pos, .int .i64 (swV base n v).key.tag]) (many + cntV base n v)) := by
  have HM := Lib.hid hm
  have HK := Lib.hid hk
  have q1 := (h1.cell 0).trans rfl
  have q2 := (h2.cell 0).trans rfl
  have q3 := (hm.cell 0).trans rfl
  have g3 := hm.frozen
  have l1 := h1.lt
  have l2 := h2.lt
  have l3 := hm.lt
  clear hm hk h1 h2
  cases hi : v.is
  · have HR := Lib.hid (show cntV base n v = 0 ∧ swV base n v = v by simp [cntV, swV, hitV, hi, one01])
    go_enter Try.func64, Try.ntmps64
    go_wp2_with fail
    ((try simp only [Exit.inBlock, Exit.then]); refine bodyPost_ret (by simp [results, Try.results64, go_sem, *]; try rfl) rfl ?_)
    rw [HR.out.1, HR.out.2, Int.add_zero, ← hi]
    exact ⟨rfl, gby_of (by (repeat' (first | (with_reducible exact Below.refl _ _) | (with_reducible assumption) | (with_reducible refine Below.alloc ?_ ?_ _) | (with_reducible refine Below.drew ?_) | (with_reducible refine Below.setCell ?_ ?_ _) | (refine Below.trans ?_ (Below.mono (by with_reducible assumption) ?_)) | go_size))), HM.out.on (by (repeat' (first | (with_reducible exact Below.refl _ _) | (with_reducible assumption) | (with_reducible refine Below.alloc ?_ ?_ _) | (with_reducible refine Below.drew ?_) | (with_reducible refine Below.setCell ?_ ?_ _) | (refine Below.trans ?_ (Below.mono (by with_reducible assumption) ?_)) | go_size)))⟩
  · have HH := Lib.hid (fun W => r_struck v.key base n W (HK.out hi) n1 n2 n3 n4)
    cases hh : hitK base n v.key
    · have HR := Lib.hid (show cntV base n v = 0 ∧ swV base n v = v by simp [cntV, swV, hitV, hi, hh, one01])
      rw [hh] at HH
      clear hh
      go_enter Try.func64, Try.ntmps64
      go_wp2_with (go_at_call 65; (with_reducible refine (HH.out _).mono ?_); intro e w1 hr; obtain ⟨rfl, hb, hc, hf, hz⟩ := hr.use; (try simp only [World.size_alloc, World.size_setCell, World.size_drew] at hz); clear hr; have c0 := fun o => hc (w.heap.size) o (by (try simp only [World.size_alloc, World.size_setCell, World.size_drew]); omega); have f0 := fun o => hf (w.heap.size) o (by (try simp only [World.size_alloc, World.size_setCell, World.size_drew]); omega); have z0 : w.heap.size < w1.heap.size := (by (try simp only [World.size_alloc, World.size_setCell, World.size_drew]); omega); have c1 := fun o => hc (w.heap.size + 1) o (by (try simp only [World.size_alloc, World.size_setCell, World.size_drew]); omega); have f1 := fun o => hf (w.heap.size + 1) o (by (try simp only [World.size_alloc, World.size_setCell, World.size_drew]); omega); have z1 : w.heap.size + 1 < w1.heap.size := (by (try simp only [World.size_alloc, World.size_setCell, World.size_drew]); omega); have c2 := fun o => hc (bm) o (by (try simp only [World.size_alloc, World.size_setCell, World.size_drew]); omega); have f2 := fun o => hf (bm) o (by (try simp only [World.size_alloc, World.size_setCell, World.size_drew]); omega); have z2 : bm < w1.heap.size := (by (try simp only [World.size_alloc, World.size_setCell, World.size_drew]); omega); clear hc hf; simp only [go_sem, World.size_alloc, *] at c0 f0 c1 f1 c2 f2)
      ((try simp only [Exit.inBlock, Exit.then]); refine bodyPost_ret (by simp [results, Try.results64, go_sem, *]; try rfl) rfl ?_)
      rw [HR.out.1, HR.out.2, Int.add_zero, ← hi]
      have hw1 : Below w.heap.size w w1 := (by (repeat' (first | (with_reducible exact Below.refl _ _) | (with_reducible assumption) | (with_reducible refine Below.alloc ?_ ?_ _) | (with_reducible refine Below.drew ?_) | (with_reducible refine Below.setCell ?_ ?_ _) | (refine Below.trans ?_ (Below.mono (by with_reducible assumption) ?_)) | go_size)))
      clear hb
      refine ⟨rfl, gby_of (by (repeat' (first | (with_reducible exact Below.refl _ _) | (with_reducible assumption) | (with_reducible refine Below.alloc ?_ ?_ _) | (with_reducible refine Below.drew ?_) | (with_reducible refine Below.setCell ?_ ?_ _) | (refine Below.trans ?_ (Below.mono (by with_reducible assumption) ?_)) | go_size))), HM.out.on (by (repeat' (first | (with_reducible exact Below.refl _ _) | (with_reducible assumption) | (with_reducible refine Below.alloc ?_ ?_ _) | (with_reducible refine Below.drew ?_) | (with_reducible refine Below.setCell ?_ ?_ _) | (refine Below.trans ?_ (Below.mono (by with_reducible assumption) ?_)) | go_size)))⟩
    · have HR := Lib.hid (show cntV base n v = 1 ∧ swV base n v = ⟨false, 0, Key.zero⟩ by simp [cntV, swV, hitV, hi, hh, one01])
      rw [hh] at HH
      clear hh
      have E1 := Lib.hid (show IntKind.i64.wrap (many + 1) = many + 1 from IntWalk.i64_in _ (by omega))
      go_enter Try.func64, Try.ntmps64
      go_wp2_with (go_at_call 65; (with_reducible refine (HH.out _).mono ?_); intro e w1 hr; obtain ⟨rfl, hb, hc, hf, hz⟩ := hr.use; (try simp only [World.size_alloc, World.size_setCell, World.size_drew] at hz); clear hr; have c0 := fun o => hc (w.heap.size) o (by (try simp only [World.size_alloc, World.size_setCell, World.size_drew]); omega); have f0 := fun o => hf (w.heap.size) o (by (try simp only [World.size_alloc, World.size_setCell, World.size_drew]); omega); have z0 : w.heap.size < w1.heap.size := (by (try simp only [World.size_alloc, World.size_setCell, World.size_drew]); omega); have c1 := fun o => hc (w.heap.size + 1) o (by (try simp only [World.size_alloc, World.size_setCell, World.size_drew]); omega); have f1 := fun o => hf (w.heap.size + 1) o (by (try simp only [World.size_alloc, World.size_setCell, World.size_drew]); omega); have z1 : w.heap.size + 1 < w1.heap.size := (by (try simp only [World.size_alloc, World.size_setCell, World.size_drew]); omega); have c2 := fun o => hc (bm) o (by (try simp only [World.size_alloc, World.size_setCell, World.size_drew]); omega); have f2 := fun o => hf (bm) o (by (try simp only [World.size_alloc, World.size_setCell, World.size_drew]); omega); have z2 : bm < w1.heap.size := (by (try simp only [World.size_alloc, World.size_setCell, World.size_drew]); omega); clear hc hf; simp only [go_sem, World.size_alloc, *] at c0 f0 c1 f1 c2 f2)
      ((try simp only [Exit.inBlock, Exit.then]); refine bodyPost_ret (by simp [results, Try.results64, go_sem, *]; try rfl) rfl ?_)
      have hw1 : Below w.heap.size w w1 := (by (repeat' (first | (with_reducible exact Below.refl _ _) | (with_reducible assumption) | (with_reducible refine Below.alloc ?_ ?_ _) | (with_reducible refine Below.drew ?_) | (with_reducible refine Below.setCell ?_ ?_ _) | (refine Below.trans ?_ (Below.mono (by with_reducible assumption) ?_)) | go_size)))
      clear hb
      have h0 : w.grownBy w1 (some bm) := gby_of hw1
      have h1 : Box (w1.setCell ⟨bm, 0, none⟩ (.int .i64 (many + 1))) bm 3 #[.int .i64 (many + 1)] := (HM.out.on hw1).set_ 0 _
      rw [HR.out.1, HR.out.2]
      (try simp only [E1.out])
      refine ⟨rfl, ?_, ?_⟩
      · repeat' (first | (with_reducible exact h0) | (with_reducible refine gby_set ?_ (.inr rfl) _) | (with_reducible refine gby_set ?_ (.inl (by dsimp only; omega)) _))
      · repeat' (first | (with_reducible exact h1) | (with_reducible refine Box.far ?_ (by dsimp only; omega) _))
@[go_sem high] theorem field_val_key (a b c d e f g : Value) (w : World) : (Instr.field 35 (.agg #[a, b, c, d, e, f, g]) 2).run Try.prog w = .ok (.agg #[c, d, e, f, g]) w := by kernel_rfl
set_option maxHeartbeats 1000000 in
theorem r_swCode (b1 b2 bm bf : Nat) (base n many : Int) (k : Key) (w : World) (hf : Box w bf 111 #[.func (.func 64) #[] #[.pointer (some ⟨b1, 0, none⟩), .pointer (some ⟨b2, 0, none⟩), .pointer (some ⟨bm, 0, none⟩)]]) (h1 : Box w b1 3 #[.int .i64 base]) (h2 : Box w b2 3 #[.int .i64 n]) (hm : Box w bm 3 #[.int .i64 many]) (hk : keyOk k = true)
    (n1 : 0 ≤ base) (n2 : base ≤ 400) (n3 : 0 ≤ n) (n4 : base + n ≤ 400) (n5 : 0 ≤ many) (n6 : many ≤ 100000) :
    Calls Try.prog 66 #[.agg #[.int .i64 k.perm, .int .i64 k.base, .int .i64 k.len, .int .i64 k.pos, .int .i64 k.tag], .pointer (some ⟨bf, 0, none⟩)] w (RStroke w bm (.agg #[.int .i64 (swK base n k).perm, .int .i64 (swK base n k).base, .int .i64 (swK base n k).len, .int .i64 (swK base n k).pos, .int .i64 (swK base n k).tag]) (many + cntK base n k)) := by
  have HM := Lib.hid hm
  have H1 := Lib.hid h1
  have H2 := Lib.hid h2
  have q1 := (hf.cell 0).trans rfl
  have l1 := hf.lt
  have l2 := h1.lt
  have l3 := hm.lt
  have HH := Lib.hid (fun W h1 h2 hm => r_swVal b1 b2 bm base n many ⟨true, 0, k⟩ W h1 h2 hm (fun _ => hk) n1 n2 n3 n4 n5 n6)
  have HR := Lib.hid (show cntV base n ⟨true, 0, k⟩ = cntK base n k ∧ (swV base n ⟨true, 0, k⟩).key = swK base n k by
    cases h : hitK base n k <;> simp [cntV, cntK, swV, swK, hitV, h, one01])
  clear hm h1 h2 hf
  go_enter Try.func66, Try.ntmps66
  go_wp2_with (go_at_call 64; refine (HH.out _ ((H1.out.alloc _).alloc _) ((H2.out.alloc _).alloc _) ((HM.out.alloc _).alloc _)).mono ?_; rintro e w1 ⟨rfl, hg1, hb1⟩; have HB1 := Lib.hid hb1; have HG1 := Lib.hid hg1; have hz1 := hg1.size; simp only [World.size_alloc] at hz1; have k1 := (Box.new (w.alloc (.cells #[.int .i64 k.perm, .int .i64 k.base, .int .i64 k.len, .int .i64 k.pos, .int .i64 k.tag] 28)) 28 #[.int .i64 0, .int .i64 0, .int .i64 0, .int .i64 0, .int .i64 0] (g := w.heap.size + 1) (by rw [World.size_alloc])).grown hg1 (fun h => by injection h with h; omega); have c1 := k1.cell; have f1 := k1.frozen; clear hg1 hb1 k1)
  ((try simp only [Exit.inBlock, Exit.then]); refine bodyPost_ret (by simp [results, Try.results66, go_sem, *]; try rfl) rfl ?_)
  rw [← HR.out.1, ← HR.out.2]
  have h0 : w.grownBy w1 (some bm) := gby_trans (gby_alloc (gby_alloc (World.grownBy.refl w _) _) _) HG1.out (.inl rfl)
  have h1 := HB1.out
  refine ⟨rfl, ?_, ?_⟩
  · repeat' (first | (with_reducible exact h0) | (with_reducible refine gby_set ?_ (.inl (by dsimp only; omega)) _))
  · repeat' (first | (with_reducible exact h1) | (with_reducible refine Box.far ?_ (by dsimp only; omega) _))
end Go.Proofs.Ytnbppchpgagliaa
