/- What the parts say: The words that all contracts of this seat share: what a call that only makes new memory leaves behind, and small lemmas. Conditions: none. -/
import Derived.Test.YthmpnnfejghhfaaGreatDoorProg
import Derived.WalkKit
import Derived.Outline
import Derived.WalkLawsBesides
import Derived.WalkSpells
import Derived.Deep.QuietTactic
import Derived.BigQuiet
import Derived.Lib.Hide
import Derived.Deep.RegionHeld3
import Derived.Deep.LoopGhost
import Derived.Deep.DeepFit
import Derived.Handy
import Derived.Deep.Quiet
set_option linter.unusedVariables false
set_option linter.unusedSimpArgs false
namespace Go.Proofs.YthmpnnfejghhfaaGreatDoor
structure Hq (Q : Prop) : Prop where out : Q
theorem az9 {P : Prop} (h : P := by
  have hn1 : xs.length ≤ maxLen := by unfold maxLen; omega
  have HK := Lib.hid hK; clear hK
  conv => arg 2; whnf
  have cF := hI.facts; (try simp only [mm] at cF)
  go_wp2_with fail
  (refine wp_region_KG 8 [0, 4] (by kernel_rfl) hI fun w' hI' hHeld => ?_; (try clear hb); refine am92 ?_; clear hI hI'; (try clear cF); intro hI cF)
  refine am179 ?_; (refine tg 4 ?_; (try simp only [np, Act.put]))
  refine twoG (i := 2) (j := 5) (by kernel_rfl) rfl rfl (fun K hK => ?_) (fun K hK => ?_)
  · (go_simp; refine (r_Copy_I A cp xs _ hn1 (by unfold maxLen at hn1; omega) (hI.lies hL)).mono ?_; refine am176 ?_; clear hK K hI; intro w' AF AFk hHeld; (try clear cF); intro hI cF); refine oneG (i := 5) (by kernel_rfl) rfl (fun K hK => ?_); (refine am171 ?_; clear hK K hI; intro gl w' hHeld; (try clear cF); intro hI cF); refine oneG (i := 6) (by kernel_rfl) rfl (fun K hK => ?_)
    (refine stepI rfl (wpI_app (t := 29) _ _ rfl el_I hI 7 rfl rfl rfl (hI.lies1 (i := 8) (enc := encI) (size := 1) rfl x.n (fun j hj => by simp [encI, Value.cells])) rfl (by unfold maxLen; simp only [List.length_cons, List.length_nil]; omega) (by simp only [List.length_cons, List.length_nil]; omega) fun v' w' hI' => hK.out _ _ (hI'.held (by simp)) (fun hHeld => ?_)); clear hK K; (try clear hb); refine am103 ?_; clear hI hI'; (try clear cF); intro hI cF)
    obtain ⟨A2, cp2, hv2⟩ := (InvT.own0 (enc := encI) (xs := xs ++ [x.n]) (size := 1) hI (i := 7) rfl).form
    subst hv2
    (refine tg 7 ?_; (try simp only [np, Act.put])); refine oneGs (i := 8) (by kernel_rfl) rfl (by kernel_rfl) (fun K hK => ?_)
    (refine am141 ?_; intro w' hI'; clear hK K; (try clear hb); refine am103 ?_; clear hI hI'; (try clear cF); intro hI cF)
    refine doneG (by kernel_rfl) ?_ _
    (try clear hHeld)
    go_wp2_with fail
    refine HK.out _ _ _ _ ?_ (hI.first [_, _, _, _, _, _, _, _] [_] rfl); unfold FrSw
    (repeat apply Exists.intro)
    rfl
  · (refine am171 ?_; clear hK K hI; intro gl w' hHeld; (try clear cF); intro hI cF); refine oneG (i := 2) (by kernel_rfl) rfl (fun K hK => ?_); (go_simp; refine (r_Copy_I A cp xs _ hn1 (by unfold maxLen at hn1; omega) (hI.lies hL)).mono ?_; refine am176 ?_; clear hK K hI; intro w' AF AFk hHeld; (try clear cF); intro hI cF); refine oneG (i := 6) (by kernel_rfl) rfl (fun K hK => ?_)
    (refine stepI rfl (wpI_app (t := 29) _ _ rfl el_I hI 8 rfl rfl rfl (hI.lies1 (i := 7) (enc := encI) (size := 1) rfl x.n (fun j hj => by simp [encI, Value.cells])) rfl (by unfold maxLen; simp only [List.length_cons, List.length_nil]; omega) (by simp only [List.length_cons, List.length_nil]; omega) fun v' w' hI' => hK.out _ _ (hI'.held (by simp)) (fun hHeld => ?_)); clear hK K; (try clear hb); refine am103 ?_; clear hI hI'; (try clear cF); intro hI cF)
    obtain ⟨A2, cp2, hv2⟩ := (InvT.own0 (enc := encI) (xs := xs ++ [x.n]) (size := 1) hI (i := 8) rfl).form
    subst hv2
    (refine tg 7 ?_; (try simp only [np, Act.put])); refine oneGs (i := 8) (by kernel_rfl) rfl (by kernel_rfl) (fun K hK => ?_)
    (refine am141 ?_; intro w' hI'; clear hK K; (try clear hb); refine am103 ?_; clear hI hI'; (try clear cF); intro hI cF)
    refine doneG (by kernel_rfl) ?_ _
    (try clear hHeld)
    go_wp2_with fail
    refine HK.out _ _ _ _ ?_ ((InvT.swap (n := 7) hI rfl rfl rfl).first [_, _, _, _, _, _, _, _] [_] rfl); unfold FrSw
    (repeat apply Exists.intro)
    rfl) : P := h
theorem az35 {P : Prop} (h : P := by
  unfold swR at hI; unfold FrOp at hF
  iterate 404 (obtain ⟨_, hF⟩ := hF)
  subst hF
  conv => arg 2; whnf
  have cF := hI.facts; (try simp only [mm] at cF)
  go_wp2_with (first | (go_at_call 56; (with_reducible refine (r_none 16 _).mono ?_); refine am101 ?_; clear hI; (try clear cF); intro w' hI cF) | ((with_reducible refine at_store ?_); first | (refine listI rfl fun K hK => wpI_storeW _ _ _ rfl hI rfl 1 rfl rfl rfl (by kernel_rfl) (by kernel_rfl) fun w' hI' => hK _ _ ?_; clear hK K; (try clear hb); refine am92 ?_; clear hI hI'; (try clear cF); intro hI cF)) | fail)
  exact az44) : P := h
theorem az49 {P : Prop} (h : P := by
  go_enter Tryz.func60, Tryz.ntmps60
  go_wp2_with (go_at_call 86; refine (r_Wrap _ _).mono ?_; rintro e w' ⟨rfl, rfl⟩)
  go_ret2
  exact ⟨eint2 H1.out H2.out.symm, rfl⟩) : P := h
theorem az52 {P : Prop} (h : P := by
  obtain rfl : t = 31 := by simpa using Array.mem_of_getElem? ht
  exact (show Tryz.prog.wantsStandIn 31 = false by kernel_rfl)) : P := h
theorem az53 {P : Prop} (h : P := by
  unfold callF
  have hg : m.regs.getD 7 Val.zero = d := by rw [List.getD_eq_getElem?_getD, HD.out]; rfl
  rw [if_neg (by rw [not_or]; exact ⟨HT.out, fun hn => hn h2⟩), if_neg (by simp [h3, h4]), if_neg (by omega), hg, HFR.out]) : P := h
theorem az69 {P : Prop} (h : P := by
  go_wp2_with (go_at_call 47; refine (c_num_Wrap _ _).mono ?_; rintro e w' ⟨rfl, rfl⟩)
  go_ret
  exact ⟨rfl, rfl⟩) : P := h
theorem az71 {P : Prop} (h : P := by
  obtain ⟨b, o, p, hA, hb, hp, hc⟩ := h.at_ hk
  exact ⟨b, o, p, hA, hb, hp, hc 0 (by omega), hc 1 (by omega), hc 2 (by omega), hc 3 (by omega), hc 4 (by omega), hc 5 (by omega), hc 6 (by omega)⟩) : P := h
theorem az73 {P : Prop} (h : P := by
  have hd := tdiv_bd (wr a) (wr b) (wr_lo a) (wr_hi a)
  rw [show wrap64 (-(wr a).tdiv (wr b)) = -(wr a).tdiv (wr b) by unfold wrap64; omega, wr_wrap64]
  unfold dvq
  rw [if_neg (by omega), Int.neg_neg]) : P := h
theorem az74 {P : Prop} (h : P := by
  go_enter Tryz.func45, Tryz.ntmps45
  go_wp2_with (go_at_call 74; refine (c_keys_within _ _ _ _).mono ?_; rintro e w' ⟨rfl, rfl⟩)
  all_goals
    go_ret
    refine Ret.int ?_ bel
    simp_all [keyE, keyOk]) : P := h
theorem az89 {P : Prop} (h : P := by
  have H := Lib.hid (show cov k i = false by simp [cov]; omega)
  go_enter Tryz.func85, Tryz.ntmps85
  go_wp2
  go_returns
  exact Ret.bool H.out.symm bel) : P := h
theorem am97 {P Q : Prop} (k : Q) (h : Hq Q → P := by (intro k_; intro e w' hr; obtain ⟨rfl, hb⟩ := hr; have hI' := hI.on hb; refine hK.out _ _ (hI'.held (by simp)) (fun hHeld => ?_); (try clear hb); refine am92 ?_; clear hI'; (try clear cF); intro hI cF; (try simp only [np, Act.put]); revert cF; revert hI; revert hHeld; revert w'; exact k_.out)) : P := h ⟨k⟩
theorem am101 {P Q : Prop} (k : Q) (h : Hq Q → P := by (intro k_; intro e w' hr; obtain ⟨rfl, hb⟩ := hr; have hI' := hI.on hb; (try clear hb); refine am92 ?_; clear hI'; (try clear cF); intro hI cF; revert cF; revert hI; revert w'; exact k_.out)) : P := h ⟨k⟩
theorem am104 {P Q : Prop} (k : Q) (h : Hq Q → P := by (intro k_; (refine tk 0 ?_; (try simp only [np, Act.put])); (refine tk 1 ?_; (try simp only [np, Act.put])); (refine tk 2 ?_; (try simp only [np, Act.put])); (refine tk 3 ?_; (try simp only [np, Act.put])); exact k_.out)) : P := h ⟨k⟩
theorem am114 {P Q : Prop} (k : Q) (h : Hq Q → P := by (intro k_; have q0 := q 0 (by decide); have q1 := q 1 (by decide); have q2 := q 2 (by decide); have q3 := q 3 (by decide); have q4 := q 4 (by decide); have q5 := q 5 (by decide); have q6 := q 6 (by decide); revert q6; revert q5; revert q4; revert q3; revert q2; revert q1; revert q0; exact k_.out)) : P := h ⟨k⟩
theorem am126 {P Q : Prop} (k : Q) (h : Hq Q → P := by (intro k_; (try simp only [Exit.inBlock, Exit.then]); refine bodyPost_ret (results_ct rfl rfl hbx Tryz.underlying31 rfl (by kernel_rfl)) rfl ?_; exact k_.out)) : P := h ⟨k⟩
theorem am136 {P Q : Prop} (k : Q) (h : Hq Q → P := by (intro k_; refine stepI rfl (wpI_storeS _ _ _ rfl hI rfl 0 rfl rfl rfl (by simp [H64.out, setMany_length]) (by kernel_rfl) (by simp [Value.oneCell']) fun w' hI' => hK.out _ _ (hI'.held (by simp)) (fun hHeld => ?_)); revert hHeld; revert hI'; revert w'; exact k_.out)) : P := h ⟨k⟩
theorem am141 {P Q : Prop} (k : Q) (h : Hq Q → P := by (intro k_; refine stepI rfl (wpI_store1 _ _ _ rfl hI rfl 0 rfl rfl rfl (by rw [H64.out]; decide) (by kernel_rfl) fun w' hI' => hK.out _ _ ?_); revert hI'; revert w'; exact k_.out)) : P := h ⟨k⟩
theorem am143 {P Q : Prop} (k : Q) (h : Hq Q → P := by (intro k_; refine stepI rfl (wpI_storeS _ _ _ rfl hI rfl 0 rfl rfl rfl (by simp [H64.out]) (by kernel_rfl) (by simp [Value.oneCell']) fun w' hI' => hK.out _ _ (hI'.held (by simp)) (fun hHeld => ?_)); revert hHeld; revert hI'; revert w'; exact k_.out)) : P := h ⟨k⟩
theorem am144 {P Q : Prop} (k : Q) (h : Hq Q → P := by (intro k_; refine (c_key_ok HP.out b y hy hb8 hyi).mono ?_; rintro ed w1 ⟨rfl, hb1⟩; have hI' := hI.on hb1; revert hI'; revert hb1; revert w1; exact k_.out)) : P := h ⟨k⟩
theorem am148 {P Q : Prop} (k : Q) (h : Hq Q → P := by (intro k_; (refine tk 11 ?_; (try simp only [np, Act.put])); (refine tk 12 ?_; (try simp only [np, Act.put])); (refine tk 13 ?_; (try simp only [np, Act.put])); exact k_.out)) : P := h ⟨k⟩
theorem am149 {P Q : Prop} (k : Q) (h : Hq Q → P := by (intro k_; refine hK.out _ _ (hI'.held (by simp)) (fun hHeld => ?_); revert hHeld; exact k_.out)) : P := h ⟨k⟩
theorem am160 {P Q : Prop} (k : Q) (h : Hq Q → P := by (intro k_; (try clear cF); have cF := hI.facts; (try simp only [mm] at cF); revert cF; exact k_.out)) : P := h ⟨k⟩
theorem am169 {P Q : Prop} (k : Q) (h : Hq Q → P := by (intro k_; refine stepI rfl (wpI_slice1 28 73 _ rfl hI Tryz.underlying28 rfl (size := 12) (by kernel_rfl) rfl fun gl w' hI' hb => hK.out _ _ (hI'.held (by simp)) (fun hHeld => ?_)); (try clear hb); refine am103 ?_; clear hI'; revert hHeld; revert w'; revert gl; exact k_.out)) : P := h ⟨k⟩
theorem am171 {P Q : Prop} (k : Q) (h : Hq Q → P := by (intro k_; refine stepI rfl (wpI_slice1 29 3 _ rfl hI Tryz.underlying29 rfl (size := 1) (by kernel_rfl) rfl fun gl w' hI' hb => hK.out _ _ (hI'.held (by simp)) (fun hHeld => ?_)); (try clear hb); refine am103 ?_; clear hI'; revert hHeld; revert w'; revert gl; exact k_.out)) : P := h ⟨k⟩
theorem am172 {P Q : Prop} (k : Q) (h : Hq Q → P := by (intro k_; refine bodyPost_ret (results_ct rfl rfl hbx Tryz.underlying31 rfl (info_mach h82)) rfl ?_; exact k_.out)) : P := h ⟨k⟩
open Go.RowKit

def Ret (v : Value) (w : World) : Ending → World → Prop := fun e w' => e = .returned v ∧ Below w.heap.size w w'
theorem Ret.mk {v v' : Value} {w w' : World} (h : v' = v) (hb : Below w.heap.size w w') : Ret v w (.returned v') w' := ⟨by rw [h], hb⟩
theorem Ret.int {k : IntKind} {a b : Int} {w w' : World} (h : b = a) (hb : Below w.heap.size w w') : Ret (.int k a) w (.returned (.int k b)) w' := ⟨by rw [h], hb⟩
theorem Ret.bool {a b : Bool} {w w' : World} (h : b = a) (hb : Below w.heap.size w w') : Ret (.bool a) w (.returned (.bool b)) w' := ⟨by rw [h], hb⟩
theorem Ret.out {v : Value} {w w' : World} {e : Ending} (h : Ret v w e w') : e = .returned v ∧ Below w.heap.size w w' := h

theorem eint {k : IntKind} {a b : Int} (h : a = b) : Ending.returned (.int k a) = .returned (.int k b) := by rw [h]
theorem ebool {a b : Bool} (h : a = b) : Ending.returned (.bool a) = .returned (.bool b) := by rw [h]
theorem eint2 {j k : IntKind} {a b c d : Int} (h : a = b) (h' : c = d) : Ending.returned (.tuple #[.int j a, .int k c]) = .returned (.tuple #[.int j b, .int k d]) := by rw [h, h']
theorem bcell {W w1 : World} (hb : Below W.heap.size W w1) : (∀ b o, b < W.heap.size → w1.cell? ⟨b, o, none⟩ = W.cell? ⟨b, o, none⟩) ∧ (∀ b o, b < W.heap.size → w1.frozen? ⟨b, o, none⟩ = W.frozen? ⟨b, o, none⟩) :=
  ⟨fun b o h => hb.cell (p := ⟨b, o, none⟩) h, fun b o h => hb.frozen (p := ⟨b, o, none⟩) h⟩
theorem Ret.use {v : Value} {w w' : World} {e : Ending} (h : Ret v w e w') : e = .returned v ∧ Below w.heap.size w w' ∧ (∀ b o, b < w.heap.size → w'.cell? ⟨b, o, none⟩ = w.cell? ⟨b, o, none⟩) ∧ (∀ b o, b < w.heap.size → w'.frozen? ⟨b, o, none⟩ = w.frozen? ⟨b, o, none⟩) ∧ w.heap.size ≤ w'.heap.size :=
  ⟨h.1, h.2, (bcell h.2).1, (bcell h.2).2, h.2.size⟩

theorem isSome_set (c : Array Value) (i j : Nat) (v : Value) : ((c.setIfInBounds i v)[j]?).isSome = (c[j]?).isSome := by
  rcases Nat.lt_or_ge j c.size with h | h
  · rw [Array.getElem?_eq_getElem (by simpa using h), Array.getElem?_eq_getElem h]; rfl
  · rw [Array.getElem?_eq_none (by simpa using h), Array.getElem?_eq_none h]
@[go_sem] theorem isSome_setCell (w : World) (a b : Addr) (v : Value) : ((w.setCell a v).cell? b).isSome = (w.cell? b).isSome := by
  unfold World.cell? World.setCell
  simp only [Array.getElem?_modify]
  by_cases h : a.block = b.block
  · rw [if_pos h, ← h]
    cases hw : w.heap[a.block]? with
    | none => rfl
    | some o =>
      cases o <;> simp only [Option.map_some]
      split
      · rfl
      · split
        · rfl
        · exact isSome_set _ _ _ _
  · rw [if_neg h]
section
variable {α : Type}
theorem n1 {x : α} {l m : List α} : (x :: l) ++ m = x :: (l ++ m) := rfl
theorem n2 {l : List α} : [] ++ l = l := rfl
theorem n3 {x y : α} {l : List α} : (x :: l).set 0 y = y :: l := rfl
theorem n4 {x y : α} {l : List α} {i : Nat} : (x :: l).set (i + 1) y = x :: l.set i y := rfl
theorem n5 {l : List α} {i : Nat} {x : α} : l.toArray.setIfInBounds i x = (l.set i x).toArray := List.setIfInBounds_toArray ..
theorem n6 {xs : Array α} {i : Nat} {d : α} : xs.getD i d = xs[i]?.getD d := Array.getD_eq_getD_getElem? ..
theorem n7 {l : List α} {i : Nat} : l.toArray[i]? = l[i]? := List.getElem?_toArray ..
theorem n8 {x : α} {l : List α} : (x :: l)[0]? = some x := rfl
theorem n9 {x : α} {l : List α} {i : Nat} : (x :: l)[i + 1]? = l[i]? := rfl
theorem n10 {x d : α} : (some x).getD d = x := rfl
end
theorem bel {n : Nat} {w w' : World} (h : Below n w w' := by (repeat' (first | (with_reducible exact Below.refl _ _) | (with_reducible assumption) | (with_reducible refine Below.alloc ?_ ?_ _) | (with_reducible refine Below.drew ?_) | (with_reducible refine Below.setCell ?_ ?_ _) | (refine Below.trans ?_ (Below.mono (by with_reducible assumption) ?_)) | go_size))) : Below n w w' := h
theorem szl {p : Prop} (h : p := by ((try simp only [World.size_alloc, World.size_setCell, World.size_drew]); omega)) : p := h
theorem np : (∀ (α : Type) (x y : α) (l : List α), (x :: l).set 0 y = y :: l) ∧ (∀ (α : Type) (x y : α) (l : List α) (i : Nat), (x :: l).set (i + 1) y = x :: l.set i y) ∧ (∀ (α : Type) (l : List α) (i : Nat) (x : α), l.toArray.setIfInBounds i x = (l.set i x).toArray) :=
  ⟨fun _ _ _ _ => rfl, fun _ _ _ _ _ => rfl, fun _ _ _ _ => List.setIfInBounds_toArray ..⟩
theorem ws : (∀ (w : World) (o : Obj), (w.alloc o).heap.size = w.heap.size + 1) ∧ (∀ (w : World) (a : Addr) (v : Value), (w.setCell a v).heap.size = w.heap.size) ∧ (∀ w : World, w.drew.heap.size = w.heap.size) :=
  ⟨fun _ _ => World.size_alloc .., fun _ _ _ => World.size_setCell .., fun _ => World.size_drew ..⟩
end Go.Proofs.YthmpnnfejghhfaaGreatDoor
namespace Go.Proofs.YthmpnnfejghhfaaGreatDoor
open Go.RowKit
set_option maxRecDepth 100000

def wr (n : Int) : Int := (n + 2147483648) % 4294967296 - 2147483648
theorem wr_lo (n : Int) : -2147483648 ≤ wr n := by unfold wr; omega
theorem wr_hi (n : Int) : wr n ≤ 2147483647 := by unfold wr; omega
theorem wr_eq {n : Int} (h : -2147483648 ≤ n) (h' : n ≤ 2147483647) : wr n = n := by unfold wr; omega
theorem wrap32_wr (n : Int) : wrap32 n = wr n := by unfold wrap32 wr; rfl
theorem wrap64_wr (n : Int) : wrap64 (wr n) = wr n := by
  have := wr_lo n; have := wr_hi n
  unfold wrap64; omega
theorem wr_wrap64 (n : Int) : wr (wrap64 n) = wr n := by unfold wr wrap64; omega
theorem wrap64_wrap32 (n : Int) : wrap64 (wrap32 n) = wr n := by rw [wrap32_wr, wrap64_wr]
theorem mul_bd (a b m : Int) (h1 : -m ≤ a) (h2 : a ≤ m) (h3 : -m ≤ b) (h4 : b ≤ m) : -(m * m) ≤ a * b ∧ a * b ≤ m * m := by
  have ha : a.natAbs ≤ m.toNat := (by omega); have hb : b.natAbs ≤ m.toNat := (by omega); have h := Nat.mul_le_mul ha hb; have e : (a * b).natAbs = a.natAbs * b.natAbs := Int.natAbs_mul a b
  rw [← e] at h
  have hm : ((m.toNat : Nat) : Int) = m := (by omega); have hh : (((m.toNat * m.toNat : Nat)) : Int) = m * m := (by rw [Int.natCast_mul, hm])
  generalize hx : a * b = x at *
  generalize hy : m * m = y at *
  omega

def inR (n low high : Int) : Bool := decide (low ≤ n) && decide (n ≤ high)
theorem inR_iff {n low high : Int} : inR n low high = true ↔ low ≤ n ∧ n ≤ high := by simp [inR]
theorem inR_not {n low high : Int} : inR n low high = false ↔ n < low ∨ high < n := by
  rw [Bool.eq_false_iff, ne_eq, inR_iff]; omega

def truthOf (b : Bool) : Int := if b then 1 else 0
def dvq (a b : Int) : Int := if wr b = 0 then 0 else wr (Int.tdiv (wr a) (wr b))
def dve (b : Int) : Int := if wr b = 0 then 14 else 0
def calc0 (which a b : Int) : Int := if (which == 0) = true then wr (wr a + wr b) else if (which == 1) = true then wr (wr a - wr b) else if (which == 2) = true then wr (wr a * wr b) else truthOf (decide (wr a < wr b))

theorem c_num_Wrap (n : Int) (w : World) :
    Calls Tryz.prog 47 #[.int .i64 n] w fun e w' => e = .returned (.int .i64 (wr n)) ∧ w = w' := by
  go_enter Tryz.func47, Tryz.ntmps47
  go_wp2
  go_ret
  exact ⟨eint (wrap64_wrap32 n), rfl⟩
theorem c_num_Add (a b : Int) (w : World) :
    Calls Tryz.prog 94 #[.int .i64 a, .int .i64 b] w fun e w' => e = .returned (.int .i64 (wr (wr a + wr b))) ∧ w = w' := by
  have := wr_lo a; have := wr_lo b; have := wr_hi a; have := wr_hi b
  go_enter Tryz.func94, Tryz.ntmps94
  exact az69
theorem c_num_Sub (a b : Int) (w : World) :
    Calls Tryz.prog 95 #[.int .i64 a, .int .i64 b] w fun e w' => e = .returned (.int .i64 (wr (wr a - wr b))) ∧ w = w' := by
  have := wr_lo a; have := wr_lo b; have := wr_hi a; have := wr_hi b
  go_enter Tryz.func95, Tryz.ntmps95
  exact az69
theorem wrap_mul (a b : Int) : wrap64 (wr a * wr b) = wr a * wr b := by
  have h1 := wr_lo a; have h2 := wr_lo b; have h3 := wr_hi a; have h4 := wr_hi b
  have := mul_bd (wr a) (wr b) 2147483648 (by omega) (by omega) (by omega) (by omega)
  unfold wrap64; omega
theorem c_num_Mul (a b : Int) (w : World) :
    Calls Tryz.prog 96 #[.int .i64 a, .int .i64 b] w fun e w' => e = .returned (.int .i64 (wr (wr a * wr b))) ∧ w = w' := by
  have hm := wrap_mul a b
  go_enter Tryz.func96, Tryz.ntmps96
  exact az69
theorem c_num_Less (a b : Int) (w : World) :
    Calls Tryz.prog 97 #[.int .i64 a, .int .i64 b] w fun e w' => e = .returned (.int .i64 (truthOf (decide (wr a < wr b)))) ∧ w = w' := by
  go_enter Tryz.func97, Tryz.ntmps97
  go_wp2_with (go_at_call 47; refine (c_num_Wrap _ _).mono ?_; rintro e w' ⟨rfl, rfl⟩)
  · go_ret
    exact ⟨eint (by simp [truthOf, *]), rfl⟩
  · go_ret
    exact ⟨eint (by simp [truthOf, *]), rfl⟩
theorem c_num_Div (a b : Int) (w : World) :
    Calls Tryz.prog 99 #[.int .i64 a, .int .i64 b] w fun e w' => e = .returned (.tuple #[.int .i64 (dvq a b), .int .i64 (dve b)]) ∧ w = w' := by
  have := wr_lo a; have := wr_lo b; have := wr_hi a; have := wr_hi b
  by_cases hb : wr b = 0
  · have hd : (wr b == 0) = true := (by simp [hb]); have e1 : dvq a b = 0 := (by simp [dvq, hb]); have e2 : dve b = 14 := (by simp [dve, hb]); have H := Lib.hid hb; have H1 := Lib.hid e1; have H2 := Lib.hid e2; clear hb e1 e2
    go_enter Tryz.func99, Tryz.ntmps99
    go_wp2_with (go_at_call 47; refine (c_num_Wrap _ _).mono ?_; rintro e w' ⟨rfl, rfl⟩)
    go_ret2
    exact ⟨eint2 H1.out.symm H2.out.symm, rfl⟩
  · have hd : (wr b == 0) = false := (by simp [hb]); have e1 : wr (Int.tdiv (wr a) (wr b)) = dvq a b := (by simp [dvq, hb]); have e2 : dve b = 0 := (by simp [dve, hb]); have H1 := Lib.hid e1; have H2 := Lib.hid e2; clear e1 e2
    go_enter Tryz.func99, Tryz.ntmps99
    go_wp2_with (go_at_call 47; refine (c_num_Wrap _ _).mono ?_; rintro e w' ⟨rfl, rfl⟩)
    go_ret2
    exact ⟨eint2 ((wr_wrap64 _).trans H1.out) H2.out.symm, rfl⟩
theorem tmod_cases (n m : Int) (hm : 0 < m) : (0 ≤ n ∧ n.tmod m = n % m) ∨ (n < 0 ∧ n.tmod m = -((-n) % m)) := by
  rcases Int.lt_or_le n 0 with h | h
  · refine .inr ⟨h, ?_⟩; have e : n = -(-n) := (by omega)
    conv => lhs; rw [e, Int.neg_tmod]
    rw [Int.tmod_eq_emod_of_nonneg (by omega)]
  · exact .inl ⟨h, Int.tmod_eq_emod_of_nonneg h⟩
theorem r_Rest32 (n : Int) (w : World) :
    Calls Tryz.prog 103 #[.int .i64 n, .int .i64 4294967296] w fun e w' => e = .returned (.int .i64 (n % 4294967296)) ∧ w = w' := by
  have hc := tmod_cases n 4294967296 (by omega)
  by_cases h : n.tmod 4294967296 < 0
  · have e1 : n.tmod 4294967296 + 4294967296 = n % 4294967296 := (by omega); have H1 := Lib.hid e1; have b1 : -4294967296 ≤ n.tmod 4294967296 := (by omega); clear e1 hc
    go_enter Tryz.func103, Tryz.ntmps103
    go_wp2
    go_ret
    exact ⟨eint H1.out, rfl⟩
  · have e1 : n.tmod 4294967296 = n % 4294967296 := (by omega); have H1 := Lib.hid e1; have b1 : 0 ≤ n.tmod 4294967296 := (by omega); have b2 : n.tmod 4294967296 ≤ 4294967296 := (by omega); clear e1 hc
    go_enter Tryz.func103, Tryz.ntmps103
    go_wp2
    go_ret
    exact ⟨eint H1.out, rfl⟩
theorem r_Wrap (n : Int) (w : World) :
    Calls Tryz.prog 86 #[.int .i64 n] w fun e w' => e = .returned (.int .i64 (wr n)) ∧ w = w' := by
  have b1 : 0 ≤ n % 4294967296 := (by omega); have b2 : n % 4294967296 < 4294967296 := (by omega)
  go_enter Tryz.func86, Tryz.ntmps86
  go_wp2_with (go_at_call 103; refine (r_Rest32 _ _).mono ?_; rintro e w' ⟨rfl, rfl⟩)
  all_goals
    go_ret
    exact ⟨eint (by unfold wr; omega), rfl⟩
theorem r_truth (b : Bool) (w : World) :
    Calls Tryz.prog 58 #[.bool b] w fun e w' => e = .returned (.int .i64 (truthOf b)) ∧ w = w' := by
  cases b
  all_goals
    go_enter Tryz.func58, Tryz.ntmps58
    go_wp2
    go_ret
    exact ⟨rfl, rfl⟩
theorem r_outside (n low high : Int) (w : World) :
    Calls Tryz.prog 38 #[.int .i64 n, .int .i64 low, .int .i64 high] w fun e w' => e = .returned (.bool (!(inR n low high))) ∧ w = w' := by
  go_enter Tryz.func38, Tryz.ntmps38
  go_wp2
  all_goals
    go_ret
    exact ⟨ebool (by rw [Bool.eq_iff_iff]; simp [inR] <;> omega), rfl⟩
theorem r_IsNumber (n : Int) (w : World) :
    Calls Tryz.prog 55 #[.int .i64 n] w fun e w' => e = .returned (.bool (inR n (-2147483648) 2147483647)) ∧ w = w' := by
  go_enter Tryz.func55, Tryz.ntmps55
  go_wp2_with (go_at_call 38; (with_reducible refine (r_outside _ _ _ _).mono ?_); rintro e w1 ⟨rfl, rfl⟩)
  all_goals
    go_ret
    exact ⟨ebool (by simp), rfl⟩
theorem r_Calc (a b which : Int) (w : World) :
    Calls Tryz.prog 59 #[.int .i64 a, .int .i64 b, .int .i64 which] w fun e w' => e = .returned (.int .i64 (calc0 which a b)) ∧ w = w' := by
  have b1 := wr_lo a; have b2 := wr_lo b; have b3 := wr_hi a; have b4 := wr_hi b; have hm := mul_bd (wr a) (wr b) 2147483648 (by omega) (by omega) (by omega) (by omega); obtain ⟨m1, m2⟩ := hm; have hw := wrap_mul a b
  go_enter Tryz.func59, Tryz.ntmps59
  go_wp2_with (first | (go_at_call 86; refine (r_Wrap _ _).mono ?_; rintro e w' ⟨rfl, rfl⟩) | (go_at_call 58; refine (r_truth _ _).mono ?_; rintro e w' ⟨rfl, rfl⟩))
  all_goals
    go_ret
    exact ⟨eint (by simp only [calc0, *, if_true, if_false, Bool.false_eq_true]), rfl⟩
theorem tdiv_bd (a b : Int) (h1 : -2147483648 ≤ a) (h2 : a ≤ 2147483647) : -2147483648 ≤ a.tdiv b ∧ a.tdiv b ≤ 2147483648 := by
  have := Int.natAbs_tdiv_le_natAbs a b
  omega
theorem div_nn (a b : Int) (ha : wr a ≤ 0) (hb : wr b < 0) : wr (wrap64 (wrap64 ((wr a).tdiv (wr b)))) = dvq a b := by
  rw [wr_wrap64, wr_wrap64]
  unfold dvq
  rw [if_neg (by omega)]
theorem div_np (a b : Int) (ha : wr a ≤ 0) (hb : 0 < wr b) : wr (wrap64 (-wrap64 (-(wr a).tdiv (wr b)))) = dvq a b := by
  exact az73
theorem div_pn (a b : Int) (ha : 0 ≤ wr a) (hb : wr b < 0) : wr (wrap64 (-wrap64 (-(wr a).tdiv (wr b)))) = dvq a b := by
  exact az73
theorem div_pp (a b : Int) (ha : 0 ≤ wr a) (hb : 0 < wr b) : wr (wrap64 (wr a / wr b)) = dvq a b := by
  rw [wr_wrap64]
  unfold dvq
  rw [if_neg (by omega), Int.tdiv_eq_ediv_of_nonneg ha]
theorem r_Div (a b : Int) (w : World) :
    Calls Tryz.prog 60 #[.int .i64 a, .int .i64 b] w fun e w' => e = .returned (.tuple #[.int .i64 (dvq a b), .int .i64 (dve b)]) ∧ w = w' := by
  have b1 := wr_lo a; have b2 := wr_lo b; have b3 := wr_hi a; have b4 := wr_hi b
  by_cases hb : wr b = 0
  · have hd : (wr b == 0) = true := (by simp [hb]); have H1 := Lib.hid (show dvq a b = 0 by simp [dvq, hb]); have H2 := Lib.hid (show dve b = 14 by simp [dve, hb]); clear hb
    go_enter Tryz.func60, Tryz.ntmps60
    go_wp2_with (go_at_call 86; refine (r_Wrap _ _).mono ?_; rintro e w' ⟨rfl, rfl⟩)
    go_ret2
    exact ⟨eint2 H1.out.symm H2.out.symm, rfl⟩
  · have hd : (wr b == 0) = false := (by simp [hb]); have H2 := Lib.hid (show dve b = 0 by simp [dve, hb])
    rcases Int.lt_or_le (wr a) 0 with ha | ha
    · have da : decide (wr a < 0) = true := (by simpa using ha)
      rcases Int.lt_or_le (wr b) 0 with hs | hs
      · have db : decide (wr b < 0) = true := (by simpa using hs); have H1 := Lib.hid (div_nn a b (by omega) (by omega))
        exact az49
      · have db : decide (wr b < 0) = false := (by simpa using hs); have H1 := Lib.hid (div_np a b (by omega) (by omega))
        exact az49
    · have da : decide (wr a < 0) = false := (by simpa using ha)
      rcases Int.lt_or_le (wr b) 0 with hs | hs
      · have db : decide (wr b < 0) = true := (by simpa using hs); have H1 := Lib.hid (div_pn a b (by omega) (by omega))
        exact az49
      · have db : decide (wr b < 0) = false := (by simpa using hs); have H1 := Lib.hid (div_pp a b (by omega) (by omega))
        exact az49
end Go.Proofs.YthmpnnfejghhfaaGreatDoor
namespace Go.Proofs.YthmpnnfejghhfaaGreatDoor
open Go.RowKit
set_option maxRecDepth 100000

theorem ofInt_bit (x : Int) (k : Nat) (hk : k < 64) : (BitVec.ofInt 64 x).getLsbD k = decide (x / 2 ^ k % 2 = 1) := by
  have e : (BitVec.ofInt 64 x).getLsbD k = (BitVec.ofInt 64 x).toNat.testBit k := rfl
  rw [e, Nat.testBit_eq_decide_div_mod_eq, BitVec.toNat_ofInt]
  have hp : (0 : Int) < 2 ^ k := Int.pow_pos (by decide); have h0 : (0 : Int) ≤ x % ((2 ^ 64 : Nat) : Int) := Int.emod_nonneg _ (by decide); have hx : x % ((2 ^ 64 : Nat) : Int) = ((x % ((2 ^ 64 : Nat) : Int)).toNat : Int) := (Int.toNat_of_nonneg h0).symm
  have h64 : ((2 ^ 64 : Nat) : Int) = 2 ^ k * (2 * 2 ^ (63 - k)) := by
    have : (2 : Int) ^ 64 = 2 ^ (k + (1 + (63 - k))) := by rw [show k + (1 + (63 - k)) = 64 by omega]
    rw [Int.natCast_pow, show ((2 : Nat) : Int) = 2 from rfl, this, Int.pow_add, Int.pow_add]
    rfl
  have hd : x / 2 ^ k = (x % ((2 ^ 64 : Nat) : Int)) / 2 ^ k + (2 * 2 ^ (63 - k)) * (x / ((2 ^ 64 : Nat) : Int)) := by
    have h := Int.mul_ediv_add_emod x ((2 ^ 64 : Nat) : Int)
    conv => lhs; rw [← h]
    generalize x % ((2 ^ 64 : Nat) : Int) = r
    generalize x / ((2 ^ 64 : Nat) : Int) = q
    rw [h64, Int.mul_assoc, Int.add_comm, Int.add_mul_ediv_left _ _ (by omega)]
  have hc : (((x % ((2 ^ 64 : Nat) : Int)).toNat / 2 ^ k % 2 : Nat) : Int) = x / 2 ^ k % 2 := by
    rw [Int.natCast_emod, Int.natCast_ediv, ← hx, Int.natCast_pow (2) k, hd, show ((2 : Nat) : Int) = 2 from rfl, Int.mul_assoc, Int.add_mul_emod_self_left]
  rw [decide_eq_decide]
  omega

theorem wrap64_zero (n : Nat) (h : n < 18446744073709551616) : wrap64 (n : Int) = 0 ↔ n = 0 := by unfold wrap64; omega

def subB (a b : Int) : Bool := bits .andNot .i64 a b == 0
theorem subB_iff (a b : Int) : subB a b = true ↔ ∀ k : Nat, k < 64 → a / 2 ^ k % 2 = 1 → b / 2 ^ k % 2 = 1 := by
  have e : bits .andNot .i64 a b = wrap64 ((BitVec.ofInt 64 a &&& ~~~BitVec.ofInt 64 b).toNat : Int) := by
    unfold bits; exact IntWalk.i64_left _
  unfold subB
  rw [beq_iff_eq, e, wrap64_zero _ (by have := (BitVec.ofInt 64 a &&& ~~~BitVec.ofInt 64 b).isLt; omega)]
  constructor
  · intro h k hk ha; have hz : (BitVec.ofInt 64 a &&& ~~~BitVec.ofInt 64 b) = 0 := BitVec.eq_of_toNat_eq h; have hb := congrArg (fun v => v.getLsbD k) hz; simp only [BitVec.getLsbD_and, BitVec.getLsbD_not, ofInt_bit _ _ hk, hk, decide_true, Bool.true_and, ha] at hb; have hb' : (!decide (b / 2 ^ k % 2 = 1)) = false := (by simpa using hb)
    simpa using hb'
  · intro h
    have hz : (BitVec.ofInt 64 a &&& ~~~BitVec.ofInt 64 b) = 0 := by
      refine BitVec.eq_of_getLsbD_eq fun k hk => ?_; simp only [BitVec.getLsbD_and, BitVec.getLsbD_not, ofInt_bit _ _ hk, hk, decide_true, Bool.true_and]
      by_cases ha : a / 2 ^ k % 2 = 1
      · simp [ha, h k hk ha]
      · simp [ha]
    rw [hz]; rfl

theorem and_one (x : Int) : bits .and .i64 x 1 = x % 2 := by
  have e : bits .and .i64 x 1 = wrap64 ((BitVec.ofInt 64 x &&& BitVec.ofInt 64 1).toNat : Int) := by
    unfold bits; exact IntWalk.i64_left _
  rw [e, BitVec.toNat_and, show (BitVec.ofInt 64 1).toNat = 1 from rfl, Nat.and_one_is_mod]
  have h0 := ofInt_bit x 0 (by omega); have e0 : (BitVec.ofInt 64 x).getLsbD 0 = (BitVec.ofInt 64 x).toNat.testBit 0 := rfl
  rw [e0, Nat.testBit_eq_decide_div_mod_eq, decide_eq_decide] at h0
  simp only [Nat.pow_zero, Nat.div_one, Int.pow_zero, Int.ediv_one] at h0; unfold wrap64
  omega

def SubTo (a b : Int) (k : Nat) : Prop := ∀ j : Nat, j < k → a / 2 ^ j % 2 = 1 → b / 2 ^ j % 2 = 1
theorem SubTo.zero (a b : Int) : SubTo a b 0 := fun _ h => by omega
theorem SubTo.next {a b : Int} {k : Nat} (h : SubTo a b k) (h1 : a / 2 ^ k % 2 = 1 → b / 2 ^ k % 2 = 1) : SubTo a b (k + 1) := fun j hj => by
  rcases Nat.lt_or_ge j k with hl | hl
  · exact h j hl
  · obtain rfl : j = k := by omega
    exact h1
theorem r_Within (a b : Int) (w : World) :
    Calls Tryz.prog 84 #[.int .i64 a, .int .i64 b] w fun e w' => e = .returned (.bool (subB a b)) ∧ w = w' := by
  have ho := and_one
  go_enter Tryz.func84, Tryz.ntmps84
  go_wp2
  go_loop [6] (fun i => ∃ k : Nat, k ≤ 64 ∧ SubTo a b k ∧ i = .int .i64 k) (fun i => 64 - (intOf i).toNat)
  case atStart => exact ⟨0, by omega, SubTo.zero a b, rfl⟩
  case round =>
    obtain ⟨k, hk, hs, rfl⟩ := hrel
    have HS := Lib.hid hs; clear hs
    by_cases hlt : k < 64
    · by_cases ha : a / 2 ^ k % 2 = 1
      · have ha' : (a / 2 ^ k % 2 == 1) = true := (by simp [ha]); have HA := Lib.hid ha; clear ha
        by_cases hb : b / 2 ^ k % 2 = 1
        · have hb' : (b / 2 ^ k % 2 == 0) = false := (by simp [hb]); have HB := Lib.hid hb; clear hb
          go_wp2
          go_round
          case rel => exact ⟨k + 1, by omega, HS.out.next fun _ => HB.out, by go_num⟩
          case measure => simp [intOf]; omega
        · have hb' : (b / 2 ^ k % 2 == 0) = true := by simp; omega
          have hf : subB a b = false := by
            rw [Bool.eq_false_iff]; intro h
            exact hb ((subB_iff a b).1 h k hlt HA.out)
          have HF := Lib.hid hf; clear hf hb
          go_wp2
          go_ret
          exact ⟨ebool HF.out.symm, rfl⟩
      · have ha' : (a / 2 ^ k % 2 == 1) = false := (by simpa using ha); have HA := Lib.hid ha; clear ha
        go_wp2
        go_round
        case rel => exact ⟨k + 1, by omega, HS.out.next fun h => absurd h HA.out, by go_num⟩
        case measure => simp [intOf]; omega
    · obtain rfl : k = 64 := by omega
      have HF := Lib.hid ((subB_iff a b).2 HS.out)
      go_wp2
      go_ret
      exact ⟨ebool HF.out.symm, rfl⟩
end Go.Proofs.YthmpnnfejghhfaaGreatDoor
namespace Go.Proofs.YthmpnnfejghhfaaGreatDoor
open Go.RowKit
set_option maxRecDepth 100000

structure Key where
  (perm base len pos tag : Int)
theorem Key.ext_iff' {a b : Key} : (a.perm = b.perm ∧ a.base = b.base ∧ a.len = b.len ∧ a.pos = b.pos ∧ a.tag = b.tag) ↔ a = b := by
  constructor
  · rintro ⟨h1, h2, h3, h4, h5⟩
    cases a; cases b; simp_all
  · rintro rfl; exact ⟨rfl, rfl, rfl, rfl, rfl⟩
instance : DecidableEq Key := fun a b => decidable_of_iff (a.perm = b.perm ∧ a.base = b.base ∧ a.len = b.len ∧ a.pos = b.pos ∧ a.tag = b.tag) Key.ext_iff'
structure Val where
  is : Bool
  n : Int
  key : Key
theorem Val.ext_iff' {a b : Val} : (a.is = b.is ∧ a.n = b.n ∧ a.key = b.key) ↔ a = b := by
  constructor
  · rintro ⟨h1, h2, h3⟩
    cases a; cases b; simp_all
  · rintro rfl; exact ⟨rfl, rfl, rfl⟩
instance : DecidableEq Val := fun a b => decidable_of_iff (a.is = b.is ∧ a.n = b.n ∧ a.key = b.key) Val.ext_iff'

def i64 (n : Int) : Prop := -9223372036854775808 ≤ n ∧ n ≤ 9223372036854775807
structure Key.Wf (k : Key) : Prop where
  perm : i64 k.perm
  base : i64 k.base
  len : i64 k.len
  pos : i64 k.pos
  tag : i64 k.tag
structure Val.Wf (v : Val) : Prop where
  n : i64 v.n
  key : v.key.Wf
def Key.zero : Key := ⟨0, 0, 0, 0, 0⟩

def keyOk (k : Key) : Bool := inR k.base 0 400 && inR k.len 0 (400 - k.base) && inR k.perm 0 127 && inR k.pos 0 400 && inR k.tag 0 63
def keyE (k : Key) : Int := if keyOk k = true then 0 else 1
theorem keyOk_iff {k : Key} : keyOk k = true ↔ (0 ≤ k.base ∧ k.base ≤ 400) ∧ (0 ≤ k.len ∧ k.len ≤ 400 - k.base) ∧ (0 ≤ k.perm ∧ k.perm ≤ 127) ∧ (0 ≤ k.pos ∧ k.pos ≤ 400) ∧ (0 ≤ k.tag ∧ k.tag ≤ 63) := by
  simp only [keyOk, Bool.and_eq_true, inR_iff, and_assoc]
theorem keyE_ok {k : Key} (h : keyOk k = true) : keyE k = 0 := by simp [keyE, h]
theorem keyE_no {k : Key} (h : keyOk k = false) : keyE k = 1 := by simp [keyE, h]
def cov (k : Key) (i : Int) : Bool := decide (k.base ≤ i) && decide (i - k.base < k.len)
theorem cov_iff {k : Key} {i : Int} : cov k i = true ↔ k.base ≤ i ∧ i - k.base < k.len := by simp [cov]


def plainE (k : Key) : Int := if keyOk k = true then (if (k.tag == 0) = true then 0 else 11) else 1
theorem plainE_zero {k : Key} : plainE k = 0 ↔ keyOk k = true ∧ k.tag = 0 := by
  unfold plainE
  cases h : keyOk k <;> by_cases ht : k.tag = 0 <;> simp [ht]
def keyMove (k : Key) (n : Int) : Key × Int :=
  if plainE k = 0 then (if inR n (-k.pos) (400 - k.pos) = true then ({ k with pos := k.pos + n }, 0) else (Key.zero, 13)) else (Key.zero, plainE k)
def keyNarrow (k : Key) (n : Int) : Key × Int :=
  if plainE k = 0 then (if k.base ≤ k.pos ∧ inR n 0 (k.base + k.len - k.pos) = true then ({ k with base := k.pos, len := n }, 0) else (Key.zero, 13)) else (Key.zero, plainE k)
def keyDrop (k : Key) (p : Int) : Key × Int :=
  if plainE k = 0 then ({ k with perm := bits .and .i64 k.perm p }, 0) else (Key.zero, plainE k)
def hasP (p x : Int) : Bool := !(bits .and .i64 x p == 0)
def mayE (k : Key) (p : Int) : Int := if (k.tag == 0) = true then (if hasP p k.perm = true then (if cov k k.pos = true then 0 else 13) else 12) else 11
def bothE (k by_ : Key) : Int := if keyOk k = true then keyE by_ else 1
def keySeal (k by_ : Key) : Key × Int :=
  if bothE k by_ = 0 then (if plainE k = 0 then (if mayE by_ 32 = 0 then (if inR by_.pos 1 63 = true then ({ k with tag := by_.pos }, 0) else (Key.zero, 13)) else (Key.zero, mayE by_ 32)) else (Key.zero, plainE k)) else (Key.zero, bothE k by_)
def keyOpen (k by_ : Key) : Key × Int :=
  if bothE k by_ = 0 then (if k.tag = 0 then (Key.zero, 11) else (if mayE by_ 64 = 0 then (if k.tag = by_.pos then ({ k with tag := 0 }, 0) else (Key.zero, 11)) else (Key.zero, mayE by_ 64))) else (Key.zero, bothE k by_)
def under (a b : Key) : Bool := (decide (a.len ≤ 0) || (cov b a.base && cov b (a.base + a.len - 1))) && (subB a.perm b.perm && (a.tag == b.tag || b.tag == 0))

theorem and_pow (x : Int) (j : Nat) (hj : j < 63) : bits .and .i64 x (2 ^ j) = (x / 2 ^ j % 2) * 2 ^ j := by
  have e : bits .and .i64 x (2 ^ j) = wrap64 ((BitVec.ofInt 64 x &&& BitVec.ofInt 64 (2 ^ j)).toNat : Int) := by
    unfold bits; exact IntWalk.i64_left _
  have hp : (BitVec.ofInt 64 ((2 : Int) ^ j)).toNat = 2 ^ j := by
    have : ((2 : Int) ^ j) = ((2 ^ j : Nat) : Int) := by simp
    rw [this, BitVec.ofInt_natCast, BitVec.toNat_ofNat]
    exact Nat.mod_eq_of_lt (Nat.pow_lt_pow_of_lt (by decide) (by omega))
  rw [e, BitVec.toNat_and, hp, nat_bit]
  have h0 := ofInt_bit x j (by omega); have e0 : (BitVec.ofInt 64 x).getLsbD j = (BitVec.ofInt 64 x).toNat.testBit j := rfl
  rw [e0, Nat.testBit_eq_decide_div_mod_eq, decide_eq_decide] at h0
  have hb : 2 ^ j ≤ 2 ^ 62 := Nat.pow_le_pow_right (by decide) (by omega); have hx : x / 2 ^ j % 2 = 0 ∨ x / 2 ^ j % 2 = 1 := (by omega); have hn : (BitVec.ofInt 64 x).toNat / 2 ^ j % 2 = 0 ∨ (BitVec.ofInt 64 x).toNat / 2 ^ j % 2 = 1 := (by omega)
  rcases hn with hn | hn
  · have : x / 2 ^ j % 2 = 0 := by omega
    rw [hn, this]; simp; unfold wrap64; rfl
  · have h1 := h0.1 hn
    rw [hn, h1, Nat.one_mul, Int.one_mul]
    have : (((2 ^ j : Nat)) : Int) = (2 : Int) ^ j := by simp
    rw [← this]
    unfold wrap64
    omega
theorem hasP_pow (x : Int) (j : Nat) (hj : j < 63) : hasP (2 ^ j) x = decide (x / 2 ^ j % 2 = 1) := by
  unfold hasP
  rw [and_pow x j hj]
  have hp : (0 : Int) < 2 ^ j := Int.pow_pos (by decide); have hx : x / 2 ^ j % 2 = 0 ∨ x / 2 ^ j % 2 = 1 := (by omega)
  rcases hx with h | h
  · rw [h]; simp
  · rw [h]; simp; omega
theorem two_pow_div (j k : Nat) : (2 : Int) ^ j / 2 ^ k % 2 = 1 ↔ j = k := by
  rcases Nat.lt_trichotomy j k with h | h | h
  · have : (2 : Int) ^ j / 2 ^ k = 0 := Int.ediv_eq_zero_of_lt (Int.le_of_lt (Int.pow_pos (by decide))) (Int.pow_lt_pow_of_lt (by decide) h)
    rw [this]; omega
  · subst h
    rw [Int.ediv_self (by have : (0 : Int) < 2 ^ j := Int.pow_pos (by decide); omega)]; simp
  · have e : (2 : Int) ^ j = 2 ^ k * (2 * 2 ^ (j - k - 1)) := by
      rw [← Int.mul_assoc, ← Int.pow_succ, ← Int.pow_add, show k + 1 + (j - k - 1) = j by omega]
    rw [e, Int.mul_ediv_cancel_left _ (by have : (0 : Int) < 2 ^ k := Int.pow_pos (by decide); omega)]
    omega
theorem subB_pow (x : Int) (j : Nat) (hj : j < 63) : subB (2 ^ j) x = hasP (2 ^ j) x := by
  rw [hasP_pow x j hj, Bool.eq_iff_iff, subB_iff, decide_eq_true_iff]
  constructor
  · intro h; exact h j (by omega) ((two_pow_div j j).2 rfl)
  · intro h k hk h2
    rw [two_pow_div] at h2
    subst h2; exact h
theorem Ret.key {p q : Key × Int} {w w' : World} (h : q = p) (hb : Below w.heap.size w w') :
    Ret (.tuple #[.agg #[.int .i64 p.1.perm, .int .i64 p.1.base, .int .i64 p.1.len, .int .i64 p.1.pos, .int .i64 p.1.tag], .int .i64 p.2]) w (.returned (.tuple #[.agg #[.int .i64 q.1.perm, .int .i64 q.1.base, .int .i64 q.1.len, .int .i64 q.1.pos, .int .i64 q.1.tag], .int .i64 q.2])) w' := by subst h; exact ⟨rfl, hb⟩
end Go.Proofs.YthmpnnfejghhfaaGreatDoor
namespace Go.Proofs.YthmpnnfejghhfaaGreatDoor
open Go.RowKit
set_option maxRecDepth 100000

/-! A region that draws its order, in a class of worlds: the caller's own blocks are as they were, and what was there before the call. -/
section
variable {P : Program} {ops : Array Oper} {C : World → Prop} {a : Act} {o : Oper} {K : Act → Prop}
theorem quiet_run {v : Value} (h : ∀ w, C w → (execOp a.eval o).run P w = .ok (.value v) w) (hk : K (a.put o.dst v)) : o.quiet P a C K :=
  ⟨v, fun w hw => by unfold Oper.quietAt; rw [h w hw]; exact ⟨rfl, rfl⟩, hk⟩
theorem quiet_call {v : Value} {f : FuncId} {args : Array Value} (h : ∀ w, (execOp a.eval o).run P w = .ok (.enter f args) w)
    (hc : ∀ w, C w → Calls P f args w (fun e w1 => e = .returned v ∧ C w1)) (hk : K (a.put o.dst v)) : o.quiet P a C K :=
  ⟨v, fun w hw => by unfold Oper.quietAt; rw [h w]; exact ⟨rfl, hc w hw⟩, hk⟩
end

structure Kept (w : World) (bs : List (Array Value)) (W : World) : Prop where
  below : Below w.heap.size w W
  size : w.heap.size + bs.length ≤ W.heap.size
  cell : ∀ i cs, bs[i]? = some cs → ∀ o, W.cell? ⟨w.heap.size + i, o, none⟩ = cs[o]?
  frozen : ∀ i cs, bs[i]? = some cs → ∀ o, W.frozen? ⟨w.heap.size + i, o, none⟩ = false
theorem Kept.ret {w W w1 : World} {bs : List (Array Value)} {v : Value} {e : Ending} (h : Kept w bs W) (hr : Ret v W e w1) : e = .returned v ∧ Kept w bs w1 := by
  obtain ⟨he, hb, hc, hf, hz⟩ := hr.use; have hs := h.size
  have hl : ∀ i cs, bs[i]? = some cs → w.heap.size + i < W.heap.size := fun i cs hi => by
    have := (List.getElem?_eq_some_iff.1 hi).1
    omega
  exact ⟨he, h.below.trans (hb.mono (by omega)), by omega, fun i cs hi o => (hc _ o (hl i cs hi)).trans (h.cell i cs hi o), fun i cs hi o => (hf _ o (hl i cs hi)).trans (h.frozen i cs hi o)⟩
theorem Kept.same {w W : World} {bs : List (Array Value)} {v : Value} {e : Ending} {w1 : World} (h : Kept w bs W) (hr : e = .returned v ∧ W = w1) : e = .returned v ∧ Kept w bs w1 := by
  obtain ⟨he, rfl⟩ := hr
  exact ⟨he, h⟩
theorem Kept.drew {w W : World} {bs : List (Array Value)} (h : Kept w bs W) : Kept w bs W.drew := ⟨h.below.drew, h.size, h.cell, h.frozen⟩
theorem wp_region_kept {P : Program} {id : Nat} {Q : Exit → Act → World → Prop} {a : Act} {w w0 : World} {bs : List (Array Value)} {l : List Oper} (hm : P.follows .mixedOrders = true) (hB : Region.lexB .any l.toArray = true) (hC : Kept w0 bs w)
    (h : wpQuiet P l.toArray (Kept w0 bs) (fun a' => ∀ w', Kept w0 bs w' → Q .normal a' w') l a) : (Code.region id l.toArray true).wp P Q a w :=
  wp_region_quiet (C := Kept w0 bs) hm hB hC.drew (by simpa using h)
theorem Kept.mk1 {w W : World} {c : Array Value} (hb : Below w.heap.size w W) (hs : w.heap.size + 1 ≤ W.heap.size) (c0 : ∀ o, W.cell? ⟨w.heap.size, o, none⟩ = c[o]?) (f0 : ∀ o, W.frozen? ⟨w.heap.size, o, none⟩ = false) : Kept w [c] W :=
  ⟨hb, hs, fun i cs h => by
    match i, h with
    | 0, h => cases h; exact c0, fun i cs h => by
    match i, h with
    | 0, h => cases h; exact f0⟩
end Go.Proofs.YthmpnnfejghhfaaGreatDoor
namespace Go.Proofs.YthmpnnfejghhfaaGreatDoor
open Go.RowKit
set_option maxRecDepth 100000

theorem c_keys_within (n low high : Int) (w : World) :
    Calls Tryz.prog 74 #[.int .i64 n, .int .i64 low, .int .i64 high] w fun e w' => e = .returned (.bool (inR n low high)) ∧ w = w' := by
  rcases Int.lt_or_le n low with h | h
  · go_enter Tryz.func74, Tryz.ntmps74
    go_wp2
    go_ret
    exact ⟨ebool (by simp only [inR]; rw [decide_eq_false (by omega)]; rfl), rfl⟩
  · go_enter Tryz.func74, Tryz.ntmps74
    go_wp2
    go_ret
    exact ⟨ebool (by simp only [inR]; rw [decide_eq_true h]; rfl), rfl⟩
theorem c_keys_Check (k : Key) (w : World) :
    Calls Tryz.prog 45 #[.agg #[.int .i64 k.perm, .int .i64 k.base, .int .i64 k.len, .int .i64 k.pos, .int .i64 k.tag]] w (Ret (.int .i64 (keyE k)) w) := by
  by_cases hb : inR k.base 0 400 = true
  · obtain ⟨b1, b2⟩ := inR_iff.1 hb
    exact az74
  · have hb' : inR k.base 0 400 = false := (by simpa using hb); clear hb
    exact az74
theorem r_KeyCheck (k : Key) (hk : k.Wf) (w : World) :
    Calls Tryz.prog 83 #[.agg #[.int .i64 k.perm, .int .i64 k.base, .int .i64 k.len, .int .i64 k.pos, .int .i64 k.tag]] w (Ret (.int .i64 (keyE k)) w) := by
  obtain ⟨⟨p1, p2⟩, ⟨b1, b2⟩, ⟨l1, l2⟩, ⟨a1, a2⟩, ⟨t1, t2⟩⟩ := hk
  by_cases hb : (0 ≤ k.base ∧ k.base ≤ 400) ∧ 0 ≤ k.len ∧ k.len ≤ 400
  · obtain ⟨⟨c1, c2⟩, c3, c4⟩ := hb; have h1 := inR_iff.2 ⟨c1, c2⟩; have h2 := inR_iff.2 ⟨c3, c4⟩
    go_enter Tryz.func83, Tryz.ntmps83
    go_wp2_with (go_at_call 38; (with_reducible refine (r_outside _ _ _ _).mono ?_); rintro e w1 ⟨rfl, rfl⟩)
    all_goals
      go_returns
      refine Ret.int ?_ bel
      simp only [Bool.not_eq_true', Bool.not_eq_false', Bool.not_eq_true, Bool.not_eq_false, Bool.not_not, Bool.and_eq_true, Bool.or_eq_true, Bool.and_eq_false_iff, Bool.or_eq_false_iff, inR_iff, inR_not, decide_eq_true_eq, decide_eq_false_iff_not, beq_iff_eq, bne_iff_ne, beq_eq_false_iff_ne, bne_eq_false_iff_eq, ne_eq] at *
      first
        | (refine (keyE_ok ?_).symm; rw [keyOk_iff]; omega)
        | (refine (keyE_no ?_).symm; rw [Bool.eq_false_iff]; intro h; rw [keyOk_iff] at h; omega)
  · have HB := Lib.hid hb; clear hb
    go_enter Tryz.func83, Tryz.ntmps83
    go_wp2_with (go_at_call 38; (with_reducible refine (r_outside _ _ _ _).mono ?_); rintro e w1 ⟨rfl, rfl⟩)
    all_goals
      go_returns
      refine Ret.int ?_ bel; have hb := HB.out
      simp only [Bool.not_eq_true', Bool.not_eq_false', Bool.not_eq_true, Bool.not_eq_false, Bool.not_not, Bool.and_eq_true, Bool.or_eq_true, Bool.and_eq_false_iff, Bool.or_eq_false_iff, inR_iff, inR_not, decide_eq_true_eq, decide_eq_false_iff_not, beq_iff_eq, bne_iff_ne, beq_eq_false_iff_ne, bne_eq_false_iff_eq, ne_eq] at *
      first
        | (refine (keyE_no ?_).symm; rw [Bool.eq_false_iff]; intro h; rw [keyOk_iff] at h; omega)
        | (exfalso; omega)
theorem u64_sub (a b : Int) (ha : i64 a) (hb : i64 b) (h : b ≤ a) : IntKind.u64.wrap (IntKind.u64.wrap a - IntKind.u64.wrap b) = a - b := by
  obtain ⟨a1, a2⟩ := ha; obtain ⟨b1, b2⟩ := hb
  simp only [IntKind.wrap_u64]; omega
theorem u64_in (a : Int) (h0 : 0 ≤ a) (ha : i64 a) : IntKind.u64.wrap a = a := by
  obtain ⟨a1, a2⟩ := ha
  simp only [IntKind.wrap_u64]; omega
theorem c_keys_Covers (k : Key) (i : Int) (hk : k.Wf) (hi : i64 i) (w : World) :
    Calls Tryz.prog 89 #[.agg #[.int .i64 k.perm, .int .i64 k.base, .int .i64 k.len, .int .i64 k.pos, .int .i64 k.tag], .int .i64 i] w (Ret (.bool (cov k i)) w) := by
  rcases Int.lt_or_le i k.base with h | h
  · have H := Lib.hid (show cov k i = false by simp [cov]; omega)
    go_enter Tryz.func89, Tryz.ntmps89
    go_wp2
    go_returns
    exact Ret.bool H.out.symm bel
  · have e1 := u64_sub i k.base hi hk.base h
    rcases Int.lt_or_le k.len 0 with hl | hl
    · have H := Lib.hid (show cov k i = false by simp [cov]; omega); have e2 : IntKind.u64.wrap 0 = 0 := (by decide)
      have e3 : decide (i - k.base < 0) = false := by simp; omega
      go_enter Tryz.func89, Tryz.ntmps89
      go_wp2
      go_returns
      exact Ret.bool H.out.symm bel
    · have H := Lib.hid (show decide (i - k.base < k.len) = cov k i by simp [cov]; omega); have e2 := u64_in k.len hl hk.len
      go_enter Tryz.func89, Tryz.ntmps89
      go_wp2
      go_returns
      exact Ret.bool H.out bel
theorem r_Covers (k : Key) (i : Int) (hk : k.Wf) (hi : i64 i) (w : World) :
    Calls Tryz.prog 85 #[.agg #[.int .i64 k.perm, .int .i64 k.base, .int .i64 k.len, .int .i64 k.pos, .int .i64 k.tag], .int .i64 i] w (Ret (.bool (cov k i)) w) := by
  rcases Int.lt_or_le 0 k.len with hl | hl
  · rcases Int.lt_or_le i k.base with h | h
    · exact az89
    · have e1 := u64_sub i k.base hi hk.base h; have H := Lib.hid (show decide (i - k.base < k.len) = cov k i by simp [cov]; omega); have e2 := u64_in k.len (by omega) hk.len
      go_enter Tryz.func85, Tryz.ntmps85
      go_wp2
      go_returns
      exact Ret.bool H.out bel
  · exact az89
end Go.Proofs.YthmpnnfejghhfaaGreatDoor
