/- What the parts say: What Go's tables hold, and numerals: strconv.Itoa and the reference's Digits tell a number alike. Conditions: Go's table of powers holds what it was laid with. -/
import Derived.Test.YtbkjhdohkdeniaaGreatDoorP21
import Derived.Test.YtbkjhdohkdeniaaGreatDoorP15
import Derived.Test.YtbkjhdohkdeniaaGreatDoorP14
import Derived.Lib.SmallJoins
import Derived.Lib.AppendIntMem
import Derived.Test.YtbkjhdohkdeniaaGreatDoorP22
set_option linter.unusedVariables false
set_option linter.unusedSimpArgs false
namespace Go.Proofs.YtbkjhdohkdeniaaGreatDoor
open Go.RowKit
set_option maxRecDepth 100000
structure EnvT (w : World) : Prop where
  env : Env w
  pow : Lib.TabIs Tryz.prog w "internal/strconv.uint64pow10" .u64 Lib.pow10Tab
theorem gPow : Tryz.prog.globalNamed "internal/strconv.uint64pow10" = some 7 := by kernel_rfl
theorem EnvT.below {w w' : World} (h : EnvT w) (hb : Below w.heap.size w w') : EnvT w' := ⟨h.env.below hb, Go.Joins.tab_stays gPow h.pow hb (Nat.le_refl _)⟩
theorem EnvT.inv {w w' : World} {rs : List Res} (h : EnvT w) (hI : Inv w rs w') : EnvT w' := h.below hI.below
theorem i64_of {n : Int} (h : i64 n) : -9223372036854775808 ≤ n ∧ n ≤ 9223372036854775807 := h
theorem c_Itoa (n : Int) (hn : i64 n) (w : World) (hE : EnvT w) : Calls Tryz.prog 106 #[.int .i64 n] w (Ret (.string (str (Lib.itoa n))) w) := by
  refine (Tryz.strconv_Itoa n (i64_of hn).1 (i64_of hn).2 w hE.pow).mono ?_
  rintro e w' ⟨rfl, k, os, rfl⟩
  exact ⟨rfl, Lib.below_grow _ w (Nat.le_refl _) k os⟩
theorem c_JoinBox {w0 w : World} {rs : List Res} (hI : Inv w0 rs w) (n : Nat) {gp : Nat} {cs : Array Value} {t : TypeId} (hi : rs[n]? = some (.box gp t cs)) (xs : List ByteArray) (hx : ∀ (k : Nat) x, xs[k]? = some x → cs[k]? = some (.string x)) (b : UInt8) (out : List UInt8) (ho : Lib.join (xs.map (·.data.toList)) [b] = out) (hl : out.length ≤ 1000000) (hN : xs.length ≤ 100000) (m c : Nat) (hm : m = xs.length) (hc : m ≤ c) :
    Calls Tryz.prog 85 #[.slice (some ⟨gp, 0, none⟩) m c, .string ⟨#[b]⟩] w (Ret (.string (str out)) w) := by
  subst hm ho
  refine (Tryz.strings_Join gp 0 c xs ⟨#[b]⟩ w (fun k x h => by rw [Nat.zero_add]; exact (hI.cell hi k).trans (hx k x h)) (hI.lt hi rfl) (by omega) hc (by show (Lib.join _ [b]).length ≤ _; omega)).mono ?_
  rintro e w' ⟨rfl, hb⟩
  exact ⟨rfl, hb⟩
end Go.Proofs.YtbkjhdohkdeniaaGreatDoor
namespace Go.Proofs.YtbkjhdohkdeniaaGreatDoor
open Go.RowKit
set_option maxRecDepth 100000
theorem InvT.rowCapT {T : Nat → Prop} {w0 w : World} {rs : List Res} (h : InvT T w0 rs w) {i n k cap size : Nat} {A : Option Addr} {e : TypeId} {us : List Value} (hi : rs[i]? = some (.row e size (.slice A k cap) n us)) : n ≤ cap ∧ cap ≤ maxLen := by
  rcases (h.ok i _ hi).2 with ⟨hv, h0⟩ | ⟨g, c, cur, hv, h1, h2, h3, h4, h5, h6⟩
  · cases hv; subst h0; exact ⟨Nat.le_refl _, by unfold maxLen; omega⟩
  · cases hv; exact ⟨h3, h4⟩
end Go.Proofs.YtbkjhdohkdeniaaGreatDoor
namespace Go.Proofs.YtbkjhdohkdeniaaGreatDoor
open Go.RowKit
set_option maxRecDepth 100000
def addT (n : Int) (has isReg : Bool) : List UInt8 := if has = true then (if isReg = true then [32, 114] ++ Lib.itoa n else [32] ++ Lib.itoa n) else []
theorem itoa_len {n : Int} (h : i64 n) : (Lib.itoa n).length ≤ 21 := Lib.itoa_length_le n h.1 h.2
theorem addT_len {n : Int} (h : i64 n) (has isReg : Bool) : (addT n has isReg).length ≤ 23 := by
  have := itoa_len h
  unfold addT
  split
  · split <;> simp <;> omega
  · simp
theorem InvT.below0 {w0 w w' : World} {r : Res} {rs : List Res} (hb : Below w0.heap.size w0 w) (hr : ∀ k, r.blk = some k → w0.heap.size ≤ k) (h : InvT (Blks [r]) w rs w') : Below w0.heap.size w0 w' := by
  refine ⟨h.but.os.trans hb.os, h.but.tape.trans hb.tape, h.but.output.trans hb.output, Nat.le_trans hb.size h.but.size, fun k hk => (h.but.block k (Nat.lt_of_lt_of_le hk hb.size) ?_).trans (hb.block k hk)⟩
  rintro ⟨s, hs, he⟩
  simp only [List.mem_singleton] at hs
  subst hs
  have := hr k he
  omega
def outR (gb : Nat) (out : List UInt8) : Res := .box gb 9 #[.string (str out)]
set_option maxHeartbeats 1000000 in
theorem c_add {w0 w : World} (hE : EnvT w0) (hb0 : Below w0.heap.size w0 w) (gb : Nat) (hgb : w0.heap.size ≤ gb) (out : List UInt8) (hI : InvT (Blks [outR gb out]) w [outR gb out] w) (n : Int) (hn : i64 n) (hlen : out.length ≤ 1000) (has isReg : Bool) :
    Calls Tryz.prog 218 #[.int .i64 n, .bool has, .bool isReg, .pointer (some ⟨gb, 0, none⟩)] w (fun e w' => e = .returned (.tuple #[]) ∧ InvT (Blks [outR gb out]) w [outR gb (out ++ addT n has isReg)] w') := by
  have HB := Lib.hid (show ∀ rs w', InvT (Blks [outR gb out]) w rs w' → EnvT w' from fun rs w' h => hE.below (InvT.below0 hb0 (fun k hk => by cases hk; exact hgb) h))
  clear hb0 hE hgb
  generalize hT : Blks [outR gb out] = T at hI HB ⊢
  clear hT
  have hl := itoa_len hn
  have HI := Lib.hid (fun w h => c_Itoa n hn w h)
  have hz : (str (Lib.itoa n)).size ≤ 21 := by rw [str_size]; exact hl
  have hz2 : (str out).size ≤ 1000 := by rw [str_size]; exact hlen
  have e1 : str out ++ ((⟨#[32, 114]⟩ : ByteArray) ++ str (Lib.itoa n)) = str (out ++ addT n true true) := by
    show str out ++ (str [32, 114] ++ str (Lib.itoa n)) = _
    rw [str_app, str_app]; rfl
  have e2 : str out ++ ((⟨#[32]⟩ : ByteArray) ++ str (Lib.itoa n)) = str (out ++ addT n true false) := by
    show str out ++ (str [32] ++ str (Lib.itoa n)) = _
    rw [str_app, str_app]; rfl
  have HE1 := Lib.hid e1
  have HE2 := Lib.hid e2
  clear e1 e2 hl hlen hn
  unfold outR at hI ⊢
  cases has
  · have e3 : out ++ addT n false isReg = out := by simp [addT]
    rw [e3]
    clear HE1 HE2 e3
    go_enter Tryz.func218, Tryz.ntmps218
    go_wp2_with fail
    go_returns
    exact ⟨rfl, hI⟩
  · cases isReg
    · rw [← HE2.out]
      clear HE1 HE2
      generalize hsn : str (Lib.itoa n) = sn at *
      clear hsn
      generalize hso : str out = so at *
      clear hso
      have hq1 : ¬ 9223372036854775807 < 1 + sn.size := by omega
      have hq2 : ¬ 9223372036854775807 < 2 + sn.size := by omega
      have hq3 : ¬ 9223372036854775807 < so.size + (1 + sn.size) := by omega
      have hq4 : ¬ 9223372036854775807 < so.size + (2 + sn.size) := by omega
      (try have c0 := hI.cell (i := 0) rfl); (try have c1 := hI.cell (i := 1) rfl); (try have c2 := hI.cell (i := 2) rfl); (try have c3 := hI.cell (i := 3) rfl); (try have c4 := hI.cell (i := 4) rfl); (try have c5 := hI.cell (i := 5) rfl); skip
      go_enter Tryz.func218, Tryz.ntmps218
      go_wp2_with fail
      (refine wp_region_KG 5 [0] (by kernel_rfl) hI fun w' hI' hHeld => ?_; (try clear hb); clear hI; have hI := hI'; clear hI'; (try simp only [mm, Act.put, Act.eval] at hI); (try clear c0); (try clear c1); (try clear c2); (try clear c3); (try clear c4); (try clear c5); (try have c0 := hI.cell (i := 0) rfl); (try have c1 := hI.cell (i := 1) rfl); (try have c2 := hI.cell (i := 2) rfl); (try have c3 := hI.cell (i := 3) rfl); (try have c4 := hI.cell (i := 4) rfl); (try have c5 := hI.cell (i := 5) rfl); skip)
      (refine tg 0 ?_; (try simp only [np, Act.put])); (refine tg 1 ?_; (try simp only [np, Act.put]))
      refine oneG (i := 2) (by kernel_rfl) rfl (fun K hK => ?_)
      (go_simp; refine (HI.out _ (HB.out _ _ hI)).mono ?_; intro e w' hr; obtain ⟨rfl, hb⟩ := hr; have hI' := hI.on hb; refine hK.out _ _ (hI'.held (by simp)) (fun hHeld => ?_); clear hK K; (try clear hb); clear hI; have hI := hI'; clear hI'; (try simp only [mm, Act.put, Act.eval] at hI); (try clear c0); (try clear c1); (try clear c2); (try clear c3); (try clear c4); (try clear c5); (try have c0 := hI.cell (i := 0) rfl); (try have c1 := hI.cell (i := 1) rfl); (try have c2 := hI.cell (i := 2) rfl); (try have c3 := hI.cell (i := 3) rfl); (try have c4 := hI.cell (i := 4) rfl); (try have c5 := hI.cell (i := 5) rfl); skip; (try simp only [Act.put, List.setIfInBounds_toArray, List.set_cons_zero, List.set_cons_succ]))
      (refine tg 3 ?_; (try simp only [np, Act.put])); (refine tg 4 ?_; (try simp only [np, Act.put]))
      refine oneGs (i := 5) (by kernel_rfl) rfl (by kernel_rfl) (fun K hK => ?_)
      (refine stepI rfl (wpI_store1 _ _ _ rfl hI rfl 0 rfl rfl rfl (by simp) (by kernel_rfl) fun w' hI' => hK.out _ _ ?_); clear hK K; (try clear hb); clear hI; have hI := hI'; clear hI'; (try simp only [mm, Act.put, Act.eval] at hI); (try clear c0); (try clear c1); (try clear c2); (try clear c3); (try clear c4); (try clear c5); (try have c0 := hI.cell (i := 0) rfl); (try have c1 := hI.cell (i := 1) rfl); (try have c2 := hI.cell (i := 2) rfl); (try have c3 := hI.cell (i := 3) rfl); (try have c4 := hI.cell (i := 4) rfl); (try have c5 := hI.cell (i := 5) rfl); skip; (try simp only [Act.put, List.setIfInBounds_toArray, List.set_cons_zero, List.set_cons_succ]))
      refine doneG (by kernel_rfl) ?_ _
      go_wp2_with fail
      go_returns
      exact ⟨rfl, hI⟩
    · rw [← HE1.out]
      clear HE1 HE2
      generalize hsn : str (Lib.itoa n) = sn at *
      clear hsn
      generalize hso : str out = so at *
      clear hso
      have hq1 : ¬ 9223372036854775807 < 1 + sn.size := by omega
      have hq2 : ¬ 9223372036854775807 < 2 + sn.size := by omega
      have hq3 : ¬ 9223372036854775807 < so.size + (1 + sn.size) := by omega
      have hq4 : ¬ 9223372036854775807 < so.size + (2 + sn.size) := by omega
      (try have c0 := hI.cell (i := 0) rfl); (try have c1 := hI.cell (i := 1) rfl); (try have c2 := hI.cell (i := 2) rfl); (try have c3 := hI.cell (i := 3) rfl); (try have c4 := hI.cell (i := 4) rfl); (try have c5 := hI.cell (i := 5) rfl); skip
      go_enter Tryz.func218, Tryz.ntmps218
      go_wp2_with fail
      (refine wp_region_KG 5 [0] (by kernel_rfl) hI fun w' hI' hHeld => ?_; (try clear hb); clear hI; have hI := hI'; clear hI'; (try simp only [mm, Act.put, Act.eval] at hI); (try clear c0); (try clear c1); (try clear c2); (try clear c3); (try clear c4); (try clear c5); (try have c0 := hI.cell (i := 0) rfl); (try have c1 := hI.cell (i := 1) rfl); (try have c2 := hI.cell (i := 2) rfl); (try have c3 := hI.cell (i := 3) rfl); (try have c4 := hI.cell (i := 4) rfl); (try have c5 := hI.cell (i := 5) rfl); skip)
      (refine tg 0 ?_; (try simp only [np, Act.put])); (refine tg 1 ?_; (try simp only [np, Act.put]))
      refine oneG (i := 2) (by kernel_rfl) rfl (fun K hK => ?_)
      (go_simp; refine (HI.out _ (HB.out _ _ hI)).mono ?_; intro e w' hr; obtain ⟨rfl, hb⟩ := hr; have hI' := hI.on hb; refine hK.out _ _ (hI'.held (by simp)) (fun hHeld => ?_); clear hK K; (try clear hb); clear hI; have hI := hI'; clear hI'; (try simp only [mm, Act.put, Act.eval] at hI); (try clear c0); (try clear c1); (try clear c2); (try clear c3); (try clear c4); (try clear c5); (try have c0 := hI.cell (i := 0) rfl); (try have c1 := hI.cell (i := 1) rfl); (try have c2 := hI.cell (i := 2) rfl); (try have c3 := hI.cell (i := 3) rfl); (try have c4 := hI.cell (i := 4) rfl); (try have c5 := hI.cell (i := 5) rfl); skip; (try simp only [Act.put, List.setIfInBounds_toArray, List.set_cons_zero, List.set_cons_succ]))
      (refine tg 3 ?_; (try simp only [np, Act.put])); (refine tg 4 ?_; (try simp only [np, Act.put]))
      refine oneGs (i := 5) (by kernel_rfl) rfl (by kernel_rfl) (fun K hK => ?_)
      (refine stepI rfl (wpI_store1 _ _ _ rfl hI rfl 0 rfl rfl rfl (by simp) (by kernel_rfl) fun w' hI' => hK.out _ _ ?_); clear hK K; (try clear hb); clear hI; have hI := hI'; clear hI'; (try simp only [mm, Act.put, Act.eval] at hI); (try clear c0); (try clear c1); (try clear c2); (try clear c3); (try clear c4); (try clear c5); (try have c0 := hI.cell (i := 0) rfl); (try have c1 := hI.cell (i := 1) rfl); (try have c2 := hI.cell (i := 2) rfl); (try have c3 := hI.cell (i := 3) rfl); (try have c4 := hI.cell (i := 4) rfl); (try have c5 := hI.cell (i := 5) rfl); skip; (try simp only [Act.put, List.setIfInBounds_toArray, List.set_cons_zero, List.set_cons_succ]))
      refine doneG (by kernel_rfl) ?_ _
      go_wp2_with fail
      go_returns
      exact ⟨rfl, hI⟩
theorem cByte_ne {c : Int} (h : 0 ≤ c ∧ c ≤ 5) : (cByte c != 0) = decide (c ≠ 0) ∧ (cByte c == 114) = decide (c = 2) := by
  have : c = 0 ∨ c = 1 ∨ c = 2 ∨ c = 3 ∨ c = 4 ∨ c = 5 := by omega
  rcases this with rfl | rfl | rfl | rfl | rfl | rfl <;> exact ⟨by decide, by decide⟩
theorem text_eq (i : Inst) (wd : List UInt8) (sh : Bool × Bool × Int) : Lib.join (wd :: instTail sh i) [32] = wd ++ addT i.a sh.1 true ++ addT i.b sh.2.1 true ++ addT i.c (decide (sh.2.2 ≠ 0)) (decide (sh.2.2 = 2)) := by
  obtain ⟨s1, s2, s3⟩ := sh
  unfold instTail addT cText regT
  dsimp only
  by_cases h3 : s3 = 0
  · subst h3
    cases s1 <;> cases s2 <;> simp [Lib.join_one, join_two]
  · by_cases h2 : s3 = 2
    · subst h2
      cases s1 <;> cases s2 <;> simp [Lib.join_one, join_two]
    · cases s1 <;> cases s2 <;> simp [Lib.join_one, join_two, h3, h2]
theorem word_len {op : Int} (h0 : 0 ≤ op) (h1 : op ≤ 22) : (wordOf op).data.toList.length ≤ 6 := by
  have h : ∀ w ∈ wordsL, w.length ≤ 6 := by decide
  exact h _ (List.mem_of_getElem? (wordOf_mem h0 h1))
theorem textF_no {i : Inst} (h : instOk i = false) : textF i = ([], 1) := by unfold textF; rw [h]; rfl
theorem textF_ok {i : Inst} (h : instOk i = true) : textF i = (instText i, 0) := by unfold textF; rw [h]; rfl
set_option maxHeartbeats 4000000 in
theorem c_inst_Text (i : Inst) (w : World) (hE : EnvT w) : Calls Tryz.prog 173 #[.agg #[.int .i64 i.op, .int .i64 i.a, .int .i64 i.b, .int .i64 i.c]] w (Ret (.tuple #[.string (str (textF i).1), .int .i64 (textF i).2]) w) := by
  cases hok : instOk i
  · rw [textF_no hok]
    have hC := Lib.hid (fun w' h => instE_no hok ▸ c_inst_Check i w' h)
    clear hok
    go_enter Tryz.func173, Tryz.ntmps173
    have hI := Inv.start w
    go_wp2_with (first | (refine listI rfl fun K hK => wpI_box _ _ rfl hI rfl fun gx w' hI' hb => hK _ _ ?_; clear hK K; (try clear hb); clear hI; have hI := hI'; clear hI'; (try simp only [mm, Act.put, Act.eval] at hI); (try clear c0); (try clear c1); (try clear c2); (try clear c3); (try clear c4); (try clear c5); (try have c0 := hI.cell (i := 0) rfl); (try have c1 := hI.cell (i := 1) rfl); (try have c2 := hI.cell (i := 2) rfl); (try have c3 := hI.cell (i := 3) rfl); (try have c4 := hI.cell (i := 4) rfl); (try have c5 := hI.cell (i := 5) rfl); skip) | (refine listI rfl fun K hK => wpI_box1 _ _ rfl hI rfl rfl fun gx w' hI' hb => hK _ _ ?_; clear hK K; (try clear hb); clear hI; have hI := hI'; clear hI'; (try simp only [mm, Act.put, Act.eval] at hI); (try clear c0); (try clear c1); (try clear c2); (try clear c3); (try clear c4); (try clear c5); (try have c0 := hI.cell (i := 0) rfl); (try have c1 := hI.cell (i := 1) rfl); (try have c2 := hI.cell (i := 2) rfl); (try have c3 := hI.cell (i := 3) rfl); (try have c4 := hI.cell (i := 4) rfl); (try have c5 := hI.cell (i := 5) rfl); skip) | (go_at_call 84; (with_reducible refine (hC.out _ (hE.env.inv hI)).mono ?_); intro e w' hr; obtain ⟨rfl, hb⟩ := hr; have hI' := hI.on hb; (try clear hb); clear hI; have hI := hI'; clear hI'; (try simp only [mm, Act.put, Act.eval] at hI); (try clear c0); (try clear c1); (try clear c2); (try clear c3); (try clear c4); (try clear c5); (try have c0 := hI.cell (i := 0) rfl); (try have c1 := hI.cell (i := 1) rfl); (try have c2 := hI.cell (i := 2) rfl); (try have c3 := hI.cell (i := 3) rfl); (try have c4 := hI.cell (i := 4) rfl); (try have c5 := hI.cell (i := 5) rfl); skip) | fail)
    go_returns
    exact Ret.mk rfl hI.below
  · rw [textF_ok hok]
    have hC := Lib.hid (fun w' h => instE_ok hok ▸ c_inst_Check i w' h)
    have hop := instOk_op hok
    obtain ⟨ho, ha, hb', hc'⟩ := instOk_in hok
    have ia := small64 (n := i.a) (by omega) (by omega)
    have ib := small64 (n := i.b) (by omega) (by omega)
    have ic := small64 (n := i.c) (by omega) (by omega)
    have IA := Lib.hid ia
    have IB := Lib.hid ib
    have IC := Lib.hid ic
    have hS := Lib.hid (fun w' h => c_shapeOf i.op w' h hop.1 hop.2)
    have HT := Lib.hid (text_eq i (wordOf i.op).data.toList (shapeN i.op))
    have HB := Lib.hid (cByte_ne (shapeN_c i.op))
    have hwl := word_len hop.1 hop.2
    have hws : wordOf i.op = str (wordOf i.op).data.toList := (str_of _).symm
    rw [hws] at hS
    clear hws hok ho ha hb' hc' ia ib ic hop
    unfold instText instWords
    generalize (wordOf i.op).data.toList = wd at *
    generalize shapeN i.op = sh at *
    obtain ⟨s1, s2, s3⟩ := sh
    dsimp only at *
    rw [HT.out]
    clear HT
    generalize hcb : cByte s3 = cb at *
    clear hcb
    have LA := Lib.hid (addT_len IA.out s1 true)
    have LB := Lib.hid (addT_len IB.out s2 true)
    go_enter Tryz.func173, Tryz.ntmps173
    have hI := Inv.start w
    go_wp2_with (first | (refine listI rfl fun K hK => wpI_box _ _ rfl hI rfl fun gx w' hI' hb => hK _ _ ?_; clear hK K; (try clear hb); clear hI; have hI := hI'; clear hI'; (try simp only [mm, Act.put, Act.eval] at hI); (try clear c0); (try clear c1); (try clear c2); (try clear c3); (try clear c4); (try clear c5); (try have c0 := hI.cell (i := 0) rfl); (try have c1 := hI.cell (i := 1) rfl); (try have c2 := hI.cell (i := 2) rfl); (try have c3 := hI.cell (i := 3) rfl); (try have c4 := hI.cell (i := 4) rfl); (try have c5 := hI.cell (i := 5) rfl); skip) | (refine listI rfl fun K hK => wpI_box1 _ _ rfl hI rfl rfl fun gx w' hI' hb => hK _ _ ?_; clear hK K; (try clear hb); clear hI; have hI := hI'; clear hI'; (try simp only [mm, Act.put, Act.eval] at hI); (try clear c0); (try clear c1); (try clear c2); (try clear c3); (try clear c4); (try clear c5); (try have c0 := hI.cell (i := 0) rfl); (try have c1 := hI.cell (i := 1) rfl); (try have c2 := hI.cell (i := 2) rfl); (try have c3 := hI.cell (i := 3) rfl); (try have c4 := hI.cell (i := 4) rfl); (try have c5 := hI.cell (i := 5) rfl); skip) | (refine listI rfl fun K hK => wpI_alloc 226 rfl hI Tryz.zeroValue226 (cs := #[.string ⟨#[]⟩, .bool false, .bool false, .int .u8 0]) (by first | rfl | kernel_rfl) fun gx w' hI' hb => hK _ _ ?_; clear hK K; (try clear hb); clear hI; have hI := hI'; clear hI'; (try simp only [mm, Act.put, Act.eval] at hI); (try clear c0); (try clear c1); (try clear c2); (try clear c3); (try clear c4); (try clear c5); (try have c0 := hI.cell (i := 0) rfl); (try have c1 := hI.cell (i := 1) rfl); (try have c2 := hI.cell (i := 2) rfl); (try have c3 := hI.cell (i := 3) rfl); (try have c4 := hI.cell (i := 4) rfl); (try have c5 := hI.cell (i := 5) rfl); skip) | (refine listI rfl fun K hK => wpI_storeW _ _ _ rfl hI rfl 1 rfl rfl rfl (by kernel_rfl) (by simp [Value.oneCell']) fun w' hI' => hK _ _ ?_; clear hK K; (try clear hb); clear hI; have hI := hI'; clear hI'; (try simp only [mm, Act.put, Act.eval] at hI); (try clear c0); (try clear c1); (try clear c2); (try clear c3); (try clear c4); (try clear c5); (try have c0 := hI.cell (i := 0) rfl); (try have c1 := hI.cell (i := 1) rfl); (try have c2 := hI.cell (i := 2) rfl); (try have c3 := hI.cell (i := 3) rfl); (try have c4 := hI.cell (i := 4) rfl); (try have c5 := hI.cell (i := 5) rfl); skip) | (refine listI rfl fun K hK => wpI_alloc 9 rfl hI Tryz.zeroValue9 (cs := #[.string ⟨#[]⟩]) (by first | rfl | kernel_rfl) fun gx w' hI' hb => hK _ _ ?_; clear hK K; (try clear hb); clear hI; have hI := hI'; clear hI'; (try simp only [mm, Act.put, Act.eval] at hI); (try clear c0); (try clear c1); (try clear c2); (try clear c3); (try clear c4); (try clear c5); (try have c0 := hI.cell (i := 0) rfl); (try have c1 := hI.cell (i := 1) rfl); (try have c2 := hI.cell (i := 2) rfl); (try have c3 := hI.cell (i := 3) rfl); (try have c4 := hI.cell (i := 4) rfl); (try have c5 := hI.cell (i := 5) rfl); skip) | (refine listI rfl fun K hK => wpI_store1 _ _ _ rfl hI rfl 0 rfl rfl rfl (by simp) (by kernel_rfl) fun w' hI' => hK _ _ ?_; clear hK K; (try clear hb); clear hI; have hI := hI'; clear hI'; (try simp only [mm, Act.put, Act.eval] at hI); (try clear c0); (try clear c1); (try clear c2); (try clear c3); (try clear c4); (try clear c5); (try have c0 := hI.cell (i := 0) rfl); (try have c1 := hI.cell (i := 1) rfl); (try have c2 := hI.cell (i := 2) rfl); (try have c3 := hI.cell (i := 3) rfl); (try have c4 := hI.cell (i := 4) rfl); (try have c5 := hI.cell (i := 5) rfl); skip) | (refine listI rfl fun K hK => wpI_store1 _ _ _ rfl hI rfl 1 rfl rfl rfl (by simp) (by kernel_rfl) fun w' hI' => hK _ _ ?_; clear hK K; (try clear hb); clear hI; have hI := hI'; clear hI'; (try simp only [mm, Act.put, Act.eval] at hI); (try clear c0); (try clear c1); (try clear c2); (try clear c3); (try clear c4); (try clear c5); (try have c0 := hI.cell (i := 0) rfl); (try have c1 := hI.cell (i := 1) rfl); (try have c2 := hI.cell (i := 2) rfl); (try have c3 := hI.cell (i := 3) rfl); (try have c4 := hI.cell (i := 4) rfl); (try have c5 := hI.cell (i := 5) rfl); skip) | (refine listI rfl fun K hK => wpI_store1 _ _ _ rfl hI rfl 2 rfl rfl rfl (by simp) (by kernel_rfl) fun w' hI' => hK _ _ ?_; clear hK K; (try clear hb); clear hI; have hI := hI'; clear hI'; (try simp only [mm, Act.put, Act.eval] at hI); (try clear c0); (try clear c1); (try clear c2); (try clear c3); (try clear c4); (try clear c5); (try have c0 := hI.cell (i := 0) rfl); (try have c1 := hI.cell (i := 1) rfl); (try have c2 := hI.cell (i := 2) rfl); (try have c3 := hI.cell (i := 3) rfl); (try have c4 := hI.cell (i := 4) rfl); (try have c5 := hI.cell (i := 5) rfl); skip) | (go_at_call 84; (with_reducible refine (hC.out _ (hE.env.inv hI)).mono ?_); intro e w' hr; obtain ⟨rfl, hb⟩ := hr; have hI' := hI.on hb; (try clear hb); clear hI; have hI := hI'; clear hI'; (try simp only [mm, Act.put, Act.eval] at hI); (try clear c0); (try clear c1); (try clear c2); (try clear c3); (try clear c4); (try clear c5); (try have c0 := hI.cell (i := 0) rfl); (try have c1 := hI.cell (i := 1) rfl); (try have c2 := hI.cell (i := 2) rfl); (try have c3 := hI.cell (i := 3) rfl); (try have c4 := hI.cell (i := 4) rfl); (try have c5 := hI.cell (i := 5) rfl); skip) | (go_at_call 151; (with_reducible refine (hS.out _ (hE.env.inv hI)).mono ?_); intro e w' hr; obtain ⟨rfl, hb⟩ := hr; have hI' := hI.on hb; (try clear hb); clear hI; have hI := hI'; clear hI'; (try simp only [mm, Act.put, Act.eval] at hI); (try clear c0); (try clear c1); (try clear c2); (try clear c3); (try clear c4); (try clear c5); (try have c0 := hI.cell (i := 0) rfl); (try have c1 := hI.cell (i := 1) rfl); (try have c2 := hI.cell (i := 2) rfl); (try have c3 := hI.cell (i := 3) rfl); (try have c4 := hI.cell (i := 4) rfl); (try have c5 := hI.cell (i := 5) rfl); skip) | (go_at_call 218; refine (c_add hE hI.below _ (by have := hI.low 2 _ rfl _ rfl; simpa using this) _ (by exact hI.enter1 (n := 2) rfl) _ (by first | exact IA.out | exact IB.out | exact IC.out) (by (try simp only [List.length_append]); have := LA.out; have := LB.out; omega) _ _).mono ?_; rintro e w' ⟨rfl, hc⟩; have hI' := hI.frame1 (n := 2) rfl hc; clear hc; unfold outR at hI'; (try clear hb); clear hI; have hI := hI'; clear hI'; (try simp only [mm, Act.put, Act.eval] at hI); (try clear c0); (try clear c1); (try clear c2); (try clear c3); (try clear c4); (try clear c5); (try have c0 := hI.cell (i := 0) rfl); (try have c1 := hI.cell (i := 1) rfl); (try have c2 := hI.cell (i := 2) rfl); (try have c3 := hI.cell (i := 3) rfl); (try have c4 := hI.cell (i := 4) rfl); (try have c5 := hI.cell (i := 5) rfl); skip) | fail)
    go_returns
    refine ⟨?_, hI.below⟩
    rw [HB.out.1, HB.out.2]
    simp only [List.append_assoc]
    rfl
end Go.Proofs.YtbkjhdohkdeniaaGreatDoor
namespace Go.Proofs.YtbkjhdohkdeniaaGreatDoor
open Go.RowKit
set_option maxRecDepth 100000
structure EnvE (w : World) : Prop where
  envT : EnvT w
  eSyn : ∃ tp p, w.var? Tryz.prog "strconv.ErrSyntax" = some #[.iface tp p]
  eRng : ∃ tp p, w.var? Tryz.prog "strconv.ErrRange" = some #[.iface tp p]
theorem gSyn : Tryz.prog.globalNamed "strconv.ErrSyntax" = some 4 := by kernel_rfl
theorem gRng : Tryz.prog.globalNamed "strconv.ErrRange" = some 5 := by kernel_rfl
theorem EnvE.below {w w' : World} (h : EnvE w) (hb : Below w.heap.size w w') : EnvE w' := by
  obtain ⟨hT, ⟨t1, p1, h1⟩, ⟨t2, p2, h2⟩⟩ := h
  exact ⟨hT.below hb, ⟨t1, p1, Go.Joins.var_stays gSyn h1 hb (Nat.le_refl _)⟩, ⟨t2, p2, Go.Joins.var_stays gRng h2 hb (Nat.le_refl _)⟩⟩
theorem EnvE.inv {w w' : World} {rs : List Res} (h : EnvE w) (hI : Inv w rs w') : EnvE w' := h.below hI.below
def errV (l : List UInt8) (v : Value) : Prop := ((∃ m, Lib.atoiAll l = .ok m) ∧ v = .nilIface) ∨ ((∀ m, Lib.atoiAll l ≠ .ok m) ∧ ∃ t g, v = .iface t (.pointer (some ⟨g, 0, none⟩)))
theorem c_Atoi (l : List UInt8) (hl : l.length ≤ 281474976710656) (w : World) (hE : EnvE w) :
    Calls Tryz.prog 147 #[.string (str l)] w fun e w' => ∃ v, e = .returned (.tuple #[.int .i64 (atoiN l), v]) ∧ errV l v ∧ Below w.heap.size w w' := by
  have hz : (str l).size = l.length := str_size l
  have hd := str_list l
  obtain ⟨_, ⟨t1, p1, h1⟩, ⟨t2, p2, h2⟩⟩ := hE
  have hN : atoiN l = match Lib.atoiAll l with | .ok v => v | .range => Lib.atoiSat l | _ => 0 := rfl
  unfold errV
  cases h : Lib.atoiAll l with
  | ok m =>
    rw [h] at hN
    refine (Tryz.strconv_Atoi_ok (str l) (by omega) m (by rw [hd]; exact h) w).mono ?_
    rintro e w' ⟨rfl, hw⟩
    refine ⟨_, by rw [hN], .inl ⟨⟨m, rfl⟩, rfl⟩, ?_⟩
    rcases hw with rfl | ⟨t, rfl⟩
    · exact Below.refl _ _
    · exact Lib.bytesWorld_below w _ t
  | range =>
    rw [h] at hN
    refine (Tryz.strconv_Atoi_range_var (str l) (by omega) (by rw [hd]; exact h) t2 p2 w h2).mono ?_
    rintro e w' ⟨N, rfl, _, _, hb⟩
    exact ⟨_, by rw [hN, hd], .inr ⟨(fun m hm => by cases hm), _, _, rfl⟩, hb⟩
  | _ =>
    rw [h] at hN
    refine (Any.strconv_Atoi_syntax_var Tryz.laysC172 (str l) (by omega) (by rw [hd]; exact h) t1 p1 w h1).mono ?_
    rintro e w' ⟨N, rfl, _, _, hb⟩
    exact ⟨_, by rw [hN], .inr ⟨(fun m hm => by cases hm), _, _, rfl⟩, hb⟩
def strCells (ws : List (List UInt8)) : Array Value := (ws.map fun x => Value.string (str x)).toArray
theorem strCells_at {ws : List (List UInt8)} {k : Nat} {x : List UInt8} (h : ws[k]? = some x) : (strCells ws)[k]? = some (.string (str x)) := by
  unfold strCells; rw [List.getElem?_toArray, List.getElem?_map, h]; rfl
theorem strCells_size (ws : List (List UInt8)) : (strCells ws).size = ws.length := by simp [strCells]
theorem c_SplitB {w0 w : World} {rs : List Res} (hI : Inv w0 rs w) (hE : Env w0) (c : UInt8) (l : List UInt8) (hl : l.length ≤ 4000000000) :
    Calls Tryz.prog 29 #[.string (str l), .string ⟨#[c]⟩] w fun e w' => ∃ g, e = .returned (.slice (some ⟨g, 0, none⟩) (splitL c l).length (splitL c l).length) ∧ Inv w0 (rs ++ [.box g 9 (strCells (splitL c l))]) w' := by
  have h := c_Split (str l) ⟨#[c]⟩ w (hE.inv hI) (by rw [str_size]; omega) (Nat.le_refl 1) ((splitL c l).map str) (by have := splitB_one c (str l); rw [str_list] at this; exact this)
  refine h.mono ?_
  rintro e w' ⟨g, rfl, rfl, rfl⟩
  rw [List.length_map]
  refine ⟨_, rfl, ?_⟩
  have := hI.alloc 9 (strCells (splitL c l))
  unfold strCells at this ⊢
  rw [List.map_map]
  exact this
theorem c_TrimB (l : List UInt8) (c : UInt8) (w : World) : Calls Tryz.prog 90 #[.string (str l), .string ⟨#[c]⟩] w fun e w' => e = .returned (.string (str (Lib.trimPrefix l [c]))) ∧ w = w' := by
  refine (Tryz.strings_TrimPrefix (str l) ⟨#[c]⟩ w).mono ?_
  rintro e w' ⟨rfl, rfl⟩
  refine ⟨?_, rfl⟩
  show Ending.returned (.string (str (Lib.trimPrefix (str l).data.toList [c]))) = _
  rw [str_list]
theorem c_HasB (l : List UInt8) (p : ByteArray) (w : World) : Calls Tryz.prog 86 #[.string (str l), .string p] w fun e w' => e = .returned (.bool (p.data.toList.isPrefixOf l)) ∧ w = w' := by
  refine (Tryz.strings_HasPrefix (str l) p w).mono ?_
  rintro e w' ⟨rfl, rfl⟩
  refine ⟨?_, rfl⟩
  rw [str_list]; rfl
end Go.Proofs.YtbkjhdohkdeniaaGreatDoor
namespace Go.Proofs.YtbkjhdohkdeniaaGreatDoor
open Go.RowKit
set_option maxRecDepth 100000
theorem wordL_str : wordL = wordsL.map str := by decide
theorem str_inj {a b : List UInt8} : str a = str b ↔ a = b := ⟨fun h => by have := congrArg (·.data.toList) h; simpa [str] using this, fun h => by rw [h]⟩
theorem opL_at {s : List UInt8} {k : Nat} (h : wordsL[k]? = some s) : opL s = k := by
  obtain ⟨hk, rfl⟩ := List.getElem?_eq_some_iff.1 h
  have h : ∀ k : Fin 23, opL (wordsL.getD k.val []) = (k.val : Nat) := by decide +kernel
  have := h ⟨k, hk⟩
  rwa [List.getD_eq_getElem?_getD, List.getElem?_eq_getElem hk, Option.getD_some] at this
theorem ba_ne {a b : ByteArray} (h : a ≠ b) : (a.toList == b.toList) = false := by
  rw [beq_eq_false_iff_ne, Lib.toList_data, Lib.toList_data]
  exact fun e => h (WideShapes.bytes_inj e)
theorem opL_none {s : List UInt8} (hn : ∀ (j : Nat), j < 23 → wordsL[j]? ≠ some s) : opL s = -1 := by
  unfold opL
  rw [if_neg]
  intro h
  obtain ⟨j, hj⟩ := List.getElem?_of_mem h
  exact hn j (by have := (List.getElem?_eq_some_iff.1 hj).1; exact this) hj
set_option maxHeartbeats 1000000 in
theorem c_opOf (s : List UInt8) (w : World) (hE : Env w) : Calls Tryz.prog 200 #[.string (str s)] w (Ret (.int .i64 (opL s)) w) := by
  have hI := Inv.start w
  obtain ⟨wa, hwa⟩ : ∃ wa, (wordL.map Value.string).toArray = wa := ⟨_, rfl⟩
  have HQ := Lib.hid hwa
  have hat : ∀ (k : Nat) x, wordsL[k]? = some x → wa[k]? = some (.string (str x)) := fun k x h => by
    rw [← hwa, wordL_str, List.map_map, List.getElem?_toArray, List.getElem?_map, h]; rfl
  have HAT := Lib.hid hat
  clear hwa hat
  go_enter Tryz.func200, Tryz.ntmps200
  go_wp2_with (first | (go_at_call 201; refine (c_words hI hE).mono ?_; rintro e w' ⟨gw, rfl, hI'⟩; rw [HQ.out] at hI'; (try clear hb); clear hI; have hI := hI'; clear hI'; (try simp only [mm, Act.put, Act.eval] at hI); (try clear c0); (try clear c1); (try clear c2); (try clear c3); (try clear c4); (try clear c5); (try have c0 := hI.cell (i := 0) rfl); (try have c1 := hI.cell (i := 1) rfl); (try have c2 := hI.cell (i := 2) rfl); (try have c3 := hI.cell (i := 3) rfl); (try have c4 := hI.cell (i := 4) rfl); (try have c5 := hI.cell (i := 5) rfl); skip) | fail)
  go_loopw [3, 4, 7] (fun _ _ v wr => ∃ k : Nat, v = .int .i64 k ∧ k ≤ 23 ∧ (∀ (j : Nat), j < k → wordsL[j]? ≠ some s) ∧ Inv w [.box gw 9 wa] wr) (fun _ _ v _ => (23 - intOf v).toNat)
  case atStart => exact ⟨0, rfl, by omega, fun j hj => by omega, hI⟩
  case round =>
    clear hI
    obtain ⟨k, rfl, hk, hall, hI⟩ := hrel
    have HA := Lib.hid hall
    clear hall
    rcases Nat.lt_or_ge k 23 with hlt | hge
    · obtain ⟨x, hx⟩ : ∃ x, wordsL[k]? = some x := ⟨_, List.getElem?_eq_getElem (by exact hlt)⟩
      have hcx := HAT.out k x hx
      (try clear c0); (try clear c1); (try clear c2); (try clear c3); (try clear c4); (try clear c5); (try have c0 := hI.cell (i := 0) rfl); (try have c1 := hI.cell (i := 1) rfl); (try have c2 := hI.cell (i := 2) rfl); (try have c3 := hI.cell (i := 3) rfl); (try have c4 := hI.cell (i := 4) rfl); (try have c5 := hI.cell (i := 5) rfl); skip
      cases hd : decide (str x = str s)
      · have hne : ¬ x = s := fun h => by rw [h] at hd; simp at hd
        have H := Lib.hid (show ∀ (j : Nat), j < k + 1 → wordsL[j]? ≠ some s from fun j hj => by
          rcases Nat.lt_or_ge j k with h | h
          · exact HA.out j h
          · obtain rfl : j = k := by omega
            rw [hx]; exact fun h => hne (Option.some.inj h))
        have hbe : ((str x).toList == (str s).toList) = false := ba_ne (of_decide_eq_false hd)
        clear hne hd hx
        generalize str x = sx at *
        generalize hss : str s = ss at *
        clear hss
        go_wp2_with fail
        go_roundw
        case rel => exact ⟨k + 1, by go_num, by omega, H.out, hI⟩
        case measure => simp [intOf]; omega
      · have hxs : x = s := str_inj.1 (of_decide_eq_true hd)
        subst hxs
        have H := Lib.hid (opL_at hx)
        clear hd hx
        generalize hsx : str x = sx at *
        go_wp2_with fail
        go_returns
        exact ⟨by rw [H.out]; rfl, hI.below⟩
    · obtain rfl : k = 23 := by omega
      have H := Lib.hid (opL_none HA.out)
      (try clear c0); (try clear c1); (try clear c2); (try clear c3); (try clear c4); (try clear c5); (try have c0 := hI.cell (i := 0) rfl); (try have c1 := hI.cell (i := 1) rfl); (try have c2 := hI.cell (i := 2) rfl); (try have c3 := hI.cell (i := 3) rfl); (try have c4 := hI.cell (i := 4) rfl); (try have c5 := hI.cell (i := 5) rfl); skip
      go_wp2_with fail
      go_returns
      exact ⟨by rw [H.out]; rfl, hI.below⟩
section
variable {P : Program} {ops : Array Oper} {rest : List Oper} {o : Oper} {a : Act} {T : Nat → Prop} {w0 w : World} {rs : List Res} {K : Act → World → Prop} {Q : Exit → Act → World → Prop}
theorem wpI_sliceM (t e : TypeId) (n : Nat) (parts : Array (Nat × Operand)) (ho : o.op = .buildSlice t n parts) (hI : InvT T w0 rs w) (hu : P.underlying t = some (.slice e)) (us : Array Value) {z : Value} (hie : (P.info? e).map (fun i => (i.zero, i.size)) = some (some z, z.cells.size)) (hn : n * z.cells.size ≤ 1000) (hp : ¬ n * z.cells.size = 0)
    (hf : Instr.fill (fun i => some (i * z.cells.size, z.cells.size)) ((Array.range (n * z.cells.size)).map (z.cells[· % z.cells.size]!)) (parts.map fun (i, x) => (i, a.eval x)).toList = some us)
    (h : ∀ g w', InvT T w0 (rs ++ [.box g e us]) w' → Below w.heap.size w w' → K (a.put o.dst (.slice (some ⟨g, 0, none⟩) n n)) w') : o.wp P a w K Q := by
  cases hi : P.info? e with
  | none => simp [hi] at hie
  | some i =>
    simp only [hi, Option.map_some, Option.some.injEq, Prod.mk.injEq] at hie
    obtain ⟨hz, hsz⟩ := hie
    refine wp_buildSlice t e n parts ho us i z hu hi hz (by rw [hsz]; omega) (by rw [hsz]; exact hp) (by rw [hsz]; exact hf) (h _ _ (hI.alloc e us) ((Below.refl _ _).alloc (Nat.le_refl _) _))
end
def parseSt (ws : List (List UInt8)) (h : Bool × Bool × Bool) : Nat → List (List UInt8) × Int × Int × Int
  | 0 => (ws, 0, 0, 0)
  | 1 => ((takeF h.1 ws).2, (takeF h.1 ws).1, 0, 0)
  | 2 => ((takeF h.2.1 (takeF h.1 ws).2).2, (takeF h.1 ws).1, (takeF h.2.1 (takeF h.1 ws).2).1, 0)
  | _ => ((takeF h.2.2 (takeF h.2.1 (takeF h.1 ws).2).2).2, (takeF h.1 ws).1, (takeF h.2.1 (takeF h.1 ws).2).1, (takeF h.2.2 (takeF h.2.1 (takeF h.1 ws).2).2).1)
theorem takeF_yes (x y : List UInt8) (t : List (List UInt8)) : takeF true (x :: y :: t) = (atoiN (Lib.trimPrefix y [114]), y :: t) := by unfold takeF; rw [if_pos ⟨rfl, by simp⟩]; rfl
theorem takeF_one (x : List UInt8) (b : Bool) : takeF b [x] = (0, [x]) := by unfold takeF; rw [if_neg (by simp)]
section
variable {ws lk : List (List UInt8)} {H : Bool × Bool × Bool} {A B C : Int}
theorem nx0 (h : parseSt ws H 0 = (lk, A, B, C)) : parseSt ws H (0 + 1) = ((takeF H.1 lk).2, (takeF H.1 lk).1, B, C) ∧ A = 0 := by
  simp only [parseSt, Prod.mk.injEq] at h
  obtain ⟨rfl, rfl, rfl, rfl⟩ := h
  exact ⟨rfl, rfl⟩
theorem nx1 (h : parseSt ws H 1 = (lk, A, B, C)) : parseSt ws H (1 + 1) = ((takeF H.2.1 lk).2, A, (takeF H.2.1 lk).1, C) ∧ B = 0 := by
  simp only [parseSt, Prod.mk.injEq] at h
  obtain ⟨rfl, rfl, rfl, rfl⟩ := h
  exact ⟨rfl, rfl⟩
theorem nx2 (h : parseSt ws H 2 = (lk, A, B, C)) : parseSt ws H (2 + 1) = ((takeF H.2.2 lk).2, A, B, (takeF H.2.2 lk).1) ∧ C = 0 := by
  simp only [parseSt, Prod.mk.injEq] at h
  obtain ⟨rfl, rfl, rfl, rfl⟩ := h
  exact ⟨rfl, rfl⟩
end
theorem trim_le (y : List UInt8) : (Lib.trimPrefix y [114]).length ≤ y.length := by
  unfold Lib.trimPrefix
  split
  · simp
  · exact Nat.le_refl _
theorem splitL_le {c : UInt8} {l x : List UInt8} (h : x ∈ splitL c l) : x.length ≤ l.length := by
  have hj := join_splitL c l
  obtain ⟨i, hi⟩ := List.getElem?_of_mem h
  have key : ∀ (ls : List (List UInt8)), x ∈ ls → x.length ≤ (Lib.join ls [c]).length := by
    intro ls
    induction ls with
    | nil => intro h; cases h
    | cons y r ih =>
      intro hm
      cases r with
      | nil => rw [Lib.join_one]; simp at hm; rw [hm]; exact Nat.le_refl _
      | cons z r =>
        rw [join_two]
        simp only [List.length_append]
        rcases List.mem_cons.1 hm with rfl | hm
        · omega
        · have := ih hm; omega
  have := key _ h
  rwa [hj] at this
theorem parseF_not {s : List UInt8} {ws : List (List UInt8)} {i : Inst} (hw : splitL 32 s = ws) (hg : guess ws = i) (h : instOk i = false ∨ ¬ instText i = s) : parseF s = (instZ, 3) := by
  refine parseF_no fun j hj => ?_
  have := guess_text hj
  rw [hw, hg] at this
  subst this
  rcases h with h | h
  · rw [hj.1] at h; cases h
  · exact h hj.2
theorem shapeG_in {op : Int} (h : -1 ≤ op ∧ op ≤ 22) : ∃ wd sh b, shapeG op = sh ∧ (0 ≤ sh.2.2 ∧ sh.2.2 ≤ 5) ∧ ∀ w : World, Env w → Calls Tryz.prog 151 #[.int .i64 op] w (Ret (.tuple #[.agg #[.string wd, .bool sh.1, .bool sh.2.1, .int .u8 (cByte sh.2.2)], .bool b]) w) := by
  by_cases h0 : 0 ≤ op
  · refine ⟨_, shapeN op, _, if_pos ⟨h0, h.2⟩, shapeN_c op, fun w hE => c_shapeOf op w hE h0 h.2⟩
  · refine ⟨_, (false, false, 0), _, if_neg (by omega), by decide, fun w hE => c_shapeOf_no op w hE (by omega)⟩
set_option maxHeartbeats 16000000 in
theorem c_inst_Parse (s : List UInt8) (hs : s.length ≤ 2000000) (w : World) (hE : EnvE w) : Calls Tryz.prog 150 #[.string (str s)] w (Ret (.tuple #[.agg #[.int .i64 (parseF s).1.op, .int .i64 (parseF s).1.a, .int .i64 (parseF s).1.b, .int .i64 (parseF s).1.c], .int .i64 (parseF s).2]) w) := by
  have hI := Inv.start w
  obtain ⟨ws, hws⟩ : ∃ ws, splitL 32 s = ws := ⟨_, rfl⟩
  obtain ⟨w0, wt, hwc⟩ := splitL_ne 32 s
  have hlen : ∀ x ∈ ws, x.length ≤ 2000000 := fun x hx => Nat.le_trans (splitL_le (by rw [hws]; exact hx)) hs
  obtain ⟨wd, sh, bb, hsh, hc05, hS⟩ := shapeG_in (opL_lo w0)
  have HCB := Lib.hid (cByte_ne hc05)
  have hg : guess ws = ⟨opL w0, (parseSt ws (sh.1, sh.2.1, decide (sh.2.2 ≠ 0)) 3).2.1, (parseSt ws (sh.1, sh.2.1, decide (sh.2.2 ≠ 0)) 3).2.2.1, (parseSt ws (sh.1, sh.2.1, decide (sh.2.2 ≠ 0)) 3).2.2.2⟩ := by
    have h0 : ws.getD 0 [] = w0 := by rw [← hws, hwc]; rfl
    unfold guess
    rw [h0, hsh]
    rfl
  have HG := Lib.hid hg
  have HSP := Lib.hid (fun (w0 w : World) (rs : List Res) (hI : Inv w0 rs w) (hE : Env w0) => hws ▸ c_SplitB hI hE 32 s (by omega))
  rw [hws] at hwc
  have hca : (strCells ws)[0]? = some (.string (str w0)) := strCells_at (by rw [hwc]; rfl)
  have hwl : ws.length = wt.length + 1 := by rw [hwc]; rfl
  obtain ⟨pa, hpa⟩ : ∃ pa, strCells ws = pa := ⟨_, rfl⟩
  rw [hpa] at hca HSP
  rw [hwl] at HSP
  have HWL := Lib.hid hwl
  clear hwl
  obtain ⟨op, hop⟩ : ∃ op, opL w0 = op := ⟨_, rfl⟩
  have HO := Lib.hid (fun w h => hop ▸ c_opOf w0 w h)
  rw [hop] at hS HG
  have HS := Lib.hid hS
  have HWC := Lib.hid hwc
  have HPA := Lib.hid hpa
  have HWS := Lib.hid hws
  have HL := Lib.hid hlen
  obtain ⟨h1, h2, h3⟩ := sh
  dsimp only at *
  clear hsh hg hws hwc hpa hlen hS hop hc05
  obtain ⟨cb, hcb⟩ : ∃ cb, cByte h3 = cb := ⟨_, rfl⟩
  rw [hcb] at HS HCB
  clear hcb
  go_enter Tryz.func150, Tryz.ntmps150
  go_wp2_with (first | (refine listI rfl fun K hK => wpI_alloc 95 rfl (show Inv w [] _ from hI) Tryz.zeroValue95 (cs := #[.int .i64 instZ.op, .int .i64 instZ.a, .int .i64 instZ.b, .int .i64 instZ.c]) (by first | rfl | kernel_rfl) fun gz w' hI' hb => hK _ _ ?_; clear hK K; (try clear hb); clear hI; have hI := hI'; clear hI'; (try simp only [mm, Act.put, Act.eval] at hI); (try clear c0); (try clear c1); (try clear c2); (try clear c3); (try clear c4); (try clear c5); (try have c0 := hI.cell (i := 0) rfl); (try have c1 := hI.cell (i := 1) rfl); (try have c2 := hI.cell (i := 2) rfl); (try have c3 := hI.cell (i := 3) rfl); (try have c4 := hI.cell (i := 4) rfl); (try have c5 := hI.cell (i := 5) rfl); skip) | (refine listI rfl fun K hK => wpI_alloc 95 rfl hI Tryz.zeroValue95 (cs := #[.int .i64 instZ.op, .int .i64 instZ.a, .int .i64 instZ.b, .int .i64 instZ.c]) (by first | rfl | kernel_rfl) fun gi w' hI' hb => hK _ _ ?_; clear hK K; (try clear hb); clear hI; have hI := hI'; clear hI'; (try simp only [mm, Act.put, Act.eval] at hI); (try clear c0); (try clear c1); (try clear c2); (try clear c3); (try clear c4); (try clear c5); (try have c0 := hI.cell (i := 0) rfl); (try have c1 := hI.cell (i := 1) rfl); (try have c2 := hI.cell (i := 2) rfl); (try have c3 := hI.cell (i := 3) rfl); (try have c4 := hI.cell (i := 4) rfl); (try have c5 := hI.cell (i := 5) rfl); skip) | (refine listI rfl fun K hK => wpI_storeW _ _ _ rfl hI rfl 2 rfl rfl rfl (by kernel_rfl) (by simp [Value.oneCell']) fun w' hI' => hK _ _ ?_; clear hK K; (try clear hb); clear hI; have hI := hI'; clear hI'; (try simp only [mm, Act.put, Act.eval] at hI); (try clear c0); (try clear c1); (try clear c2); (try clear c3); (try clear c4); (try clear c5); (try have c0 := hI.cell (i := 0) rfl); (try have c1 := hI.cell (i := 1) rfl); (try have c2 := hI.cell (i := 2) rfl); (try have c3 := hI.cell (i := 3) rfl); (try have c4 := hI.cell (i := 4) rfl); (try have c5 := hI.cell (i := 5) rfl); skip) | (refine listI rfl fun K hK => wpI_alloc 226 rfl hI Tryz.zeroValue226 (cs := #[.string ⟨#[]⟩, .bool false, .bool false, .int .u8 0]) (by first | rfl | kernel_rfl) fun gs w' hI' hb => hK _ _ ?_; clear hK K; (try clear hb); clear hI; have hI := hI'; clear hI'; (try simp only [mm, Act.put, Act.eval] at hI); (try clear c0); (try clear c1); (try clear c2); (try clear c3); (try clear c4); (try clear c5); (try have c0 := hI.cell (i := 0) rfl); (try have c1 := hI.cell (i := 1) rfl); (try have c2 := hI.cell (i := 2) rfl); (try have c3 := hI.cell (i := 3) rfl); (try have c4 := hI.cell (i := 4) rfl); (try have c5 := hI.cell (i := 5) rfl); skip) | (refine listI rfl fun K hK => wpI_storeW _ _ _ rfl hI rfl 3 rfl rfl rfl (by kernel_rfl) (by simp [Value.oneCell']) fun w' hI' => hK _ _ ?_; clear hK K; (try clear hb); clear hI; have hI := hI'; clear hI'; (try simp only [mm, Act.put, Act.eval] at hI); (try clear c0); (try clear c1); (try clear c2); (try clear c3); (try clear c4); (try clear c5); (try have c0 := hI.cell (i := 0) rfl); (try have c1 := hI.cell (i := 1) rfl); (try have c2 := hI.cell (i := 2) rfl); (try have c3 := hI.cell (i := 3) rfl); (try have c4 := hI.cell (i := 4) rfl); (try have c5 := hI.cell (i := 5) rfl); skip) | (go_at_call 29; refine (HSP.out _ _ _ hI hE.envT.env).mono ?_; rintro e w' ⟨gl, rfl, hI'⟩; (try clear hb); clear hI; have hI := hI'; clear hI'; (try simp only [mm, Act.put, Act.eval] at hI); (try clear c0); (try clear c1); (try clear c2); (try clear c3); (try clear c4); (try clear c5); (try have c0 := hI.cell (i := 0) rfl); (try have c1 := hI.cell (i := 1) rfl); (try have c2 := hI.cell (i := 2) rfl); (try have c3 := hI.cell (i := 3) rfl); (try have c4 := hI.cell (i := 4) rfl); (try have c5 := hI.cell (i := 5) rfl); skip) | (go_at_call 200; (with_reducible refine (HO.out _ (hE.envT.env.inv hI)).mono ?_); intro e w' hr; obtain ⟨rfl, hb⟩ := hr; have hI' := hI.on hb; (try clear hb); clear hI; have hI := hI'; clear hI'; (try simp only [mm, Act.put, Act.eval] at hI); (try clear c0); (try clear c1); (try clear c2); (try clear c3); (try clear c4); (try clear c5); (try have c0 := hI.cell (i := 0) rfl); (try have c1 := hI.cell (i := 1) rfl); (try have c2 := hI.cell (i := 2) rfl); (try have c3 := hI.cell (i := 3) rfl); (try have c4 := hI.cell (i := 4) rfl); (try have c5 := hI.cell (i := 5) rfl); skip) | (go_at_call 151; (with_reducible refine (HS.out _ (hE.envT.env.inv hI)).mono ?_); intro e w' hr; obtain ⟨rfl, hb⟩ := hr; have hI' := hI.on hb; (try clear hb); clear hI; have hI := hI'; clear hI'; (try simp only [mm, Act.put, Act.eval] at hI); (try clear c0); (try clear c1); (try clear c2); (try clear c3); (try clear c4); (try clear c5); (try have c0 := hI.cell (i := 0) rfl); (try have c1 := hI.cell (i := 1) rfl); (try have c2 := hI.cell (i := 2) rfl); (try have c3 := hI.cell (i := 3) rfl); (try have c4 := hI.cell (i := 4) rfl); (try have c5 := hI.cell (i := 5) rfl); skip) | (refine listI rfl fun K hK => wpI_sliceM _ _ 3 _ rfl hI Tryz.underlying261 #[.pointer (some ⟨gi, 1, none⟩), .bool h1, .pointer (some ⟨gi, 2, none⟩), .bool h2, .pointer (some ⟨gi, 3, none⟩), .bool (cb != 0)] (z := .agg #[.pointer none, .bool false]) (by kernel_rfl) (by decide) (by decide) (by kernel_rfl) fun g3 w' hI' hb => hK _ _ ?_; clear hK K; (try clear hb); clear hI; have hI := hI'; clear hI'; (try simp only [mm, Act.put, Act.eval] at hI); (try clear c0); (try clear c1); (try clear c2); (try clear c3); (try clear c4); (try clear c5); (try have c0 := hI.cell (i := 0) rfl); (try have c1 := hI.cell (i := 1) rfl); (try have c2 := hI.cell (i := 2) rfl); (try have c3 := hI.cell (i := 3) rfl); (try have c4 := hI.cell (i := 4) rfl); (try have c5 := hI.cell (i := 5) rfl); skip) | fail)
  obtain ⟨hc, hhc⟩ : ∃ hc, (cb != 0) = hc := ⟨_, rfl⟩
  rw [hhc] at hI
  rw [hhc]
  have HHC := Lib.hid (show hc = decide (h3 ≠ 0) by rw [← hhc]; exact HCB.out.1)
  clear hhc
  -- THE LOOP
  go_loopw [4, 9, 40] (fun v4 _ v wr => ∃ (k off cp : Nat) (lk : List (List UInt8)) (A B C : Int), v = .int .i64 k ∧ k ≤ 3 ∧ v4 = .slice (some ⟨gl, off, none⟩) lk.length cp ∧ lk.length ≤ cp ∧ lk ≠ [] ∧ ws.drop off = lk ∧ parseSt ws (h1, h2, hc) k = (lk, A, B, C) ∧ Inv w [.box gz 95 #[.int .i64 instZ.op, .int .i64 instZ.a, .int .i64 instZ.b, .int .i64 instZ.c], .box gl 9 pa, .box gi 95 #[.int .i64 op, .int .i64 A, .int .i64 B, .int .i64 C], .box gs 226 #[.string wd, .bool h1, .bool h2, .int .u8 cb], .box g3 260 #[.pointer (some ⟨gi, 1, none⟩), .bool h1, .pointer (some ⟨gi, 2, none⟩), .bool h2, .pointer (some ⟨gi, 3, none⟩), .bool hc]] wr) (fun _ _ v _ => (3 - intOf v).toNat)
  case atStart => exact ⟨0, 0, wt.length + 1, ws, 0, 0, 0, rfl, by omega, by rw [HWL.out], by rw [HWL.out]; exact Nat.le_refl _, by rw [HWC.out]; simp, rfl, rfl, hI⟩
  case round =>
    clear hI
    obtain ⟨k, off, cp, lk, A, B, C, rfl, hk, rfl, hcp, hne, hdr, hst, hI⟩ := hrel
    have HDR := Lib.hid hdr
    have HST := Lib.hid hst
    clear hdr hst
    have hk4 : k = 0 ∨ k = 1 ∨ k = 2 ∨ k = 3 := by omega
    rcases hk4 with rfl | rfl | rfl | rfl
    · have HNX := Lib.hid (nx0 HST.out)
      clear HST
      cases h1
      · have HST2 := Lib.hid (show parseSt ws (false, h2, hc) (0 + 1) = (lk, A, B, C) by have h := HNX.out; dsimp only at h; rw [h.1, takeF_no, ← h.2])
        clear HNX
        (try clear c0); (try clear c1); (try clear c2); (try clear c3); (try clear c4); (try clear c5); (try have c0 := hI.cell (i := 0) rfl); (try have c1 := hI.cell (i := 1) rfl); (try have c2 := hI.cell (i := 2) rfl); (try have c3 := hI.cell (i := 3) rfl); (try have c4 := hI.cell (i := 4) rfl); (try have c5 := hI.cell (i := 5) rfl); skip
        go_wp2_with (first | (refine listI_var rfl rfl 260 rfl _ _ rfl hI Tryz.zeroValue260 (fun _ => rfl) (fun _ => rfl) (by first | rfl | (simp only [hsz1]; first | done | rfl | kernel_rfl) | (simp only [hsz2]; first | done | rfl | kernel_rfl) | (simp only [hsz]; first | done | rfl | kernel_rfl) | kernel_rfl) (by first | exact info_mach (by assumption) | (simp only [hsz1]; kernel_rfl) | (simp only [hsz2]; kernel_rfl) | (simp only [hsz]; kernel_rfl) | kernel_rfl) (by first | (simp [Value.oneCell']; done) | exact HO1.out | exact HO2.out) fun gx w' hI' hb => ?_; (try clear hb); clear hI; have hI := hI'; clear hI'; (try simp only [mm, Act.put, Act.eval] at hI); (try clear c0); (try clear c1); (try clear c2); (try clear c3); (try clear c4); (try clear c5); (try have c0 := hI.cell (i := 0) rfl); (try have c1 := hI.cell (i := 1) rfl); (try have c2 := hI.cell (i := 2) rfl); (try have c3 := hI.cell (i := 3) rfl); (try have c4 := hI.cell (i := 4) rfl); (try have c5 := hI.cell (i := 5) rfl); skip) | fail)
        go_roundw
        case rel => exact ⟨0 + 1, off, cp, lk, A, B, C, by go_num, by omega, rfl, hcp, hne, HDR.out, HST2.out, hI.first [_, _, _, _, _] [_] rfl⟩
        case measure => simp [intOf]
      · rcases lk with _ | ⟨x, _ | ⟨y, tl⟩⟩
        · exact absurd rfl hne
        · have HST2 := Lib.hid (show parseSt ws (true, h2, hc) (0 + 1) = ([x], A, B, C) by have h := HNX.out; dsimp only at h; rw [h.1, takeF_one, ← h.2])
          clear HNX
          (try clear c0); (try clear c1); (try clear c2); (try clear c3); (try clear c4); (try clear c5); (try have c0 := hI.cell (i := 0) rfl); (try have c1 := hI.cell (i := 1) rfl); (try have c2 := hI.cell (i := 2) rfl); (try have c3 := hI.cell (i := 3) rfl); (try have c4 := hI.cell (i := 4) rfl); (try have c5 := hI.cell (i := 5) rfl); skip
          go_wp2_with (first | (refine listI_var rfl rfl 260 rfl _ _ rfl hI Tryz.zeroValue260 (fun _ => rfl) (fun _ => rfl) (by first | rfl | (simp only [hsz1]; first | done | rfl | kernel_rfl) | (simp only [hsz2]; first | done | rfl | kernel_rfl) | (simp only [hsz]; first | done | rfl | kernel_rfl) | kernel_rfl) (by first | exact info_mach (by assumption) | (simp only [hsz1]; kernel_rfl) | (simp only [hsz2]; kernel_rfl) | (simp only [hsz]; kernel_rfl) | kernel_rfl) (by first | (simp [Value.oneCell']; done) | exact HO1.out | exact HO2.out) fun gx w' hI' hb => ?_; (try clear hb); clear hI; have hI := hI'; clear hI'; (try simp only [mm, Act.put, Act.eval] at hI); (try clear c0); (try clear c1); (try clear c2); (try clear c3); (try clear c4); (try clear c5); (try have c0 := hI.cell (i := 0) rfl); (try have c1 := hI.cell (i := 1) rfl); (try have c2 := hI.cell (i := 2) rfl); (try have c3 := hI.cell (i := 3) rfl); (try have c4 := hI.cell (i := 4) rfl); (try have c5 := hI.cell (i := 5) rfl); skip) | fail)
          go_roundw
          case rel => exact ⟨0 + 1, off, cp, [x], A, B, C, by go_num, by omega, rfl, hcp, hne, HDR.out, HST2.out, hI.first [_, _, _, _, _] [_] rfl⟩
          case measure => simp [intOf]
        · have HST2 := Lib.hid (show parseSt ws (true, h2, hc) (0 + 1) = (y :: tl, atoiN (Lib.trimPrefix y [114]), B, C) by have h := HNX.out; dsimp only at h; rw [h.1, takeF_yes])
          have HDR2 := Lib.hid (show ws.drop (off + 1) = y :: tl by rw [← List.drop_drop, HDR.out]; rfl)
          have hwy : ws[off + 1]? = some y := by have h := HDR2.out; have h0 := congrArg (·[0]?) h; simpa using h0
          have hcy : pa[off + 1]? = some (.string (str y)) := by rw [← HPA.out]; exact strCells_at hwy
          have hyl := HL.out y (List.mem_of_getElem? hwy)
          have HAT := Lib.hid (fun w h => c_Atoi (Lib.trimPrefix y [114]) (Nat.le_trans (trim_le y) (by omega)) w h)
          have hcp1 : (tl.length : Int) + 1 + 1 ≤ (cp : Int) := by simp at hcp; omega
          have hcp2 : tl.length + 1 + 1 ≤ cp := by simp at hcp; omega
          clear HNX hwy
          (try clear c0); (try clear c1); (try clear c2); (try clear c3); (try clear c4); (try clear c5); (try have c0 := hI.cell (i := 0) rfl); (try have c1 := hI.cell (i := 1) rfl); (try have c2 := hI.cell (i := 2) rfl); (try have c3 := hI.cell (i := 3) rfl); (try have c4 := hI.cell (i := 4) rfl); (try have c5 := hI.cell (i := 5) rfl); skip
          go_wp2_with (first | (refine listI_var rfl rfl 260 rfl _ _ rfl hI Tryz.zeroValue260 (fun _ => rfl) (fun _ => rfl) (by first | rfl | (simp only [hsz1]; first | done | rfl | kernel_rfl) | (simp only [hsz2]; first | done | rfl | kernel_rfl) | (simp only [hsz]; first | done | rfl | kernel_rfl) | kernel_rfl) (by first | exact info_mach (by assumption) | (simp only [hsz1]; kernel_rfl) | (simp only [hsz2]; kernel_rfl) | (simp only [hsz]; kernel_rfl) | kernel_rfl) (by first | (simp [Value.oneCell']; done) | exact HO1.out | exact HO2.out) fun gx w' hI' hb => ?_; (try clear hb); clear hI; have hI := hI'; clear hI'; (try simp only [mm, Act.put, Act.eval] at hI); (try clear c0); (try clear c1); (try clear c2); (try clear c3); (try clear c4); (try clear c5); (try have c0 := hI.cell (i := 0) rfl); (try have c1 := hI.cell (i := 1) rfl); (try have c2 := hI.cell (i := 2) rfl); (try have c3 := hI.cell (i := 3) rfl); (try have c4 := hI.cell (i := 4) rfl); (try have c5 := hI.cell (i := 5) rfl); skip) | fail)
          (refine wp_region_KG 11 [1, 5] (by kernel_rfl) hI fun w' hI' hHeld => ?_; (try clear hb); clear hI; have hI := hI'; clear hI'; (try simp only [mm, Act.put, Act.eval] at hI); (try clear c0); (try clear c1); (try clear c2); (try clear c3); (try clear c4); (try clear c5); (try have c0 := hI.cell (i := 0) rfl); (try have c1 := hI.cell (i := 1) rfl); (try have c2 := hI.cell (i := 2) rfl); (try have c3 := hI.cell (i := 3) rfl); (try have c4 := hI.cell (i := 4) rfl); (try have c5 := hI.cell (i := 5) rfl); skip)
          (refine tg 0 ?_; (try simp only [np, Act.put])); (refine tg 1 ?_; (try simp only [np, Act.put])); (refine tg 2 ?_; (try simp only [np, Act.put])); (refine tg 3 ?_; (try simp only [np, Act.put])); (refine tg 4 ?_; (try simp only [np, Act.put]))
          refine oneG (i := 5) (by kernel_rfl) rfl (fun K hK => ?_)
          (go_simp; refine (c_TrimB _ _ _).mono ?_; rintro e w' ⟨rfl, rfl⟩; have hI' := hI; refine hK.out _ _ (hI'.held (by simp)) (fun hHeld => ?_); clear hK K; (try clear hb); clear hI; have hI := hI'; clear hI'; (try simp only [mm, Act.put, Act.eval] at hI); (try clear c0); (try clear c1); (try clear c2); (try clear c3); (try clear c4); (try clear c5); (try have c0 := hI.cell (i := 0) rfl); (try have c1 := hI.cell (i := 1) rfl); (try have c2 := hI.cell (i := 2) rfl); (try have c3 := hI.cell (i := 3) rfl); (try have c4 := hI.cell (i := 4) rfl); (try have c5 := hI.cell (i := 5) rfl); skip; (try simp only [Act.put, List.setIfInBounds_toArray, List.set_cons_zero, List.set_cons_succ]))
          refine oneG (i := 6) (by kernel_rfl) rfl (fun K hK => ?_)
          (go_simp; refine (HAT.out _ (hE.inv hI)).mono ?_; rintro e w' ⟨v, rfl, hv, hb⟩; have hI' := hI.on hb; refine hK.out _ _ (hI'.held (by simp)) (fun hHeld => ?_); clear hK K; (try clear hb); clear hI; have hI := hI'; clear hI'; (try simp only [mm, Act.put, Act.eval] at hI); (try clear c0); (try clear c1); (try clear c2); (try clear c3); (try clear c4); (try clear c5); (try have c0 := hI.cell (i := 0) rfl); (try have c1 := hI.cell (i := 1) rfl); (try have c2 := hI.cell (i := 2) rfl); (try have c3 := hI.cell (i := 3) rfl); (try have c4 := hI.cell (i := 4) rfl); (try have c5 := hI.cell (i := 5) rfl); skip; (try simp only [Act.put, List.setIfInBounds_toArray, List.set_cons_zero, List.set_cons_succ]))
          (refine tg 7 ?_; (try simp only [np, Act.put])); (refine tg 8 ?_; (try simp only [np, Act.put]))
          (refine takeGp (i := 9) rfl (by kernel_rfl) (by kernel_rfl) (by kernel_rfl) (fun _ _ _ _ h => h) (by rfl) (by assumption) ?_; refine' ⟨_, ?_, ?_⟩; rotate_left; (focus (intro w; go_simp; first | done | with_reducible rfl)); (try simp only [Act.put, List.setIfInBounds_toArray, List.set_cons_zero, List.set_cons_succ]))
          (refine tg 10 ?_; (try simp only [np, Act.put]))
          refine oneGs (i := 11) (by kernel_rfl) rfl (by kernel_rfl) (fun K hK => ?_)
          (refine stepI rfl (wpI_store1 _ _ _ rfl hI rfl 2 rfl rfl rfl (by simp) (by kernel_rfl) fun w' hI' => hK.out _ _ ?_); clear hK K; (try clear hb); clear hI; have hI := hI'; clear hI'; (try simp only [mm, Act.put, Act.eval] at hI); (try clear c0); (try clear c1); (try clear c2); (try clear c3); (try clear c4); (try clear c5); (try have c0 := hI.cell (i := 0) rfl); (try have c1 := hI.cell (i := 1) rfl); (try have c2 := hI.cell (i := 2) rfl); (try have c3 := hI.cell (i := 3) rfl); (try have c4 := hI.cell (i := 4) rfl); (try have c5 := hI.cell (i := 5) rfl); skip; (try simp only [Act.put, List.setIfInBounds_toArray, List.set_cons_zero, List.set_cons_succ]))
          refine doneG (by kernel_rfl) ?_ _
          clear hHeld
          go_wp2_with fail
          go_roundw
          case rel => exact ⟨0 + 1, off + 1, cp - 1, y :: tl, atoiN (Lib.trimPrefix y [114]), B, C, by go_num, by omega, by simp, by simp; omega, by simp, HDR2.out, HST2.out, hI.first [_, _, _, _, _] [_] rfl⟩
          case measure => simp [intOf]
    · have HNX := Lib.hid (nx1 HST.out)
      clear HST
      cases h2
      · have HST2 := Lib.hid (show parseSt ws (h1, false, hc) (1 + 1) = (lk, A, B, C) by have h := HNX.out; dsimp only at h; rw [h.1, takeF_no, ← h.2])
        clear HNX
        (try clear c0); (try clear c1); (try clear c2); (try clear c3); (try clear c4); (try clear c5); (try have c0 := hI.cell (i := 0) rfl); (try have c1 := hI.cell (i := 1) rfl); (try have c2 := hI.cell (i := 2) rfl); (try have c3 := hI.cell (i := 3) rfl); (try have c4 := hI.cell (i := 4) rfl); (try have c5 := hI.cell (i := 5) rfl); skip
        go_wp2_with (first | (refine listI_var rfl rfl 260 rfl _ _ rfl hI Tryz.zeroValue260 (fun _ => rfl) (fun _ => rfl) (by first | rfl | (simp only [hsz1]; first | done | rfl | kernel_rfl) | (simp only [hsz2]; first | done | rfl | kernel_rfl) | (simp only [hsz]; first | done | rfl | kernel_rfl) | kernel_rfl) (by first | exact info_mach (by assumption) | (simp only [hsz1]; kernel_rfl) | (simp only [hsz2]; kernel_rfl) | (simp only [hsz]; kernel_rfl) | kernel_rfl) (by first | (simp [Value.oneCell']; done) | exact HO1.out | exact HO2.out) fun gx w' hI' hb => ?_; (try clear hb); clear hI; have hI := hI'; clear hI'; (try simp only [mm, Act.put, Act.eval] at hI); (try clear c0); (try clear c1); (try clear c2); (try clear c3); (try clear c4); (try clear c5); (try have c0 := hI.cell (i := 0) rfl); (try have c1 := hI.cell (i := 1) rfl); (try have c2 := hI.cell (i := 2) rfl); (try have c3 := hI.cell (i := 3) rfl); (try have c4 := hI.cell (i := 4) rfl); (try have c5 := hI.cell (i := 5) rfl); skip) | fail)
        go_roundw
        case rel => exact ⟨1 + 1, off, cp, lk, A, B, C, by go_num, by omega, rfl, hcp, hne, HDR.out, HST2.out, hI.first [_, _, _, _, _] [_] rfl⟩
        case measure => simp [intOf]
      · rcases lk with _ | ⟨x, _ | ⟨y, tl⟩⟩
        · exact absurd rfl hne
        · have HST2 := Lib.hid (show parseSt ws (h1, true, hc) (1 + 1) = ([x], A, B, C) by have h := HNX.out; dsimp only at h; rw [h.1, takeF_one, ← h.2])
          clear HNX
          (try clear c0); (try clear c1); (try clear c2); (try clear c3); (try clear c4); (try clear c5); (try have c0 := hI.cell (i := 0) rfl); (try have c1 := hI.cell (i := 1) rfl); (try have c2 := hI.cell (i := 2) rfl); (try have c3 := hI.cell (i := 3) rfl); (try have c4 := hI.cell (i := 4) rfl); (try have c5 := hI.cell (i := 5) rfl); skip
          go_wp2_with (first | (refine listI_var rfl rfl 260 rfl _ _ rfl hI Tryz.zeroValue260 (fun _ => rfl) (fun _ => rfl) (by first | rfl | (simp only [hsz1]; first | done | rfl | kernel_rfl) | (simp only [hsz2]; first | done | rfl | kernel_rfl) | (simp only [hsz]; first | done | rfl | kernel_rfl) | kernel_rfl) (by first | exact info_mach (by assumption) | (simp only [hsz1]; kernel_rfl) | (simp only [hsz2]; kernel_rfl) | (simp only [hsz]; kernel_rfl) | kernel_rfl) (by first | (simp [Value.oneCell']; done) | exact HO1.out | exact HO2.out) fun gx w' hI' hb => ?_; (try clear hb); clear hI; have hI := hI'; clear hI'; (try simp only [mm, Act.put, Act.eval] at hI); (try clear c0); (try clear c1); (try clear c2); (try clear c3); (try clear c4); (try clear c5); (try have c0 := hI.cell (i := 0) rfl); (try have c1 := hI.cell (i := 1) rfl); (try have c2 := hI.cell (i := 2) rfl); (try have c3 := hI.cell (i := 3) rfl); (try have c4 := hI.cell (i := 4) rfl); (try have c5 := hI.cell (i := 5) rfl); skip) | fail)
          go_roundw
          case rel => exact ⟨1 + 1, off, cp, [x], A, B, C, by go_num, by omega, rfl, hcp, hne, HDR.out, HST2.out, hI.first [_, _, _, _, _] [_] rfl⟩
          case measure => simp [intOf]
        · have HST2 := Lib.hid (show parseSt ws (h1, true, hc) (1 + 1) = (y :: tl, A, atoiN (Lib.trimPrefix y [114]), C) by have h := HNX.out; dsimp only at h; rw [h.1, takeF_yes])
          have HDR2 := Lib.hid (show ws.drop (off + 1) = y :: tl by rw [← List.drop_drop, HDR.out]; rfl)
          have hwy : ws[off + 1]? = some y := by have h := HDR2.out; have h0 := congrArg (·[0]?) h; simpa using h0
          have hcy : pa[off + 1]? = some (.string (str y)) := by rw [← HPA.out]; exact strCells_at hwy
          have hyl := HL.out y (List.mem_of_getElem? hwy)
          have HAT := Lib.hid (fun w h => c_Atoi (Lib.trimPrefix y [114]) (Nat.le_trans (trim_le y) (by omega)) w h)
          have hcp1 : (tl.length : Int) + 1 + 1 ≤ (cp : Int) := by simp at hcp; omega
          have hcp2 : tl.length + 1 + 1 ≤ cp := by simp at hcp; omega
          clear HNX hwy
          (try clear c0); (try clear c1); (try clear c2); (try clear c3); (try clear c4); (try clear c5); (try have c0 := hI.cell (i := 0) rfl); (try have c1 := hI.cell (i := 1) rfl); (try have c2 := hI.cell (i := 2) rfl); (try have c3 := hI.cell (i := 3) rfl); (try have c4 := hI.cell (i := 4) rfl); (try have c5 := hI.cell (i := 5) rfl); skip
          go_wp2_with (first | (refine listI_var rfl rfl 260 rfl _ _ rfl hI Tryz.zeroValue260 (fun _ => rfl) (fun _ => rfl) (by first | rfl | (simp only [hsz1]; first | done | rfl | kernel_rfl) | (simp only [hsz2]; first | done | rfl | kernel_rfl) | (simp only [hsz]; first | done | rfl | kernel_rfl) | kernel_rfl) (by first | exact info_mach (by assumption) | (simp only [hsz1]; kernel_rfl) | (simp only [hsz2]; kernel_rfl) | (simp only [hsz]; kernel_rfl) | kernel_rfl) (by first | (simp [Value.oneCell']; done) | exact HO1.out | exact HO2.out) fun gx w' hI' hb => ?_; (try clear hb); clear hI; have hI := hI'; clear hI'; (try simp only [mm, Act.put, Act.eval] at hI); (try clear c0); (try clear c1); (try clear c2); (try clear c3); (try clear c4); (try clear c5); (try have c0 := hI.cell (i := 0) rfl); (try have c1 := hI.cell (i := 1) rfl); (try have c2 := hI.cell (i := 2) rfl); (try have c3 := hI.cell (i := 3) rfl); (try have c4 := hI.cell (i := 4) rfl); (try have c5 := hI.cell (i := 5) rfl); skip) | fail)
          (refine wp_region_KG 11 [1, 5] (by kernel_rfl) hI fun w' hI' hHeld => ?_; (try clear hb); clear hI; have hI := hI'; clear hI'; (try simp only [mm, Act.put, Act.eval] at hI); (try clear c0); (try clear c1); (try clear c2); (try clear c3); (try clear c4); (try clear c5); (try have c0 := hI.cell (i := 0) rfl); (try have c1 := hI.cell (i := 1) rfl); (try have c2 := hI.cell (i := 2) rfl); (try have c3 := hI.cell (i := 3) rfl); (try have c4 := hI.cell (i := 4) rfl); (try have c5 := hI.cell (i := 5) rfl); skip)
          (refine tg 0 ?_; (try simp only [np, Act.put])); (refine tg 1 ?_; (try simp only [np, Act.put])); (refine tg 2 ?_; (try simp only [np, Act.put])); (refine tg 3 ?_; (try simp only [np, Act.put])); (refine tg 4 ?_; (try simp only [np, Act.put]))
          refine oneG (i := 5) (by kernel_rfl) rfl (fun K hK => ?_)
          (go_simp; refine (c_TrimB _ _ _).mono ?_; rintro e w' ⟨rfl, rfl⟩; have hI' := hI; refine hK.out _ _ (hI'.held (by simp)) (fun hHeld => ?_); clear hK K; (try clear hb); clear hI; have hI := hI'; clear hI'; (try simp only [mm, Act.put, Act.eval] at hI); (try clear c0); (try clear c1); (try clear c2); (try clear c3); (try clear c4); (try clear c5); (try have c0 := hI.cell (i := 0) rfl); (try have c1 := hI.cell (i := 1) rfl); (try have c2 := hI.cell (i := 2) rfl); (try have c3 := hI.cell (i := 3) rfl); (try have c4 := hI.cell (i := 4) rfl); (try have c5 := hI.cell (i := 5) rfl); skip; (try simp only [Act.put, List.setIfInBounds_toArray, List.set_cons_zero, List.set_cons_succ]))
          refine oneG (i := 6) (by kernel_rfl) rfl (fun K hK => ?_)
          (go_simp; refine (HAT.out _ (hE.inv hI)).mono ?_; rintro e w' ⟨v, rfl, hv, hb⟩; have hI' := hI.on hb; refine hK.out _ _ (hI'.held (by simp)) (fun hHeld => ?_); clear hK K; (try clear hb); clear hI; have hI := hI'; clear hI'; (try simp only [mm, Act.put, Act.eval] at hI); (try clear c0); (try clear c1); (try clear c2); (try clear c3); (try clear c4); (try clear c5); (try have c0 := hI.cell (i := 0) rfl); (try have c1 := hI.cell (i := 1) rfl); (try have c2 := hI.cell (i := 2) rfl); (try have c3 := hI.cell (i := 3) rfl); (try have c4 := hI.cell (i := 4) rfl); (try have c5 := hI.cell (i := 5) rfl); skip; (try simp only [Act.put, List.setIfInBounds_toArray, List.set_cons_zero, List.set_cons_succ]))
          (refine tg 7 ?_; (try simp only [np, Act.put])); (refine tg 8 ?_; (try simp only [np, Act.put]))
          (refine takeGp (i := 9) rfl (by kernel_rfl) (by kernel_rfl) (by kernel_rfl) (fun _ _ _ _ h => h) (by rfl) (by assumption) ?_; refine' ⟨_, ?_, ?_⟩; rotate_left; (focus (intro w; go_simp; first | done | with_reducible rfl)); (try simp only [Act.put, List.setIfInBounds_toArray, List.set_cons_zero, List.set_cons_succ]))
          (refine tg 10 ?_; (try simp only [np, Act.put]))
          refine oneGs (i := 11) (by kernel_rfl) rfl (by kernel_rfl) (fun K hK => ?_)
          (refine stepI rfl (wpI_store1 _ _ _ rfl hI rfl 2 rfl rfl rfl (by simp) (by kernel_rfl) fun w' hI' => hK.out _ _ ?_); clear hK K; (try clear hb); clear hI; have hI := hI'; clear hI'; (try simp only [mm, Act.put, Act.eval] at hI); (try clear c0); (try clear c1); (try clear c2); (try clear c3); (try clear c4); (try clear c5); (try have c0 := hI.cell (i := 0) rfl); (try have c1 := hI.cell (i := 1) rfl); (try have c2 := hI.cell (i := 2) rfl); (try have c3 := hI.cell (i := 3) rfl); (try have c4 := hI.cell (i := 4) rfl); (try have c5 := hI.cell (i := 5) rfl); skip; (try simp only [Act.put, List.setIfInBounds_toArray, List.set_cons_zero, List.set_cons_succ]))
          refine doneG (by kernel_rfl) ?_ _
          clear hHeld
          go_wp2_with fail
          go_roundw
          case rel => exact ⟨1 + 1, off + 1, cp - 1, y :: tl, A, atoiN (Lib.trimPrefix y [114]), C, by go_num, by omega, by simp, by simp; omega, by simp, HDR2.out, HST2.out, hI.first [_, _, _, _, _] [_] rfl⟩
          case measure => simp [intOf]
    · have HNX := Lib.hid (nx2 HST.out)
      clear HST
      cases hc
      · have HST2 := Lib.hid (show parseSt ws (h1, h2, false) (2 + 1) = (lk, A, B, C) by have h := HNX.out; dsimp only at h; rw [h.1, takeF_no, ← h.2])
        clear HNX
        (try clear c0); (try clear c1); (try clear c2); (try clear c3); (try clear c4); (try clear c5); (try have c0 := hI.cell (i := 0) rfl); (try have c1 := hI.cell (i := 1) rfl); (try have c2 := hI.cell (i := 2) rfl); (try have c3 := hI.cell (i := 3) rfl); (try have c4 := hI.cell (i := 4) rfl); (try have c5 := hI.cell (i := 5) rfl); skip
        go_wp2_with (first | (refine listI_var rfl rfl 260 rfl _ _ rfl hI Tryz.zeroValue260 (fun _ => rfl) (fun _ => rfl) (by first | rfl | (simp only [hsz1]; first | done | rfl | kernel_rfl) | (simp only [hsz2]; first | done | rfl | kernel_rfl) | (simp only [hsz]; first | done | rfl | kernel_rfl) | kernel_rfl) (by first | exact info_mach (by assumption) | (simp only [hsz1]; kernel_rfl) | (simp only [hsz2]; kernel_rfl) | (simp only [hsz]; kernel_rfl) | kernel_rfl) (by first | (simp [Value.oneCell']; done) | exact HO1.out | exact HO2.out) fun gx w' hI' hb => ?_; (try clear hb); clear hI; have hI := hI'; clear hI'; (try simp only [mm, Act.put, Act.eval] at hI); (try clear c0); (try clear c1); (try clear c2); (try clear c3); (try clear c4); (try clear c5); (try have c0 := hI.cell (i := 0) rfl); (try have c1 := hI.cell (i := 1) rfl); (try have c2 := hI.cell (i := 2) rfl); (try have c3 := hI.cell (i := 3) rfl); (try have c4 := hI.cell (i := 4) rfl); (try have c5 := hI.cell (i := 5) rfl); skip) | fail)
        go_roundw
        case rel => exact ⟨2 + 1, off, cp, lk, A, B, C, by go_num, by omega, rfl, hcp, hne, HDR.out, HST2.out, hI.first [_, _, _, _, _] [_] rfl⟩
        case measure => simp [intOf]
      · rcases lk with _ | ⟨x, _ | ⟨y, tl⟩⟩
        · exact absurd rfl hne
        · have HST2 := Lib.hid (show parseSt ws (h1, h2, true) (2 + 1) = ([x], A, B, C) by have h := HNX.out; dsimp only at h; rw [h.1, takeF_one, ← h.2])
          clear HNX
          (try clear c0); (try clear c1); (try clear c2); (try clear c3); (try clear c4); (try clear c5); (try have c0 := hI.cell (i := 0) rfl); (try have c1 := hI.cell (i := 1) rfl); (try have c2 := hI.cell (i := 2) rfl); (try have c3 := hI.cell (i := 3) rfl); (try have c4 := hI.cell (i := 4) rfl); (try have c5 := hI.cell (i := 5) rfl); skip
          go_wp2_with (first | (refine listI_var rfl rfl 260 rfl _ _ rfl hI Tryz.zeroValue260 (fun _ => rfl) (fun _ => rfl) (by first | rfl | (simp only [hsz1]; first | done | rfl | kernel_rfl) | (simp only [hsz2]; first | done | rfl | kernel_rfl) | (simp only [hsz]; first | done | rfl | kernel_rfl) | kernel_rfl) (by first | exact info_mach (by assumption) | (simp only [hsz1]; kernel_rfl) | (simp only [hsz2]; kernel_rfl) | (simp only [hsz]; kernel_rfl) | kernel_rfl) (by first | (simp [Value.oneCell']; done) | exact HO1.out | exact HO2.out) fun gx w' hI' hb => ?_; (try clear hb); clear hI; have hI := hI'; clear hI'; (try simp only [mm, Act.put, Act.eval] at hI); (try clear c0); (try clear c1); (try clear c2); (try clear c3); (try clear c4); (try clear c5); (try have c0 := hI.cell (i := 0) rfl); (try have c1 := hI.cell (i := 1) rfl); (try have c2 := hI.cell (i := 2) rfl); (try have c3 := hI.cell (i := 3) rfl); (try have c4 := hI.cell (i := 4) rfl); (try have c5 := hI.cell (i := 5) rfl); skip) | fail)
          go_roundw
          case rel => exact ⟨2 + 1, off, cp, [x], A, B, C, by go_num, by omega, rfl, hcp, hne, HDR.out, HST2.out, hI.first [_, _, _, _, _] [_] rfl⟩
          case measure => simp [intOf]
        · have HST2 := Lib.hid (show parseSt ws (h1, h2, true) (2 + 1) = (y :: tl, A, B, atoiN (Lib.trimPrefix y [114])) by have h := HNX.out; dsimp only at h; rw [h.1, takeF_yes])
          have HDR2 := Lib.hid (show ws.drop (off + 1) = y :: tl by rw [← List.drop_drop, HDR.out]; rfl)
          have hwy : ws[off + 1]? = some y := by have h := HDR2.out; have h0 := congrArg (·[0]?) h; simpa using h0
          have hcy : pa[off + 1]? = some (.string (str y)) := by rw [← HPA.out]; exact strCells_at hwy
          have hyl := HL.out y (List.mem_of_getElem? hwy)
          have HAT := Lib.hid (fun w h => c_Atoi (Lib.trimPrefix y [114]) (Nat.le_trans (trim_le y) (by omega)) w h)
          have hcp1 : (tl.length : Int) + 1 + 1 ≤ (cp : Int) := by simp at hcp; omega
          have hcp2 : tl.length + 1 + 1 ≤ cp := by simp at hcp; omega
          clear HNX hwy
          (try clear c0); (try clear c1); (try clear c2); (try clear c3); (try clear c4); (try clear c5); (try have c0 := hI.cell (i := 0) rfl); (try have c1 := hI.cell (i := 1) rfl); (try have c2 := hI.cell (i := 2) rfl); (try have c3 := hI.cell (i := 3) rfl); (try have c4 := hI.cell (i := 4) rfl); (try have c5 := hI.cell (i := 5) rfl); skip
          go_wp2_with (first | (refine listI_var rfl rfl 260 rfl _ _ rfl hI Tryz.zeroValue260 (fun _ => rfl) (fun _ => rfl) (by first | rfl | (simp only [hsz1]; first | done | rfl | kernel_rfl) | (simp only [hsz2]; first | done | rfl | kernel_rfl) | (simp only [hsz]; first | done | rfl | kernel_rfl) | kernel_rfl) (by first | exact info_mach (by assumption) | (simp only [hsz1]; kernel_rfl) | (simp only [hsz2]; kernel_rfl) | (simp only [hsz]; kernel_rfl) | kernel_rfl) (by first | (simp [Value.oneCell']; done) | exact HO1.out | exact HO2.out) fun gx w' hI' hb => ?_; (try clear hb); clear hI; have hI := hI'; clear hI'; (try simp only [mm, Act.put, Act.eval] at hI); (try clear c0); (try clear c1); (try clear c2); (try clear c3); (try clear c4); (try clear c5); (try have c0 := hI.cell (i := 0) rfl); (try have c1 := hI.cell (i := 1) rfl); (try have c2 := hI.cell (i := 2) rfl); (try have c3 := hI.cell (i := 3) rfl); (try have c4 := hI.cell (i := 4) rfl); (try have c5 := hI.cell (i := 5) rfl); skip) | fail)
          (refine wp_region_KG 11 [1, 5] (by kernel_rfl) hI fun w' hI' hHeld => ?_; (try clear hb); clear hI; have hI := hI'; clear hI'; (try simp only [mm, Act.put, Act.eval] at hI); (try clear c0); (try clear c1); (try clear c2); (try clear c3); (try clear c4); (try clear c5); (try have c0 := hI.cell (i := 0) rfl); (try have c1 := hI.cell (i := 1) rfl); (try have c2 := hI.cell (i := 2) rfl); (try have c3 := hI.cell (i := 3) rfl); (try have c4 := hI.cell (i := 4) rfl); (try have c5 := hI.cell (i := 5) rfl); skip)
          (refine tg 0 ?_; (try simp only [np, Act.put])); (refine tg 1 ?_; (try simp only [np, Act.put])); (refine tg 2 ?_; (try simp only [np, Act.put])); (refine tg 3 ?_; (try simp only [np, Act.put])); (refine tg 4 ?_; (try simp only [np, Act.put]))
          refine oneG (i := 5) (by kernel_rfl) rfl (fun K hK => ?_)
          (go_simp; refine (c_TrimB _ _ _).mono ?_; rintro e w' ⟨rfl, rfl⟩; have hI' := hI; refine hK.out _ _ (hI'.held (by simp)) (fun hHeld => ?_); clear hK K; (try clear hb); clear hI; have hI := hI'; clear hI'; (try simp only [mm, Act.put, Act.eval] at hI); (try clear c0); (try clear c1); (try clear c2); (try clear c3); (try clear c4); (try clear c5); (try have c0 := hI.cell (i := 0) rfl); (try have c1 := hI.cell (i := 1) rfl); (try have c2 := hI.cell (i := 2) rfl); (try have c3 := hI.cell (i := 3) rfl); (try have c4 := hI.cell (i := 4) rfl); (try have c5 := hI.cell (i := 5) rfl); skip; (try simp only [Act.put, List.setIfInBounds_toArray, List.set_cons_zero, List.set_cons_succ]))
          refine oneG (i := 6) (by kernel_rfl) rfl (fun K hK => ?_)
          (go_simp; refine (HAT.out _ (hE.inv hI)).mono ?_; rintro e w' ⟨v, rfl, hv, hb⟩; have hI' := hI.on hb; refine hK.out _ _ (hI'.held (by simp)) (fun hHeld => ?_); clear hK K; (try clear hb); clear hI; have hI := hI'; clear hI'; (try simp only [mm, Act.put, Act.eval] at hI); (try clear c0); (try clear c1); (try clear c2); (try clear c3); (try clear c4); (try clear c5); (try have c0 := hI.cell (i := 0) rfl); (try have c1 := hI.cell (i := 1) rfl); (try have c2 := hI.cell (i := 2) rfl); (try have c3 := hI.cell (i := 3) rfl); (try have c4 := hI.cell (i := 4) rfl); (try have c5 := hI.cell (i := 5) rfl); skip; (try simp only [Act.put, List.setIfInBounds_toArray, List.set_cons_zero, List.set_cons_succ]))
          (refine tg 7 ?_; (try simp only [np, Act.put])); (refine tg 8 ?_; (try simp only [np, Act.put]))
          (refine takeGp (i := 9) rfl (by kernel_rfl) (by kernel_rfl) (by kernel_rfl) (fun _ _ _ _ h => h) (by rfl) (by assumption) ?_; refine' ⟨_, ?_, ?_⟩; rotate_left; (focus (intro w; go_simp; first | done | with_reducible rfl)); (try simp only [Act.put, List.setIfInBounds_toArray, List.set_cons_zero, List.set_cons_succ]))
          (refine tg 10 ?_; (try simp only [np, Act.put]))
          refine oneGs (i := 11) (by kernel_rfl) rfl (by kernel_rfl) (fun K hK => ?_)
          (refine stepI rfl (wpI_store1 _ _ _ rfl hI rfl 2 rfl rfl rfl (by simp) (by kernel_rfl) fun w' hI' => hK.out _ _ ?_); clear hK K; (try clear hb); clear hI; have hI := hI'; clear hI'; (try simp only [mm, Act.put, Act.eval] at hI); (try clear c0); (try clear c1); (try clear c2); (try clear c3); (try clear c4); (try clear c5); (try have c0 := hI.cell (i := 0) rfl); (try have c1 := hI.cell (i := 1) rfl); (try have c2 := hI.cell (i := 2) rfl); (try have c3 := hI.cell (i := 3) rfl); (try have c4 := hI.cell (i := 4) rfl); (try have c5 := hI.cell (i := 5) rfl); skip; (try simp only [Act.put, List.setIfInBounds_toArray, List.set_cons_zero, List.set_cons_succ]))
          refine doneG (by kernel_rfl) ?_ _
          clear hHeld
          go_wp2_with fail
          go_roundw
          case rel => exact ⟨2 + 1, off + 1, cp - 1, y :: tl, A, B, atoiN (Lib.trimPrefix y [114]), by go_num, by omega, by simp, by simp; omega, by simp, HDR2.out, HST2.out, hI.first [_, _, _, _, _] [_] rfl⟩
          case measure => simp [intOf]
    · have hgu : guess ws = ⟨op, A, B, C⟩ := by
        have h1 := HG.out
        rw [← HHC.out, HST.out] at h1
        exact h1
      have HGU := Lib.hid hgu
      clear hgu HST
      cases hok : instOk ⟨op, A, B, C⟩
      · have HT := Lib.hid (fun w h => textF_no hok ▸ c_inst_Text ⟨op, A, B, C⟩ w h)
        have HP := Lib.hid (show parseF s = (instZ, 3) from parseF_not HWS.out HGU.out (.inl hok))
        clear hok
        (try clear c0); (try clear c1); (try clear c2); (try clear c3); (try clear c4); (try clear c5); (try have c0 := hI.cell (i := 0) rfl); (try have c1 := hI.cell (i := 1) rfl); (try have c2 := hI.cell (i := 2) rfl); (try have c3 := hI.cell (i := 3) rfl); (try have c4 := hI.cell (i := 4) rfl); (try have c5 := hI.cell (i := 5) rfl); skip
        go_wp2_with (first | (go_at_call 173; (with_reducible refine (HT.out _ (hE.envT.inv hI)).mono ?_); intro e w' hr; obtain ⟨rfl, hb⟩ := hr; have hI' := hI.on hb; (try clear hb); clear hI; have hI := hI'; clear hI'; (try simp only [mm, Act.put, Act.eval] at hI); (try clear c0); (try clear c1); (try clear c2); (try clear c3); (try clear c4); (try clear c5); (try have c0 := hI.cell (i := 0) rfl); (try have c1 := hI.cell (i := 1) rfl); (try have c2 := hI.cell (i := 2) rfl); (try have c3 := hI.cell (i := 3) rfl); (try have c4 := hI.cell (i := 4) rfl); (try have c5 := hI.cell (i := 5) rfl); skip) | (refine listI rfl fun K hK => wpI_storeW _ _ _ rfl hI rfl 0 rfl rfl rfl (by kernel_rfl) (by simp [Value.oneCell']) fun w' hI' => hK _ _ ?_; clear hK K; (try clear hb); clear hI; have hI := hI'; clear hI'; (try simp only [mm, Act.put, Act.eval] at hI); (try clear c0); (try clear c1); (try clear c2); (try clear c3); (try clear c4); (try clear c5); (try have c0 := hI.cell (i := 0) rfl); (try have c1 := hI.cell (i := 1) rfl); (try have c2 := hI.cell (i := 2) rfl); (try have c3 := hI.cell (i := 3) rfl); (try have c4 := hI.cell (i := 4) rfl); (try have c5 := hI.cell (i := 5) rfl); skip) | fail)
        have hbx := hI.box (i := 0) rfl
        ((try simp only [Exit.inBlock, Exit.then]); refine bodyPost_ret (results_ct rfl rfl hbx Tryz.underlying95 rfl (by kernel_rfl)) rfl ?_)
        exact ⟨by rw [HP.out]; rfl, hI.below⟩
      · have HT := Lib.hid (fun w h => textF_ok hok ▸ c_inst_Text ⟨op, A, B, C⟩ w h)
        dsimp only at HT
        cases hd : decide (instText ⟨op, A, B, C⟩ = s)
        · have HP := Lib.hid (show parseF s = (instZ, 3) from parseF_not HWS.out HGU.out (.inr (of_decide_eq_false hd)))
          have hbe : ((str (instText ⟨op, A, B, C⟩)).toList == (str s).toList) = false := ba_ne fun h => of_decide_eq_false hd (str_inj.1 h)
          have hbe2 : ((str (instText ⟨op, A, B, C⟩)).toList != (str s).toList) = true := by simp [bne, hbe]
          clear hok hd
          generalize str (instText ⟨op, A, B, C⟩) = st at *
          generalize hss : str s = ss at *
          (try clear c0); (try clear c1); (try clear c2); (try clear c3); (try clear c4); (try clear c5); (try have c0 := hI.cell (i := 0) rfl); (try have c1 := hI.cell (i := 1) rfl); (try have c2 := hI.cell (i := 2) rfl); (try have c3 := hI.cell (i := 3) rfl); (try have c4 := hI.cell (i := 4) rfl); (try have c5 := hI.cell (i := 5) rfl); skip
          go_wp2_with (first | (go_at_call 173; (with_reducible refine (HT.out _ (hE.envT.inv hI)).mono ?_); intro e w' hr; obtain ⟨rfl, hb⟩ := hr; have hI' := hI.on hb; (try clear hb); clear hI; have hI := hI'; clear hI'; (try simp only [mm, Act.put, Act.eval] at hI); (try clear c0); (try clear c1); (try clear c2); (try clear c3); (try clear c4); (try clear c5); (try have c0 := hI.cell (i := 0) rfl); (try have c1 := hI.cell (i := 1) rfl); (try have c2 := hI.cell (i := 2) rfl); (try have c3 := hI.cell (i := 3) rfl); (try have c4 := hI.cell (i := 4) rfl); (try have c5 := hI.cell (i := 5) rfl); skip) | (refine listI rfl fun K hK => wpI_storeW _ _ _ rfl hI rfl 0 rfl rfl rfl (by kernel_rfl) (by simp [Value.oneCell']) fun w' hI' => hK _ _ ?_; clear hK K; (try clear hb); clear hI; have hI := hI'; clear hI'; (try simp only [mm, Act.put, Act.eval] at hI); (try clear c0); (try clear c1); (try clear c2); (try clear c3); (try clear c4); (try clear c5); (try have c0 := hI.cell (i := 0) rfl); (try have c1 := hI.cell (i := 1) rfl); (try have c2 := hI.cell (i := 2) rfl); (try have c3 := hI.cell (i := 3) rfl); (try have c4 := hI.cell (i := 4) rfl); (try have c5 := hI.cell (i := 5) rfl); skip) | fail)
          have hbx := hI.box (i := 0) rfl
          ((try simp only [Exit.inBlock, Exit.then]); refine bodyPost_ret (results_ct rfl rfl hbx Tryz.underlying95 rfl (by kernel_rfl)) rfl ?_)
          exact ⟨by rw [HP.out]; rfl, hI.below⟩
        · have HP := Lib.hid (show parseF s = (⟨op, A, B, C⟩, 0) from parseF_ok ⟨hok, of_decide_eq_true hd⟩)
          rw [of_decide_eq_true hd] at HT
          clear hok hd
          generalize hss : str s = ss at *
          (try clear c0); (try clear c1); (try clear c2); (try clear c3); (try clear c4); (try clear c5); (try have c0 := hI.cell (i := 0) rfl); (try have c1 := hI.cell (i := 1) rfl); (try have c2 := hI.cell (i := 2) rfl); (try have c3 := hI.cell (i := 3) rfl); (try have c4 := hI.cell (i := 4) rfl); (try have c5 := hI.cell (i := 5) rfl); skip
          go_wp2_with (first | (go_at_call 173; (with_reducible refine (HT.out _ (hE.envT.inv hI)).mono ?_); intro e w' hr; obtain ⟨rfl, hb⟩ := hr; have hI' := hI.on hb; (try clear hb); clear hI; have hI := hI'; clear hI'; (try simp only [mm, Act.put, Act.eval] at hI); (try clear c0); (try clear c1); (try clear c2); (try clear c3); (try clear c4); (try clear c5); (try have c0 := hI.cell (i := 0) rfl); (try have c1 := hI.cell (i := 1) rfl); (try have c2 := hI.cell (i := 2) rfl); (try have c3 := hI.cell (i := 3) rfl); (try have c4 := hI.cell (i := 4) rfl); (try have c5 := hI.cell (i := 5) rfl); skip) | (refine listI rfl fun K hK => wpI_storeW _ _ _ rfl hI rfl 0 rfl rfl rfl (by kernel_rfl) (by simp [Value.oneCell']) fun w' hI' => hK _ _ ?_; clear hK K; (try clear hb); clear hI; have hI := hI'; clear hI'; (try simp only [mm, Act.put, Act.eval] at hI); (try clear c0); (try clear c1); (try clear c2); (try clear c3); (try clear c4); (try clear c5); (try have c0 := hI.cell (i := 0) rfl); (try have c1 := hI.cell (i := 1) rfl); (try have c2 := hI.cell (i := 2) rfl); (try have c3 := hI.cell (i := 3) rfl); (try have c4 := hI.cell (i := 4) rfl); (try have c5 := hI.cell (i := 5) rfl); skip) | fail)
          have hbx := hI.box (i := 0) rfl
          ((try simp only [Exit.inBlock, Exit.then]); refine bodyPost_ret (results_ct rfl rfl hbx Tryz.underlying95 rfl (by kernel_rfl)) rfl ?_)
          exact ⟨by rw [HP.out]; rfl, hI.below⟩
end Go.Proofs.YtbkjhdohkdeniaaGreatDoor
namespace Go.Proofs.YtbkjhdohkdeniaaGreatDoor
open Go.RowKit
set_option maxRecDepth 100000
section
variable {P : Program} {ops : Array Oper} {rest : List Oper} {o : Oper} {a : Act} {T : Nat → Prop} {w0 w : World} {rs : List Res} {K : Act → World → Prop} {Q : Exit → Act → World → Prop}
theorem wpI_toBytes (src dst : TypeId) (x : Operand) (ho : o.op = .convert src dst x) (hI : InvT T w0 rs w) {l : List UInt8} (hx : a.eval x = .string (str l)) {u : TypeDesc} {e : TypeId} (hs : P.underlying src = some u) (hd : P.underlying dst = some (.slice e)) (he : P.underlying e = some (.int .u8))
    (h : ∀ g c ob w', (∀ (j : Nat) b, l[j]? = some b → ∀ W : World, W.heap[g]? = some ob → W.cell? ⟨g, j, none⟩ = some (.int .u8 b.toNat)) → InvT T w0 (rs ++ [.obj g ob]) w' → Below w.heap.size w w' → K (a.put o.dst (.slice (some ⟨g, 0, none⟩) l.length c)) w') : o.wp P a w K Q := by
  have hr := Lib.run_convert_string_bytes w src dst e (str l) hs hd he
  unfold Oper.wp execOp
  simp only [ho, hx, Sem.run_bind, Sem.run_pure, Result.andThen_ok, hr, str_size]
  have hb := Lib.bytesWorld_below w e (str l)
  have hn := Lib.bytesWorld_at_new w e (str l)
  refine h _ _ _ _ (fun j b hj W hW => ?_) (hI.more hb (r := .obj w.heap.size _) hn fun k hk => by cases hk; exact Nat.le_refl _) hb
  have hj' := (List.getElem?_eq_some_iff.1 hj).1
  have h2 := Lib.bytesWorld_cell w e (str l) j (by rw [str_size]; exact hj')
  rw [str_list, List.getD_eq_getElem?_getD, hj] at h2
  simp only [Option.getD_some] at h2
  rw [← h2]
  simp only [World.cell?, hW, hn]
end
theorem str_empty {l : List UInt8} (h : l.length = 0) : (str l).toList.isEmpty = true := by rw [Lib.toList_data, str_list, List.length_eq_zero_iff.1 h]; rfl
theorem str_full {l : List UInt8} (h : 0 < l.length) : (str l).toList.isEmpty = false := by
  rw [Lib.toList_data, str_list]
  cases l with
  | nil => simp at h
  | cons => rfl
theorem decV_next {l : List UInt8} {k : Nat} {c : UInt8} (h : l[k]? = some c) : decV (l.take (k + 1)) = 10 * decV (l.take k) + (c.toNat - 48) := by
  rw [List.take_add_one, h]; exact decV_snoc _ _
theorem all_next {l : List UInt8} {k : Nat} {c : UInt8} (h : l[k]? = some c) (ha : (l.take k).all isDig = true) (hc : isDig c = true) : (l.take (k + 1)).all isDig = true := by
  rw [List.take_add_one, h, List.all_append, ha]; simp [hc]
theorem dig_not {l : List UInt8} {k : Nat} {c : UInt8} (h : l[k]? = some c) (hc : isDig c = false) : l.all isDig = false := by
  rw [List.all_eq_false]; exact ⟨c, List.mem_of_getElem? h, by simp [hc]⟩
theorem num_none {s t : List UInt8} {sg low high : Int} (h : signT s = (sg, t)) (hn : t = [] ∨ 12 < t.length ∨ t.all isDig = false) : numV s = 0 ∧ numOk s low high = false := by
  unfold numOk numV
  rw [h, if_pos hn, if_pos hn]
  exact ⟨rfl, rfl⟩
theorem num_some {s t : List UInt8} {sg low high : Int} (h : signT s = (sg, t)) (h0 : t ≠ []) (h1 : t.length ≤ 12) (h2 : t.all isDig = true) : numV s = decV t * sg ∧ numOk s low high = (decide (Lib.itoa (numV s) = s) && (decide (low ≤ numV s) && decide (numV s ≤ high))) := by
  have hn : ¬ (t = [] ∨ 12 < t.length ∨ t.all isDig = false) := by rintro (h | h | h); exact h0 h; omega; rw [h2] at h; cases h
  have hv : numV s = decV t * sg := by unfold numV; rw [h, if_neg hn]
  refine ⟨hv, ?_⟩
  unfold numOk
  rw [h, if_neg hn]
theorem decV_12 {l : List UInt8} (h : l.all isDig = true) (hl : l.length ≤ 12) : decV l < 1000000000000 := Nat.lt_of_lt_of_le (decV_lt l h) (by have := Nat.pow_le_pow_right (show 0 < 10 by decide) hl; simpa using this)
set_option maxHeartbeats 8000000 in
theorem r_Numeral (s : List UInt8) (low high : Int) (w : World) : Calls Tryz.prog 87 #[.string (str s), .int .i64 low, .int .i64 high] w (Ret (.tuple #[.int .i64 (numV s), .bool (numOk s low high)]) w) := by
  have hI := Inv.start w
  by_cases hneg : ∃ r, s = 45 :: r
  · obtain ⟨r, hr⟩ := hneg
    have HS := Lib.hid (show signT s = (-1, r) by rw [hr]; rfl)
    have HP := Lib.hid (fun w => (show (⟨#[45]⟩ : ByteArray).data.toList.isPrefixOf s = true by rw [hr]; rfl) ▸ c_HasB s ⟨#[45]⟩ w)
    have hex : (str s).extract 1 (str s).size = str r := by
      apply WideShapes.bytes_inj
      rw [Lib.extract_data, str_list, str_list, str_size, hr]
      simp
    have hsz : (1 : Int) ≤ ((str s).size : Int) := by rw [str_size, hr]; simp; omega
    have hsz2 : 1 ≤ (str s).size := by omega
    clear hr
    rcases Nat.lt_or_ge 12 r.length with hlong | hshort
    · have HN := Lib.hid (num_none (low := low) (high := high) HS.out (.inr (.inl hlong)))
      have hz : (str r).size = r.length := str_size _
      have hz2 : (12 : Int) < (r.length : Int) := by omega
      have hne := str_full (l := r) (by omega)
      go_enter Tryz.func87, Tryz.ntmps87
      go_wp2_with (first | (go_at_call 86; (with_reducible refine (HP.out _).mono ?_); rintro e w1 ⟨rfl, rfl⟩) | fail)
      (refine wp_region_K [] (by kernel_rfl) hI fun w' hI' hHeld => ?_; (try clear hb); clear hI; have hI := hI'; clear hI'; (try simp only [mm, Act.put, Act.eval] at hI); (try clear c0); (try clear c1); (try clear c2); (try clear c3); (try clear c4); (try clear c5); (try have c0 := hI.cell (i := 0) rfl); (try have c1 := hI.cell (i := 1) rfl); (try have c2 := hI.cell (i := 2) rfl); (try have c3 := hI.cell (i := 3) rfl); (try have c4 := hI.cell (i := 4) rfl); (try have c5 := hI.cell (i := 5) rfl); skip)
      (refine tk 0 ?_; (try simp only [np, Act.put])); (refine tk 1 ?_; (try simp only [np, Act.put])); (refine tk 2 ?_; (try simp only [np, Act.put])); (refine tk 3 ?_; (try simp only [np, Act.put]))
      refine wpAnyH_done (by kernel_rfl) ?_ _
      clear hHeld
      go_wp2_with fail
      go_returns
      exact ⟨by rw [HN.out.1, HN.out.2]; rfl, hI.below⟩
    · have hz : (str r).size = r.length := str_size _
      rcases Nat.eq_zero_or_pos r.length with h0 | h0
      · have HN := Lib.hid (num_none (low := low) (high := high) HS.out (.inl (List.length_eq_zero_iff.1 h0)))
        have hne := str_empty h0
        go_enter Tryz.func87, Tryz.ntmps87
        go_wp2_with (first | (go_at_call 86; (with_reducible refine (HP.out _).mono ?_); rintro e w1 ⟨rfl, rfl⟩) | fail)
        (refine wp_region_K [] (by kernel_rfl) hI fun w' hI' hHeld => ?_; (try clear hb); clear hI; have hI := hI'; clear hI'; (try simp only [mm, Act.put, Act.eval] at hI); (try clear c0); (try clear c1); (try clear c2); (try clear c3); (try clear c4); (try clear c5); (try have c0 := hI.cell (i := 0) rfl); (try have c1 := hI.cell (i := 1) rfl); (try have c2 := hI.cell (i := 2) rfl); (try have c3 := hI.cell (i := 3) rfl); (try have c4 := hI.cell (i := 4) rfl); (try have c5 := hI.cell (i := 5) rfl); skip)
        (refine tk 0 ?_; (try simp only [np, Act.put])); (refine tk 1 ?_; (try simp only [np, Act.put])); (refine tk 2 ?_; (try simp only [np, Act.put])); (refine tk 3 ?_; (try simp only [np, Act.put]))
        refine wpAnyH_done (by kernel_rfl) ?_ _
        clear hHeld
        go_wp2_with fail
        go_returns
        exact ⟨by rw [HN.out.1, HN.out.2]; rfl, hI.below⟩
      · have hz2 : decide ((12 : Int) < (r.length : Int)) = false := by simp; omega
        have hne := str_full (l := r) (by omega)
        go_enter Tryz.func87, Tryz.ntmps87
        go_wp2_with (first | (go_at_call 86; (with_reducible refine (HP.out _).mono ?_); rintro e w1 ⟨rfl, rfl⟩) | fail)
        (refine wp_region_K [] (by kernel_rfl) hI fun w' hI' hHeld => ?_; (try clear hb); clear hI; have hI := hI'; clear hI'; (try simp only [mm, Act.put, Act.eval] at hI); (try clear c0); (try clear c1); (try clear c2); (try clear c3); (try clear c4); (try clear c5); (try have c0 := hI.cell (i := 0) rfl); (try have c1 := hI.cell (i := 1) rfl); (try have c2 := hI.cell (i := 2) rfl); (try have c3 := hI.cell (i := 3) rfl); (try have c4 := hI.cell (i := 4) rfl); (try have c5 := hI.cell (i := 5) rfl); skip)
        (refine tk 0 ?_; (try simp only [np, Act.put])); (refine tk 1 ?_; (try simp only [np, Act.put])); (refine tk 2 ?_; (try simp only [np, Act.put])); (refine tk 3 ?_; (try simp only [np, Act.put]))
        refine wpAnyH_done (by kernel_rfl) ?_ _
        clear hHeld
        go_wp2_with (first | ((refine listI rfl fun K hK => wpI_toBytes _ _ _ rfl hI rfl Tryz.underlying9 Tryz.underlying233 Tryz.underlying5 fun gb cb ob w' hcel hI' hb => hK _ _ ?_; clear hK K; (try clear hb); clear hI; have hI := hI'; clear hI'; (try simp only [mm, Act.put, Act.eval] at hI); (try clear c0); (try clear c1); (try clear c2); (try clear c3); (try clear c4); (try clear c5); (try have c0 := hI.cell (i := 0) rfl); (try have c1 := hI.cell (i := 1) rfl); (try have c2 := hI.cell (i := 2) rfl); (try have c3 := hI.cell (i := 3) rfl); (try have c4 := hI.cell (i := 4) rfl); (try have c5 := hI.cell (i := 5) rfl); skip); have HCE := Lib.hid hcel; clear hcel) | fail)
        go_loopw [8, 12, 28] (fun v8 _ v wr => ∃ (k : Nat) (n : Int), v = .int .i64 k ∧ v8 = .int .i64 n ∧ n = (decV (r.take k) : Nat) ∧ k ≤ r.length ∧ (r.take k).all isDig = true ∧ Inv w [.obj gb ob] wr) (fun _ _ v _ => (r.length - intOf v).toNat)
        case atStart => exact ⟨0, 0, rfl, rfl, rfl, by omega, rfl, hI⟩
        case round =>
          clear hI
          obtain ⟨k, n, rfl, rfl, hn, hk, hall, hI⟩ := hrel
          have hnb := decV_12 hall (by rw [List.length_take]; omega)
          have hn0 : 0 ≤ n ∧ n < 1000000000000 := by omega
          have HA := Lib.hid hall
          have HN := Lib.hid hn
          clear hall hn hnb
          rcases Nat.lt_or_ge k r.length with hlt | hge
          · obtain ⟨c, hc⟩ : ∃ c, r[k]? = some c := ⟨_, List.getElem?_eq_getElem hlt⟩
            have hcw := HCE.out k c hc wr (hI.ok 0 _ rfl)
            have hjt : decide ((k : Int) < (r.length : Int)) = true := by simp; omega
            have hc8 := c.toNat_lt
            cases hd : isDig c
            · have HNN := Lib.hid (num_none (low := low) (high := high) HS.out (.inr (.inr (dig_not hc hd))))
              rcases Nat.lt_or_ge c.toNat 48 with h1 | h1
              · have ht1 : (c.toNat : Int) < 48 := by omega
                go_wp2_with fail
                go_returns
                exact ⟨by rw [HNN.out.1, HNN.out.2]; rfl, hI.below⟩
              · have ht1 : decide ((c.toNat : Int) < 48) = false := by simp; omega
                have ht2 : (57 : Int) < (c.toNat : Int) := by simp [isDig] at hd; omega
                go_wp2_with fail
                go_returns
                exact ⟨by rw [HNN.out.1, HNN.out.2]; rfl, hI.below⟩
            · have hd2 : 48 ≤ c.toNat ∧ c.toNat ≤ 57 := by simpa [isDig] using hd
              have HNX := Lib.hid (decV_next hc)
              have HAX := Lib.hid (all_next hc HA.out hd)
              have ht1 : decide ((c.toNat : Int) < 48) = false := by simp; omega
              have ht2 : decide ((57 : Int) < (c.toNat : Int)) = false := by simp; omega
              have hw1 : wrap64 (10 * n) = 10 * n := by unfold wrap64; omega
              have hw2 : ((c.toNat : Int) - 48) % 256 = (c.toNat : Int) - 48 := by omega
              have hw3 : wrap64 (10 * n + ((c.toNat : Int) - 48)) = 10 * n + ((c.toNat : Int) - 48) := by unfold wrap64; omega
              clear hc hd
              go_wp2_with fail
              go_roundw
              case rel => exact ⟨k + 1, 10 * n + ((c.toNat : Int) - 48), by go_num, rfl, by rw [HNX.out, HN.out]; omega, by omega, HAX.out, hI⟩
              case measure => simp [intOf]; omega
          · obtain rfl : k = r.length := by omega
            have hjt : decide ((r.length : Int) < (r.length : Int)) = false := by simp
            have hfa := HA.out
            have hfn := HN.out
            rw [List.take_length] at hfa hfn
            obtain ⟨hv, hok⟩ := num_some (low := low) (high := high) HS.out (by rintro rfl; simp at h0) hshort hfa
            rw [← hfn] at hv
            have hwm : wrap64 (n * -1) = n * -1 := by unfold wrap64; omega
            have hvi : i64 (n * -1) := by unfold i64; omega
            rw [← hv] at hwm hvi
            have hv' : n * -1 = numV s := hv.symm
            have HD := Lib.hid (r_Digits (numV s) hvi)
            have HOK := Lib.hid hok
            clear hfa hfn hv hok hvi
            generalize numV s = nv at *
            cases hd : decide (Lib.itoa nv = s)
            · have hb : ((str (Lib.itoa nv)).toList == (str s).toList) = false := ba_ne fun h => of_decide_eq_false hd (str_inj.1 h)
              have HR := Lib.hid (show numOk s low high = false by rw [HOK.out, hd]; rfl)
              clear hd
              go_wp2_with (first | (go_at_call 56; (with_reducible refine (HD.out _).mono ?_); intro e w' hr; obtain ⟨rfl, hb⟩ := hr; have hI' := hI.on hb; (try clear hb); clear hI; have hI := hI'; clear hI'; (try simp only [mm, Act.put, Act.eval] at hI); (try clear c0); (try clear c1); (try clear c2); (try clear c3); (try clear c4); (try clear c5); (try have c0 := hI.cell (i := 0) rfl); (try have c1 := hI.cell (i := 1) rfl); (try have c2 := hI.cell (i := 2) rfl); (try have c3 := hI.cell (i := 3) rfl); (try have c4 := hI.cell (i := 4) rfl); (try have c5 := hI.cell (i := 5) rfl); skip) | fail)
              go_returns
              exact ⟨by rw [HR.out]; rfl, hI.below⟩
            · have hb : ((str (Lib.itoa nv)).toList == (str s).toList) = true := by rw [of_decide_eq_true hd]; exact beq_self_eq_true _
              cases h1 : decide (low ≤ nv)
              · have HR := Lib.hid (show numOk s low high = false by rw [HOK.out, hd, h1]; rfl)
                clear hd
                go_wp2_with (first | (go_at_call 56; (with_reducible refine (HD.out _).mono ?_); intro e w' hr; obtain ⟨rfl, hb⟩ := hr; have hI' := hI.on hb; (try clear hb); clear hI; have hI := hI'; clear hI'; (try simp only [mm, Act.put, Act.eval] at hI); (try clear c0); (try clear c1); (try clear c2); (try clear c3); (try clear c4); (try clear c5); (try have c0 := hI.cell (i := 0) rfl); (try have c1 := hI.cell (i := 1) rfl); (try have c2 := hI.cell (i := 2) rfl); (try have c3 := hI.cell (i := 3) rfl); (try have c4 := hI.cell (i := 4) rfl); (try have c5 := hI.cell (i := 5) rfl); skip) | fail)
                go_returns
                exact ⟨by rw [HR.out]; rfl, hI.below⟩
              · have HR := Lib.hid (show numOk s low high = decide (nv ≤ high) by rw [HOK.out, hd, h1]; rfl)
                clear hd
                go_wp2_with (first | (go_at_call 56; (with_reducible refine (HD.out _).mono ?_); intro e w' hr; obtain ⟨rfl, hb⟩ := hr; have hI' := hI.on hb; (try clear hb); clear hI; have hI := hI'; clear hI'; (try simp only [mm, Act.put, Act.eval] at hI); (try clear c0); (try clear c1); (try clear c2); (try clear c3); (try clear c4); (try clear c5); (try have c0 := hI.cell (i := 0) rfl); (try have c1 := hI.cell (i := 1) rfl); (try have c2 := hI.cell (i := 2) rfl); (try have c3 := hI.cell (i := 3) rfl); (try have c4 := hI.cell (i := 4) rfl); (try have c5 := hI.cell (i := 5) rfl); skip) | fail)
                go_returns
                exact ⟨by rw [HR.out]; rfl, hI.below⟩
  · have HS := Lib.hid (show signT s = (1, s) by
      cases s with
      | nil => rfl
      | cons c r => simp only [signT]; rw [if_neg]; rintro rfl; exact hneg ⟨r, rfl⟩)
    have HP := Lib.hid (fun w => (show (⟨#[45]⟩ : ByteArray).data.toList.isPrefixOf s = false by
      cases s with
      | nil => rfl
      | cons c r => simp [List.isPrefixOf]; exact fun h => hneg ⟨r, by rw [h]⟩) ▸ c_HasB s ⟨#[45]⟩ w)
    clear hneg
    rcases Nat.lt_or_ge 12 s.length with hlong | hshort
    · have HN := Lib.hid (num_none (low := low) (high := high) HS.out (.inr (.inl hlong)))
      have hz : (str s).size = s.length := str_size _
      have hz2 : (12 : Int) < (s.length : Int) := by omega
      have hne := str_full (l := s) (by omega)
      go_enter Tryz.func87, Tryz.ntmps87
      go_wp2_with (first | (go_at_call 86; (with_reducible refine (HP.out _).mono ?_); rintro e w1 ⟨rfl, rfl⟩) | fail)
      go_wp2_with fail
      go_returns
      exact ⟨by rw [HN.out.1, HN.out.2]; rfl, hI.below⟩
    · have hz : (str s).size = s.length := str_size _
      rcases Nat.eq_zero_or_pos s.length with h0 | h0
      · have HN := Lib.hid (num_none (low := low) (high := high) HS.out (.inl (List.length_eq_zero_iff.1 h0)))
        have hne := str_empty h0
        go_enter Tryz.func87, Tryz.ntmps87
        go_wp2_with (first | (go_at_call 86; (with_reducible refine (HP.out _).mono ?_); rintro e w1 ⟨rfl, rfl⟩) | fail)
        go_wp2_with fail
        go_returns
        exact ⟨by rw [HN.out.1, HN.out.2]; rfl, hI.below⟩
      · have hz2 : decide ((12 : Int) < (s.length : Int)) = false := by simp; omega
        have hne := str_full (l := s) (by omega)
        go_enter Tryz.func87, Tryz.ntmps87
        go_wp2_with (first | (go_at_call 86; (with_reducible refine (HP.out _).mono ?_); rintro e w1 ⟨rfl, rfl⟩) | ((refine listI rfl fun K hK => wpI_toBytes _ _ _ rfl hI rfl Tryz.underlying9 Tryz.underlying233 Tryz.underlying5 fun gb cb ob w' hcel hI' hb => hK _ _ ?_; clear hK K; (try clear hb); clear hI; have hI := hI'; clear hI'; (try simp only [mm, Act.put, Act.eval] at hI); (try clear c0); (try clear c1); (try clear c2); (try clear c3); (try clear c4); (try clear c5); (try have c0 := hI.cell (i := 0) rfl); (try have c1 := hI.cell (i := 1) rfl); (try have c2 := hI.cell (i := 2) rfl); (try have c3 := hI.cell (i := 3) rfl); (try have c4 := hI.cell (i := 4) rfl); (try have c5 := hI.cell (i := 5) rfl); skip); have HCE := Lib.hid hcel; clear hcel) | fail)
        go_loopw [8, 12, 28] (fun v8 _ v wr => ∃ (k : Nat) (n : Int), v = .int .i64 k ∧ v8 = .int .i64 n ∧ n = (decV (s.take k) : Nat) ∧ k ≤ s.length ∧ (s.take k).all isDig = true ∧ Inv w [.obj gb ob] wr) (fun _ _ v _ => (s.length - intOf v).toNat)
        case atStart => exact ⟨0, 0, rfl, rfl, rfl, by omega, rfl, hI⟩
        case round =>
          clear hI
          obtain ⟨k, n, rfl, rfl, hn, hk, hall, hI⟩ := hrel
          have hnb := decV_12 hall (by rw [List.length_take]; omega)
          have hn0 : 0 ≤ n ∧ n < 1000000000000 := by omega
          have HA := Lib.hid hall
          have HN := Lib.hid hn
          clear hall hn hnb
          rcases Nat.lt_or_ge k s.length with hlt | hge
          · obtain ⟨c, hc⟩ : ∃ c, s[k]? = some c := ⟨_, List.getElem?_eq_getElem hlt⟩
            have hcw := HCE.out k c hc wr (hI.ok 0 _ rfl)
            have hjt : decide ((k : Int) < (s.length : Int)) = true := by simp; omega
            have hc8 := c.toNat_lt
            cases hd : isDig c
            · have HNN := Lib.hid (num_none (low := low) (high := high) HS.out (.inr (.inr (dig_not hc hd))))
              rcases Nat.lt_or_ge c.toNat 48 with h1 | h1
              · have ht1 : (c.toNat : Int) < 48 := by omega
                go_wp2_with fail
                go_returns
                exact ⟨by rw [HNN.out.1, HNN.out.2]; rfl, hI.below⟩
              · have ht1 : decide ((c.toNat : Int) < 48) = false := by simp; omega
                have ht2 : (57 : Int) < (c.toNat : Int) := by simp [isDig] at hd; omega
                go_wp2_with fail
                go_returns
                exact ⟨by rw [HNN.out.1, HNN.out.2]; rfl, hI.below⟩
            · have hd2 : 48 ≤ c.toNat ∧ c.toNat ≤ 57 := by simpa [isDig] using hd
              have HNX := Lib.hid (decV_next hc)
              have HAX := Lib.hid (all_next hc HA.out hd)
              have ht1 : decide ((c.toNat : Int) < 48) = false := by simp; omega
              have ht2 : decide ((57 : Int) < (c.toNat : Int)) = false := by simp; omega
              have hw1 : wrap64 (10 * n) = 10 * n := by unfold wrap64; omega
              have hw2 : ((c.toNat : Int) - 48) % 256 = (c.toNat : Int) - 48 := by omega
              have hw3 : wrap64 (10 * n + ((c.toNat : Int) - 48)) = 10 * n + ((c.toNat : Int) - 48) := by unfold wrap64; omega
              clear hc hd
              go_wp2_with fail
              go_roundw
              case rel => exact ⟨k + 1, 10 * n + ((c.toNat : Int) - 48), by go_num, rfl, by rw [HNX.out, HN.out]; omega, by omega, HAX.out, hI⟩
              case measure => simp [intOf]; omega
          · obtain rfl : k = s.length := by omega
            have hjt : decide ((s.length : Int) < (s.length : Int)) = false := by simp
            have hfa := HA.out
            have hfn := HN.out
            rw [List.take_length] at hfa hfn
            obtain ⟨hv, hok⟩ := num_some (low := low) (high := high) HS.out (by rintro rfl; simp at h0) hshort hfa
            rw [← hfn] at hv
            have hwm : wrap64 (n * 1) = n * 1 := by unfold wrap64; omega
            have hvi : i64 (n * 1) := by unfold i64; omega
            rw [← hv] at hwm hvi
            have hv' : n * 1 = numV s := hv.symm
            have HD := Lib.hid (r_Digits (numV s) hvi)
            have HOK := Lib.hid hok
            clear hfa hfn hv hok hvi
            generalize numV s = nv at *
            cases hd : decide (Lib.itoa nv = s)
            · have hb : ((str (Lib.itoa nv)).toList == (str s).toList) = false := ba_ne fun h => of_decide_eq_false hd (str_inj.1 h)
              have HR := Lib.hid (show numOk s low high = false by rw [HOK.out, hd]; rfl)
              clear hd
              go_wp2_with (first | (go_at_call 56; (with_reducible refine (HD.out _).mono ?_); intro e w' hr; obtain ⟨rfl, hb⟩ := hr; have hI' := hI.on hb; (try clear hb); clear hI; have hI := hI'; clear hI'; (try simp only [mm, Act.put, Act.eval] at hI); (try clear c0); (try clear c1); (try clear c2); (try clear c3); (try clear c4); (try clear c5); (try have c0 := hI.cell (i := 0) rfl); (try have c1 := hI.cell (i := 1) rfl); (try have c2 := hI.cell (i := 2) rfl); (try have c3 := hI.cell (i := 3) rfl); (try have c4 := hI.cell (i := 4) rfl); (try have c5 := hI.cell (i := 5) rfl); skip) | fail)
              go_returns
              exact ⟨by rw [HR.out]; rfl, hI.below⟩
            · have hb : ((str (Lib.itoa nv)).toList == (str s).toList) = true := by rw [of_decide_eq_true hd]; exact beq_self_eq_true _
              cases h1 : decide (low ≤ nv)
              · have HR := Lib.hid (show numOk s low high = false by rw [HOK.out, hd, h1]; rfl)
                clear hd
                go_wp2_with (first | (go_at_call 56; (with_reducible refine (HD.out _).mono ?_); intro e w' hr; obtain ⟨rfl, hb⟩ := hr; have hI' := hI.on hb; (try clear hb); clear hI; have hI := hI'; clear hI'; (try simp only [mm, Act.put, Act.eval] at hI); (try clear c0); (try clear c1); (try clear c2); (try clear c3); (try clear c4); (try clear c5); (try have c0 := hI.cell (i := 0) rfl); (try have c1 := hI.cell (i := 1) rfl); (try have c2 := hI.cell (i := 2) rfl); (try have c3 := hI.cell (i := 3) rfl); (try have c4 := hI.cell (i := 4) rfl); (try have c5 := hI.cell (i := 5) rfl); skip) | fail)
                go_returns
                exact ⟨by rw [HR.out]; rfl, hI.below⟩
              · have HR := Lib.hid (show numOk s low high = decide (nv ≤ high) by rw [HOK.out, hd, h1]; rfl)
                clear hd
                go_wp2_with (first | (go_at_call 56; (with_reducible refine (HD.out _).mono ?_); intro e w' hr; obtain ⟨rfl, hb⟩ := hr; have hI' := hI.on hb; (try clear hb); clear hI; have hI := hI'; clear hI'; (try simp only [mm, Act.put, Act.eval] at hI); (try clear c0); (try clear c1); (try clear c2); (try clear c3); (try clear c4); (try clear c5); (try have c0 := hI.cell (i := 0) rfl); (try have c1 := hI.cell (i := 1) rfl); (try have c2 := hI.cell (i := 2) rfl); (try have c3 := hI.cell (i := 3) rfl); (try have c4 := hI.cell (i := 4) rfl); (try have c5 := hI.cell (i := 5) rfl); skip) | fail)
                go_returns
                exact ⟨by rw [HR.out]; rfl, hI.below⟩
end Go.Proofs.YtbkjhdohkdeniaaGreatDoor
