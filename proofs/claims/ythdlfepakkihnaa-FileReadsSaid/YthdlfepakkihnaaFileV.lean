/- file.Pack and the reference's FilePack as one plain function; file.Read of a short string. Conditions: none. Bytes read as a module, as plain data: what was packed is read again. Conditions: none. file's reader of bytes: what each of its steps hands back and leaves. Conditions: none. Bytes read as a module: what is read is well formed; lengths. Conditions: none. -/
import Derived.Test.YthdlfepakkihnaaFileC
import Derived.Test.YthdlfepakkihnaaFileR
namespace Go.Proofs.Ythdlfepakkihnaa
open Go.RowKit
set_option linter.unusedVariables false
set_option linter.unusedSimpArgs false
set_option maxRecDepth 100000
theorem c_FPack (mv : Value) (m : Mod) (w : World) (hwf : m.Wf) (hm : ModV w w.heap.size mv m) : Calls Try.prog 19 #[mv] w (Ret (.tuple #[.string (fileS m), .int .i64 (modE m)]) w) := by
  by_cases h : modE m = 0
  · obtain ⟨A, D, E, I, a, d, e, i, rfl, -, -, -, -, -, -, -, -, hA, hD, hE, hI⟩ := hm.ex
    have := c_FPack_ok A D E I a d e i m w hwf h hm hA hD hE hI
    rwa [h, show fileS m = str (fileL m) by unfold fileS; rw [if_pos h]]
  · rw [show fileS m = ByteArray.empty by unfold fileS; rw [if_neg h]]
    exact c_FPack_no mv m w hwf hm (by simpa using h)
theorem r_FPack (mv : Value) (m : Mod) (w : World) (hwf : m.Wf) (hm : ModV w w.heap.size mv m) : Calls Try.prog 20 #[mv] w (Ret (.tuple #[.string (fileS m), .int .i64 (modE m)]) w) := by
  by_cases h : modE m = 0
  · obtain ⟨A, D, E, I, a, d, e, i, rfl, -, -, -, -, -, -, -, -, hA, hD, hE, hI⟩ := hm.ex
    have := r_FPack_ok A D E I a d e i m w hwf h hm hA hD hE hI
    rwa [h, show fileS m = str (fileL m) by unfold fileS; rw [if_pos h]]
  · rw [show fileS m = ByteArray.empty by unfold fileS; rw [if_neg h]]
    exact r_FPack_no mv m w hwf hm (by simpa using h)
theorem c_FRead_short (s : ByteArray) (hs : s.size < 9) (w : World) : Calls Try.prog 21 #[.string s] w (Ret (.tuple #[.agg #[.slice none 0 0, .slice none 0 0, .slice none 0 0, .slice none 0 0], .int .i64 4]) w) := by
  have hI := Inv.start w
  go_enter Try.func21, Try.ntmps21
  go_wp2_with (first | (refine listI rfl fun K hK => wpI_alloc 51 rfl hI Try.zeroValue51 (cs := #[.slice none 0 0, .slice none 0 0, .slice none 0 0, .slice none 0 0]) (by first | rfl | kernel_rfl) fun gx w' hI' hb => hK _ _ ?_; clear hK K; (try replace HM1 := Lib.hid (HM1.out.grow hb)); (try replace HM2 := Lib.hid (HM2.out.grow hb)); (try replace HM3 := Lib.hid (HM3.out.grow hb)); (try replace HM4 := Lib.hid (HM4.out.grow hb)); (try clear hb); clear hI; have hI := hI'; clear hI'; (try simp only [List.cons_append, List.nil_append, List.set_cons_zero, List.set_cons_succ, List.setIfInBounds_toArray, Act.put, Act.eval, Array.getD_eq_getD_getElem?, List.getElem?_toArray, List.getElem?_cons_zero, List.getElem?_cons_succ, Option.getD_some] at hI); (try clear c0); (try clear c1); (try clear c2); (try clear c3); (try clear c4); (try clear c5); (try clear c6); (try clear c7); (try clear c8); (try clear c9); (try clear c10); (try clear c11); (try have c0 := hI.cell (i := 0) rfl); (try have c1 := hI.cell (i := 1) rfl); (try have c2 := hI.cell (i := 2) rfl); (try have c3 := hI.cell (i := 3) rfl); (try have c4 := hI.cell (i := 4) rfl); (try have c5 := hI.cell (i := 5) rfl); (try have c6 := hI.cell (i := 6) rfl); (try have c7 := hI.cell (i := 7) rfl); (try have c8 := hI.cell (i := 8) rfl); (try have c9 := hI.cell (i := 9) rfl); (try have c10 := hI.cell (i := 10) rfl); (try have c11 := hI.cell (i := 11) rfl); skip) | (refine listI rfl fun K hK => wpI_storeW _ _ _ rfl hI rfl 0 rfl rfl rfl (by kernel_rfl) (by simp [Value.oneCell']) fun w' hI' => hK _ _ ?_; clear hK K; (try replace HM1 := Lib.hid (HM1.out.grow hb)); (try replace HM2 := Lib.hid (HM2.out.grow hb)); (try replace HM3 := Lib.hid (HM3.out.grow hb)); (try replace HM4 := Lib.hid (HM4.out.grow hb)); (try clear hb); clear hI; have hI := hI'; clear hI'; (try simp only [List.cons_append, List.nil_append, List.set_cons_zero, List.set_cons_succ, List.setIfInBounds_toArray, Act.put, Act.eval, Array.getD_eq_getD_getElem?, List.getElem?_toArray, List.getElem?_cons_zero, List.getElem?_cons_succ, Option.getD_some] at hI); (try clear c0); (try clear c1); (try clear c2); (try clear c3); (try clear c4); (try clear c5); (try clear c6); (try clear c7); (try clear c8); (try clear c9); (try clear c10); (try clear c11); (try have c0 := hI.cell (i := 0) rfl); (try have c1 := hI.cell (i := 1) rfl); (try have c2 := hI.cell (i := 2) rfl); (try have c3 := hI.cell (i := 3) rfl); (try have c4 := hI.cell (i := 4) rfl); (try have c5 := hI.cell (i := 5) rfl); (try have c6 := hI.cell (i := 6) rfl); (try have c7 := hI.cell (i := 7) rfl); (try have c8 := hI.cell (i := 8) rfl); (try have c9 := hI.cell (i := 9) rfl); (try have c10 := hI.cell (i := 10) rfl); (try have c11 := hI.cell (i := 11) rfl); skip) | fail)
  have hbx := hI.box (i := 0) rfl
  ((try simp only [Exit.inBlock, Exit.then]); refine bodyPost_ret (results_ct rfl rfl hbx Try.underlying51 rfl (by kernel_rfl)) rfl ?_)
  exact ⟨rfl, hI.below⟩
end Go.Proofs.Ythdlfepakkihnaa
namespace Go.Proofs.Ythdlfepakkihnaa
open Go.RowKit
set_option linter.unusedVariables false
set_option linter.unusedSimpArgs false
set_option maxRecDepth 100000
/-- bytes as a number, the highest first -/
def deepF (l : List UInt8) : Int := l.foldl (fun n c => 256 * n + (c.toNat : Int)) 0
theorem deepF_take {l : List UInt8} {k : Nat} {c : UInt8} (h : l[k]? = some c) : deepF (l.take (k + 1)) = 256 * deepF (l.take k) + c.toNat := by
  unfold deepF; rw [List.take_add_one, h]; simp
theorem deepF_bd (l : List UInt8) : 0 ≤ deepF l ∧ deepF l < 256 ^ l.length := by
  suffices h : ∀ k, k ≤ l.length → 0 ≤ deepF (l.take k) ∧ deepF (l.take k) < 256 ^ k by simpa using h l.length (Nat.le_refl _)
  intro k
  induction k with
  | zero => intro _; simp [deepF]
  | succ k ih =>
    intro hk
    have := ih (by omega)
    obtain ⟨c, hc⟩ : ∃ c, l[k]? = some c := ⟨_, List.getElem?_eq_getElem (by omega)⟩
    have h := c.toNat_lt
    rw [deepF_take hc, Int.pow_succ]
    omega
theorem deepF_4 (l : List UInt8) (h : l.length ≤ 4) : 0 ≤ deepF l ∧ deepF l ≤ 4294967295 := by
  obtain ⟨h1, h2⟩ := deepF_bd l
  refine ⟨h1, ?_⟩
  rcases (by omega : l.length = 0 ∨ l.length = 1 ∨ l.length = 2 ∨ l.length = 3 ∨ l.length = 4) with h | h | h | h | h <;> rw [h] at h2 <;> omega
theorem deepF_1 (l : List UInt8) : 0 ≤ deepF (l.take 1) ∧ deepF (l.take 1) ≤ 255 := by
  cases l with
  | nil => decide
  | cons c l => have := c.toNat_lt; simp [deepF]; omega
theorem deepF_high4 (n : Int) (h0 : 0 ≤ n) (h1 : n < 4294967296) : deepF (high n 4) = n := by
  show 256 * (256 * (256 * (256 * 0 + ((u8 (n / 256 / 256 / 256)).toNat : Int)) + ((u8 (n / 256 / 256)).toNat : Int)) + ((u8 (n / 256)).toNat : Int)) + ((u8 n).toNat : Int) = n
  rw [u8_int, u8_int, u8_int, u8_int]
  omega
/-- the program's: so many, noughts behind the end -/
def numP : Nat → Int → List UInt8 → Int
  | 0, n, _ => n
  | k + 1, n, [] => numP k (n * 256) []
  | k + 1, n, c :: l => numP k (n * 256 + c.toNat) l
theorem numP_one (l : List UInt8) : numP 1 0 l = deepF (l.take 1) := by
  cases l with
  | nil => rfl
  | cons c l => simp [numP, deepF]
theorem numP_four (a b c d : UInt8) (l : List UInt8) : numP 4 0 (a :: b :: c :: d :: l) = deepF [a, b, c, d] := by
  simp [numP, deepF]; omega
def takeP (n : Nat) (l : List UInt8) : List UInt8 × List UInt8 := (l.take n, l.drop n)
def takeR (n : Nat) (l : List UInt8) : List UInt8 × List UInt8 := if l.length < n then ([], []) else (l.take n, l.drop n)
def numsIt (N4 : List UInt8 → Int) (tk : Nat → List UInt8 → List UInt8 × List UInt8) (l : List UInt8) : Nat → List Int × List UInt8
  | 0 => ([], l)
  | j + 1 => ((numsIt N4 tk l j).1 ++ [N4 (numsIt N4 tk l j).2 - 2147483648], (tk 4 (numsIt N4 tk l j).2).2)
/-- a name and a number behind it -/
def nameT (tk : Nat → List UInt8 → List UInt8 × List UInt8) (l : List UInt8) : (List UInt8 × Int) × List UInt8 :=
  let s := tk (deepF (l.take 1)).toNat (tk 1 l).2
  ((s.1, deepF (s.2.take 1)), (tk 1 s.2).2)
def itemIt {α : Type} (mk : ByteArray → Int → α) (tk : Nat → List UInt8 → List UInt8 × List UInt8) (l : List UInt8) : Nat → List α × List UInt8
  | 0 => ([], l)
  | j + 1 => ((itemIt mk tk l j).1 ++ [mk (str (nameT tk (itemIt mk tk l j).2).1.1) (nameT tk (itemIt mk tk l j).2).1.2], (nameT tk (itemIt mk tk l j).2).2)
theorem numsIt_len (N4 tk l) (j : Nat) : (numsIt N4 tk l j).1.length = j := by
  induction j with
  | zero => rfl
  | succ j ih => rw [numsIt, List.length_append, ih]; rfl
theorem itemIt_len {α : Type} (mk : ByteArray → Int → α) (tk l) (j : Nat) : (itemIt mk tk l j).1.length = j := by
  induction j with
  | zero => rfl
  | succ j ih => rw [itemIt, List.length_append, ih]; rfl
/-- how many: the byte at place k -/
def cntB (s : List UInt8) (k : Nat) : Nat := ((s[k]?).getD 0).toNat
theorem cntB_le (s : List UInt8) (k : Nat) : cntB s k ≤ 255 := by
  unfold cntB
  have := ((s[k]?).getD 0).toNat_lt
  omega
def rest7 (s : List UInt8) : List UInt8 := (s.take (s.length - 2)).drop 7
section
variable (N4 : List UInt8 → Int) (tk : Nat → List UInt8 → List UInt8 × List UInt8) (s : List UInt8)
def rd1 := numsIt N4 tk (rest7 s) (cntB s 3)
def rd2 := numsIt N4 tk (rd1 N4 tk s).2 (cntB s 4)
def rd3 := itemIt Label.mk tk (rd2 N4 tk s).2 (cntB s 5)
def rd4 := itemIt Import.mk tk (rd3 N4 tk s).2 (cntB s 6)
def readM : Mod := ⟨(rd1 N4 tk s).1, (rd2 N4 tk s).1, (rd3 N4 tk s).1, (rd4 N4 tk s).1⟩
def zeroM : Mod := ⟨[], [], [], []⟩
def readG (m : Mod) : Mod × Int := if modE m = 0 ∧ fileS m = str s then (m, 0) else (zeroM, 5)
def readE : Mod × Int :=
  if 4000 < s.length then (zeroM, 2) else if s.length < 9 then (zeroM, 4) else
  if s.drop (s.length - 2) = high (sumB (s.take (s.length - 2))) 2 then readG s (readM N4 tk s) else (zeroM, 6)
end
section
variable {N4 : List UInt8 → Int} {tk : Nat → List UInt8 → List UInt8 × List UInt8}
/-- reads back what was put -/
structure Reads (N4 : List UInt8 → Int) (tk : Nat → List UInt8 → List UInt8 × List UInt8) : Prop where
  take : ∀ k l, tk k.length (k ++ l) = (k, l)
  num : ∀ n l, -2147483648 ≤ n → n ≤ 2147483647 → N4 (high (n + 2147483648) 4 ++ l) = n + 2147483648
theorem Reads.nums (h : Reads N4 tk) (xs : List Int) (hx : ∀ n ∈ xs, -2147483648 ≤ n ∧ n ≤ 2147483647) (l : List UInt8) (j : Nat) (hj : j ≤ xs.length) : numsIt N4 tk (numB xs ++ l) j = (xs.take j, numB (xs.drop j) ++ l) := by
  induction j with
  | zero => rfl
  | succ j ih =>
    have h1 := ih (by omega)
    have hlt : j < xs.length := by omega
    obtain ⟨h2, h3⟩ := hx xs[j] (List.getElem_mem hlt)
    have hd : numB (xs.drop j) ++ l = high (xs[j] + 2147483648) 4 ++ (numB (xs.drop (j + 1)) ++ l) := by
      rw [List.drop_eq_getElem_cons hlt]; unfold numB; rw [List.flatMap_cons, List.append_assoc]
    rw [numsIt, h1]
    dsimp only
    rw [hd, h.num _ _ h2 h3]
    have := h.take (high (xs[j] + 2147483648) 4) (numB (xs.drop (j + 1)) ++ l)
    rw [high_len] at this
    rw [this, List.take_add_one, List.getElem?_eq_getElem hlt]
    simp
theorem Reads.name (h : Reads N4 tk) (b : ByteArray) (n : Int) (hb : b.size ≤ 12) (h0 : 0 ≤ n) (h1 : n ≤ 255) (l : List UInt8) : nameT tk (itemB b n ++ l) = ((b.data.toList, n), l) := by
  have e : itemB b n ++ l = [u8 (b.size : Int)] ++ (b.data.toList ++ ([u8 n] ++ l)) := by unfold itemB; simp
  have t1 := h.take [u8 (b.size : Int)] (b.data.toList ++ ([u8 n] ++ l))
  have t2 := h.take b.data.toList ([u8 n] ++ l)
  have t3 := h.take [u8 n] l
  have d1 : deepF (([u8 (b.size : Int)] ++ (b.data.toList ++ ([u8 n] ++ l))).take 1) = b.size := by
    show 256 * 0 + ((u8 (b.size : Int)).toNat : Int) = _
    rw [u8_int]; omega
  have d2 : deepF (([u8 n] ++ l).take 1) = n := by
    show 256 * 0 + ((u8 n).toNat : Int) = _
    rw [u8_int]; omega
  have hz : ((b.size : Int)).toNat = b.data.toList.length := rfl
  unfold nameT
  rw [e, d1, hz]
  rw [show tk 1 ([u8 (b.size : Int)] ++ (b.data.toList ++ ([u8 n] ++ l))) = ([u8 (b.size : Int)], b.data.toList ++ ([u8 n] ++ l)) from t1]
  dsimp only
  rw [t2]
  dsimp only
  rw [d2, show tk 1 ([u8 n] ++ l) = ([u8 n], l) from t3]
theorem Reads.items (h : Reads N4 tk) {α : Type} (mk : ByteArray → Int → α) (nm : α → ByteArray) (nn : α → Int) (he : ∀ x, mk (nm x) (nn x) = x) (xs : List α) (hx : ∀ x ∈ xs, (nm x).size ≤ 12 ∧ 0 ≤ nn x ∧ nn x ≤ 255) (l : List UInt8) (j : Nat) (hj : j ≤ xs.length) :
    itemIt mk tk ((xs.flatMap fun x => itemB (nm x) (nn x)) ++ l) j = (xs.take j, ((xs.drop j).flatMap fun x => itemB (nm x) (nn x)) ++ l) := by
  induction j with
  | zero => rfl
  | succ j ih =>
    have h1 := ih (by omega)
    have hlt : j < xs.length := by omega
    obtain ⟨h2, h3, h4⟩ := hx xs[j] (List.getElem_mem hlt)
    have hd : ((xs.drop j).flatMap fun x => itemB (nm x) (nn x)) ++ l = itemB (nm xs[j]) (nn xs[j]) ++ (((xs.drop (j + 1)).flatMap fun x => itemB (nm x) (nn x)) ++ l) := by
      rw [List.drop_eq_getElem_cons hlt, List.flatMap_cons, List.append_assoc]
    rw [itemIt, h1]
    dsimp only
    rw [hd, h.name _ _ h2 h3 h4, str_of, he, List.take_add_one, List.getElem?_eq_getElem hlt]
    simp
theorem readsP : Reads (numP 4 0) takeP where
  take k l := by unfold takeP; rw [List.take_left, List.drop_left]
  num n l h1 h2 := by
    have := deepF_high4 (n + 2147483648) (by omega) (by omega)
    have e : high (n + 2147483648) 4 = [u8 ((n + 2147483648) / 256 / 256 / 256), u8 ((n + 2147483648) / 256 / 256), u8 ((n + 2147483648) / 256), u8 (n + 2147483648)] := rfl
    rw [e] at this ⊢
    exact (numP_four _ _ _ _ l).trans this
theorem readsR : Reads (fun l => deepF (takeR 4 l).1) takeR where
  take k l := by unfold takeR; rw [if_neg (by simp), List.take_left, List.drop_left]
  num n l h1 h2 := by
    have := deepF_high4 (n + 2147483648) (by omega) (by omega)
    have e : takeR 4 (high (n + 2147483648) 4 ++ l) = (high (n + 2147483648) 4, l) := by
      have h := high_len (n + 2147483648) 4
      unfold takeR
      rw [if_neg (by rw [List.length_append, h]; omega)]
      have h3 := List.take_left (l₁ := high (n + 2147483648) 4) (l₂ := l)
      have h4 := List.drop_left (l₁ := high (n + 2147483648) 4) (l₂ := l)
      rw [h] at h3 h4
      rw [h3, h4]
    rw [e]
    exact this
theorem Reads.mod (h : Reads N4 tk) {m : Mod} (hm : modE m = 0) : readM N4 tk (fileL m) = m := by
  obtain ⟨hs1, hs2, hs3, hs4⟩ := modE_sizes (m := m) (by rw [hm]; rfl)
  have hl : (fileL m).length = (bodyB m).length + 2 := by unfold fileL; rw [List.length_append, high_len]
  have hb : (fileL m).take ((fileL m).length - 2) = bodyB m := by rw [hl, Nat.add_sub_cancel]; unfold fileL; exact List.take_left
  have h7 : rest7 (fileL m) = numB m.code ++ (numB m.data ++ (expB m.exports ++ (impB m.imports ++ []))) := by
    unfold rest7
    rw [hb]
    have : bodyB m = topB m ++ (numB m.code ++ (numB m.data ++ (expB m.exports ++ (impB m.imports ++ [])))) := by unfold bodyB; rw [numB_app]; simp
    rw [this]
    exact List.drop_left (l₁ := topB m)
  have hat : ∀ k c, k < 7 → (topB m)[k]? = some c → cntB (fileL m) k = c.toNat := fun k c hk hc => by
    unfold cntB fileL bodyB
    rw [List.getElem?_append_left (by simp [topB]; omega), List.append_assoc, List.append_assoc, List.getElem?_append_left (by simp [topB]; omega), hc]; rfl
  have u : ∀ n : Nat, n ≤ 255 → (u8 (n : Int)).toNat = n := fun n hn => by have := u8_int (n : Int); omega
  have c3 : cntB (fileL m) 3 = m.code.length := (hat 3 _ (by omega) rfl).trans (u _ (by omega))
  have c4 : cntB (fileL m) 4 = m.data.length := (hat 4 _ (by omega) rfl).trans (u _ (by omega))
  have c5 : cntB (fileL m) 5 = m.exports.length := (hat 5 _ (by omega) rfl).trans (u _ (by omega))
  have c6 : cntB (fileL m) 6 = m.imports.length := (hat 6 _ (by omega) rfl).trans (u _ (by omega))
  have e1 : rd1 N4 tk (fileL m) = (m.code, numB m.data ++ (expB m.exports ++ (impB m.imports ++ []))) := by
    unfold rd1
    rw [h7, c3, h.nums m.code (fun n hn => modE_nums hm (List.mem_append_left _ hn)) _ _ (Nat.le_refl _), List.take_length, List.drop_length]; rfl
  have e2 : rd2 N4 tk (fileL m) = (m.data, expB m.exports ++ (impB m.imports ++ [])) := by
    unfold rd2
    rw [e1, c4, h.nums m.data (fun n hn => modE_nums hm (List.mem_append_right _ hn)) _ _ (Nat.le_refl _), List.take_length, List.drop_length]; rfl
  have e3 : rd3 N4 tk (fileL m) = (m.exports, impB m.imports ++ []) := by
    unfold rd3
    rw [e2, c5]
    dsimp only
    unfold expB
    rw [h.items Label.mk Label.name Label.pos (fun _ => rfl) m.exports (fun x hx => ⟨modE_expN hm hx, by have := modE_exp hm hx; omega⟩) _ _ (Nat.le_refl _), List.take_length, List.drop_length]; rfl
  have e4 : rd4 N4 tk (fileL m) = (m.imports, []) := by
    unfold rd4
    rw [e3, c6]
    dsimp only
    unfold impB
    rw [h.items Import.mk Import.name Import.slot (fun _ => rfl) m.imports (fun x hx => ⟨modE_impN hm hx, by obtain ⟨s, h1, h2⟩ := modE_imp hm hx; omega⟩) _ _ (Nat.le_refl _), List.take_length, List.drop_length]; rfl
  unfold readM
  rw [e1, e2, e3, e4]
end
theorem fileS_str {m : Mod} {s : List UInt8} (h : modE m = 0) (hs : fileS m = str s) : fileL m = s := by
  unfold fileS at hs
  rw [if_pos h] at hs
  rw [← str_list (fileL m), ← str_list s, hs]
theorem readG_eq {s : List UInt8} {N4 N4' : List UInt8 → Int} {tk tk' : Nat → List UInt8 → List UInt8 × List UInt8} (h : Reads N4 tk) (h' : Reads N4' tk') : readG s (readM N4 tk s) = readG s (readM N4' tk' s) := by
  by_cases h1 : modE (readM N4 tk s) = 0 ∧ fileS (readM N4 tk s) = str s
  · have h2 := fileS_str h1.1 h1.2
    have h3 := h'.mod h1.1
    rw [h2] at h3
    rw [h3]
  · by_cases h1' : modE (readM N4' tk' s) = 0 ∧ fileS (readM N4' tk' s) = str s
    · have h2 := fileS_str h1'.1 h1'.2
      have h3 := h.mod h1'.1
      rw [h2] at h3
      rw [h3]
    · unfold readG; rw [if_neg h1, if_neg h1']
def readP (s : List UInt8) : Mod × Int := readE (numP 4 0) takeP s
def readR (s : List UInt8) : Mod × Int := readE (fun l => deepF (takeR 4 l).1) takeR s
theorem readP_eq (s : List UInt8) : readP s = readR s := by
  unfold readP readR readE
  rw [readG_eq readsP readsR]
end Go.Proofs.Ythdlfepakkihnaa
namespace Go.Proofs.Ythdlfepakkihnaa
open Go.RowKit
set_option linter.unusedVariables false
set_option linter.unusedSimpArgs false
set_option maxRecDepth 100000
theorem extF (l : List UInt8) (a b : Nat) : (str l).extract a b = str ((l.drop a).take (b - a)) := by
  apply WideShapes.bytes_inj
  simp [str, ByteArray.data_extract, List.take_drop]
theorem extF0 (l : List UInt8) (b : Nat) : (str l).extract 0 b = str (l.take b) := by rw [extF]; rfl
theorem extFe (l : List UInt8) (a : Nat) : (str l).extract a l.length = str (l.drop a) := by
  rw [extF, List.take_of_length_le (by rw [List.length_drop]; exact Nat.le_refl _)]
def rdR (g : Nat) (l : List UInt8) : List Res := [.box g 100 #[.string (str l)]]
set_option maxHeartbeats 1000000 in
theorem c_text (g : Nat) (l : List UInt8) (n : Nat) (hn : n ≤ 100000) (hl : l.length ≤ 100000) (w : World) (hI : InvT (Blks (rdR g l)) w (rdR g l) w) :
    Calls Try.prog 75 #[.pointer (some ⟨g, 0, none⟩), .int .i64 n] w (fun e w' => e = .returned (.string (str (l.take n))) ∧ InvT (Blks (rdR g l)) w (rdR g (l.drop n)) w') := by
  generalize Blks (rdR g l) = T at hI ⊢
  unfold rdR at hI ⊢
  have hs := str_size l
  have hx := extF0 l
  have hxe := extFe l
  go_enter Try.func75, Try.ntmps75
  (try have c0 := hI.cell (i := 0) rfl); (try have c1 := hI.cell (i := 1) rfl); (try have c2 := hI.cell (i := 2) rfl); (try have c3 := hI.cell (i := 3) rfl); (try have c4 := hI.cell (i := 4) rfl); (try have c5 := hI.cell (i := 5) rfl); (try have c6 := hI.cell (i := 6) rfl); (try have c7 := hI.cell (i := 7) rfl); (try have c8 := hI.cell (i := 8) rfl); (try have c9 := hI.cell (i := 9) rfl); (try have c10 := hI.cell (i := 10) rfl); (try have c11 := hI.cell (i := 11) rfl); skip
  go_wp2_with (first | (refine listI rfl fun K hK => wpI_store1 _ _ _ rfl hI rfl 0 rfl rfl rfl (by simp) (by kernel_rfl) fun w' hI' => hK _ _ ?_; clear hK K; (try replace HM1 := Lib.hid (HM1.out.grow hb)); (try replace HM2 := Lib.hid (HM2.out.grow hb)); (try replace HM3 := Lib.hid (HM3.out.grow hb)); (try replace HM4 := Lib.hid (HM4.out.grow hb)); (try clear hb); clear hI; have hI := hI'; clear hI'; (try simp only [List.cons_append, List.nil_append, List.set_cons_zero, List.set_cons_succ, List.setIfInBounds_toArray, Act.put, Act.eval, Array.getD_eq_getD_getElem?, List.getElem?_toArray, List.getElem?_cons_zero, List.getElem?_cons_succ, Option.getD_some] at hI); (try clear c0); (try clear c1); (try clear c2); (try clear c3); (try clear c4); (try clear c5); (try clear c6); (try clear c7); (try clear c8); (try clear c9); (try clear c10); (try clear c11); (try have c0 := hI.cell (i := 0) rfl); (try have c1 := hI.cell (i := 1) rfl); (try have c2 := hI.cell (i := 2) rfl); (try have c3 := hI.cell (i := 3) rfl); (try have c4 := hI.cell (i := 4) rfl); (try have c5 := hI.cell (i := 5) rfl); (try have c6 := hI.cell (i := 6) rfl); (try have c7 := hI.cell (i := 7) rfl); (try have c8 := hI.cell (i := 8) rfl); (try have c9 := hI.cell (i := 9) rfl); (try have c10 := hI.cell (i := 10) rfl); (try have c11 := hI.cell (i := 11) rfl); skip) | fail)
  have e1 : (min (n : Int) (l.length : Int)).toNat = min n l.length := by omega
  have e2 : l.take (min n l.length) = l.take n := by
    rcases Nat.le_total n l.length with h | h
    · rw [Nat.min_eq_left h]
    · rw [Nat.min_eq_right h, List.take_length, List.take_of_length_le h]
  have e3 : l.drop (min n l.length) = l.drop n := by
    rcases Nat.le_total n l.length with h | h
    · rw [Nat.min_eq_left h]
    · rw [Nat.min_eq_right h, List.drop_length, List.drop_of_length_le h]
  rw [e1, e3] at hI
  rw [e1, e2, e3]
  go_returns
  exact ⟨rfl, hI⟩
theorem numP_snoc (k : Nat) : ∀ (n : Int) (l : List UInt8), numP (k + 1) n l = numP k n l * 256 + (((l[k]?).getD 0).toNat : Int) := by
  induction k with
  | zero => intro n l; cases l <;> simp [numP]
  | succ k ih =>
    intro n l
    cases l with
    | nil => rw [numP, ih]; simp [numP]
    | cons c l => rw [numP, ih]; simp [numP]
theorem numP_bd (l : List UInt8) (k : Nat) : 0 ≤ numP k 0 l ∧ numP k 0 l < 256 ^ k := by
  induction k with
  | zero => simp [numP]
  | succ k ih =>
    rw [numP_snoc, Int.pow_succ]
    have := ((l[k]?).getD 0).toNat_lt
    omega
theorem or_addF (x y : Int) (j : Nat) (hj : j < 63) (hx : 0 ≤ x) (hxm : x % 2 ^ j = 0) (hy : 0 ≤ y) (hyl : y < 2 ^ j) (hs : x + y < 9223372036854775808) : bits .or .i64 x y = x + y := by
  have e : bits .or .i64 x y = wrap64 ((BitVec.ofInt 64 x ||| BitVec.ofInt 64 y).toNat : Int) := by
    unfold bits; exact IntWalk.i64_left _
  obtain ⟨a, rfl⟩ := Int.eq_ofNat_of_zero_le hx
  obtain ⟨b, rfl⟩ := Int.eq_ofNat_of_zero_le hy
  have hb : b < 2 ^ j := by exact_mod_cast hyl
  have ha : a % 2 ^ j = 0 := by exact_mod_cast hxm
  have h1 : (BitVec.ofInt 64 (a : Int)).toNat = a := by simp [BitVec.toNat_ofInt]; omega
  have h2 : (BitVec.ofInt 64 (b : Int)).toNat = b := by simp [BitVec.toNat_ofInt]; omega
  obtain ⟨c, hc⟩ := Nat.dvd_of_mod_eq_zero ha
  have h3 : a ||| b = a + b := by rw [hc, Nat.two_pow_add_eq_or_of_lt hb]
  rw [e, BitVec.toNat_or, h1, h2, h3]
  unfold wrap64
  omega
theorem c_text1 (g : Nat) (l : List UInt8) (k : Nat) (hl : l.length ≤ 100000) (w : World) (hI : InvT (Blks (rdR g (l.drop k))) w (rdR g (l.drop k)) w) :
    Calls Try.prog 75 #[.pointer (some ⟨g, 0, none⟩), .int .i64 1] w (fun e w' => e = .returned (.string (str (l[k]?).toList)) ∧ InvT (Blks (rdR g (l.drop k))) w (rdR g (l.drop (k + 1))) w') := by
  have h := c_text g (l.drop k) 1 (by omega) (by rw [List.length_drop]; omega) w hI
  rw [List.drop_drop] at h
  have e : (l.drop k).take 1 = (l[k]?).toList := by
    rcases Nat.lt_or_ge k l.length with hlt | hge
    · rw [List.drop_eq_getElem_cons hlt, List.getElem?_eq_getElem hlt]; rfl
    · rw [List.drop_of_length_le hge, List.getElem?_eq_none hge]; rfl
  rw [e] at h
  exact h
set_option maxHeartbeats 1000000 in
theorem c_number (g : Nat) (l : List UInt8) (many : Nat) (hm : many ≤ 4) (hl : l.length ≤ 100000) (w : World) (hI : InvT (Blks (rdR g l)) w (rdR g l) w) :
    Calls Try.prog 45 #[.pointer (some ⟨g, 0, none⟩), .int .i64 many] w (fun e w' => e = .returned (.int .i64 (numP many 0 l)) ∧ InvT (Blks (rdR g l)) w (rdR g (l.drop many)) w') := by
  have HT := Lib.hid (fun k (w : World) hI => c_text1 g l k hl w hI)
  generalize Blks (rdR g l) = T at hI ⊢
  have hs := str_size
  go_enter Try.func45, Try.ntmps45
  go_wp2_with fail
  go_loopw [5, 8] (fun v i wr => ∃ k : Nat, k ≤ many ∧ i = .int .i64 k ∧ v = .int .i64 (numP k 0 l) ∧ InvT T w (rdR g (l.drop k)) wr) (fun _ i _ => many - (intOf i).toNat)
  case atStart => exact ⟨0, by omega, rfl, rfl, hI⟩
  case round =>
    clear hI
    obtain ⟨k, hk, rfl, rfl, hI⟩ := hrel
    obtain ⟨b1, b2⟩ := numP_bd l k
    obtain ⟨d, hd⟩ : ∃ d, d = numP k 0 l := ⟨_, rfl⟩
    have HD := Lib.hid hd
    rw [← hd] at b1 b2 ⊢
    clear hd
    rcases Nat.lt_or_ge k many with hlt | hge
    · have b3 : d < 16777216 := by
        have p : (256 : Int) ^ k ≤ 16777216 := by
          rcases (by omega : k = 0 ∨ k = 1 ∨ k = 2 ∨ k = 3) with h | h | h | h <;> rw [h] <;> decide
        omega
      clear b2
      cases hc : l[k]? with
      | none =>
        have HC := Lib.hid hc
        have HT1 := Lib.hid (HT.out k)
        rw [hc] at HT1
        clear hc
        have hne : (!(str ([] : List UInt8)).toList.isEmpty) = false := by rw [ByteArray.toList_eq, str_list]; rfl
        go_wp2_with (first | (go_at_call 75; (with_reducible refine (HT1.out _ (hI.enter (rc := rdR g (l.drop k)) (ts := []))).mono ?_); rintro e w' ⟨rfl, hc⟩; replace hI := InvT.frame (rc := rdR g (l.drop k)) (ts := []) hI hc; clear hc; rw [List.append_nil] at hI) | fail)
        go_roundw
        case rel => exact ⟨k + 1, by omega, by go_num, by rw [numP_snoc, HC.out, ← HD.out]; simp, hI⟩
        case measure => simp [intOf]; omega
      | some c =>
        have hc8 := c.toNat_lt
        have HC := Lib.hid hc
        have HT1 := Lib.hid (HT.out k)
        rw [hc] at HT1
        clear hc
        have hat : ∀ h, (str [c])[0]'h = c := fun h => rfl
        have hne : (!(str [c]).toList.isEmpty) = true := by rw [ByteArray.toList_eq, str_list]; rfl
        go_wp2_with (first | (go_at_call 75; (with_reducible refine (HT1.out _ (hI.enter (rc := rdR g (l.drop k)) (ts := []))).mono ?_); rintro e w' ⟨rfl, hc⟩; replace hI := InvT.frame (rc := rdR g (l.drop k)) (ts := []) hI hc; clear hc; rw [List.append_nil] at hI) | fail)
        go_roundw
        case rel => exact ⟨k + 1, by omega, by go_num, by rw [numP_snoc, HC.out, ← HD.out, or_addF (d * 256) c.toNat 8 (by decide) (by omega) (by show d * 256 % 256 = 0; omega) (by omega) (by show (c.toNat : Int) < 256; omega) (by omega)]; rfl, hI⟩
        case measure => simp [intOf]; omega
    · obtain rfl : k = many := by omega
      have hdn : decide (k < k) = false := by simp
      go_wp2_with fail
      go_returns
      exact ⟨by rw [HD.out] <;> rfl, hI⟩
theorem numsIt_rest (l : List UInt8) (j : Nat) : (numsIt (numP 4 0) takeP l j).2.length ≤ l.length := by
  induction j with
  | zero => exact Nat.le_refl _
  | succ j ih => show ((numsIt (numP 4 0) takeP l j).2.drop 4).length ≤ _; rw [List.length_drop]; omega
set_option maxHeartbeats 1000000 in
theorem c_rnumbers (g : Nat) (l : List UInt8) (many : Nat) (hm : many ≤ 255) (hl : l.length ≤ 100000) (w : World) (hI : InvT (Blks (rdR g l)) w (rdR g l) w) :
    Calls Try.prog 46 #[.pointer (some ⟨g, 0, none⟩), .int .i64 many] w (fun e w' => ∃ v, e = .returned v ∧ InvT (Blks (rdR g l)) w (rdR g (numsIt (numP 4 0) takeP l many).2 ++ [.row 3 1 v (numsIt (numP 4 0) takeP l many).1.length ((numsIt (numP 4 0) takeP l many).1.flatMap encI)]) w') := by
  generalize Blks (rdR g l) = T at hI ⊢
  replace hI := hI.nilrow 3 1
  go_enter Try.func46, Try.ntmps46
  go_wp2_with fail
  go_loopw [4, 6] (fun v i wr => ∃ (k : Nat) (xs : List Int) (r : List UInt8), k ≤ many ∧ i = .int .i64 k ∧ numsIt (numP 4 0) takeP l k = (xs, r) ∧ InvT T w (rdR g r ++ [.row 3 1 v xs.length (xs.flatMap encI)]) wr) (fun _ i _ => many - (intOf i).toNat)
  case atStart => exact ⟨0, [], l, by omega, rfl, rfl, hI⟩
  case round =>
    clear hI
    obtain ⟨k, xs, r, hk, rfl, hxr, hI⟩ := hrel
    have HXR := Lib.hid hxr
    have hr := numsIt_rest l k
    have hxl := numsIt_len (numP 4 0) takeP l k
    rw [hxr] at hr hxl
    dsimp only at hr hxl
    have hxk : xs.length ≤ 255 := by omega
    clear hxr hxl
    rcases Nat.lt_or_ge k many with hlt | hge
    · obtain ⟨b1, b2⟩ := numP_bd r 4
      have HC := Lib.hid (fun (w : World) hI => c_number g r 4 (by decide) (by omega) w hI)
      obtain ⟨d, hd⟩ : ∃ d, numP 4 0 r = d := ⟨_, rfl⟩
      rw [hd] at b1 b2 HC
      have HD := Lib.hid hd
      have b3 : d < 4294967296 := b2
      clear b2 hd
      go_wp2_with (first
        | (go_at_call 45; refine (HC.out _ (hI.enter (rc := rdR g r) (ts := [_]))).mono ?_; rintro e w' ⟨rfl, hc⟩; replace hI := InvT.frame (rc := rdR g r) (ts := [_]) hI hc; clear hc; unfold rdR at hI; simp only [List.cons_append, List.nil_append] at hI)
        | (refine listI rfl fun K hK => wpI_slice1 _ 3 _ rfl hI Try.underlying29 rfl (size := 1) (by kernel_rfl) rfl fun gx w' hI' hb => hK _ _ ?_; clear hK K; (try replace HM1 := Lib.hid (HM1.out.grow hb)); (try replace HM2 := Lib.hid (HM2.out.grow hb)); (try replace HM3 := Lib.hid (HM3.out.grow hb)); (try replace HM4 := Lib.hid (HM4.out.grow hb)); (try clear hb); clear hI; have hI := hI'; clear hI'; (try simp only [List.cons_append, List.nil_append, List.set_cons_zero, List.set_cons_succ, List.setIfInBounds_toArray, Act.put, Act.eval, Array.getD_eq_getD_getElem?, List.getElem?_toArray, List.getElem?_cons_zero, List.getElem?_cons_succ, Option.getD_some] at hI); (try clear c0); (try clear c1); (try clear c2); (try clear c3); (try clear c4); (try clear c5); (try clear c6); (try clear c7); (try clear c8); (try clear c9); (try clear c10); (try clear c11); (try have c0 := hI.cell (i := 0) rfl); (try have c1 := hI.cell (i := 1) rfl); (try have c2 := hI.cell (i := 2) rfl); (try have c3 := hI.cell (i := 3) rfl); (try have c4 := hI.cell (i := 4) rfl); (try have c5 := hI.cell (i := 5) rfl); (try have c6 := hI.cell (i := 6) rfl); (try have c7 := hI.cell (i := 7) rfl); (try have c8 := hI.cell (i := 8) rfl); (try have c9 := hI.cell (i := 9) rfl); (try have c10 := hI.cell (i := 10) rfl); (try have c11 := hI.cell (i := 11) rfl); skip)
        | (refine listI rfl fun K hK => wpI_app _ _ rfl el_I hI 1 rfl rfl (ys := [d - 2147483648]) rfl (hI.lies1 (i := 2) rfl _ (fun j hj => by rw [List.getElem?_toArray]; rfl)) rfl (by unfold maxLen; simp only [List.length_cons, List.length_nil]; omega) (by simp only [List.length_cons, List.length_nil]; omega) fun v' w' hI' => hK _ _ ?_; clear hK K; (try replace HM1 := Lib.hid (HM1.out.grow hb)); (try replace HM2 := Lib.hid (HM2.out.grow hb)); (try replace HM3 := Lib.hid (HM3.out.grow hb)); (try replace HM4 := Lib.hid (HM4.out.grow hb)); (try clear hb); clear hI; have hI := hI'; clear hI'; (try simp only [List.cons_append, List.nil_append, List.set_cons_zero, List.set_cons_succ, List.setIfInBounds_toArray, Act.put, Act.eval, Array.getD_eq_getD_getElem?, List.getElem?_toArray, List.getElem?_cons_zero, List.getElem?_cons_succ, Option.getD_some] at hI); (try clear c0); (try clear c1); (try clear c2); (try clear c3); (try clear c4); (try clear c5); (try clear c6); (try clear c7); (try clear c8); (try clear c9); (try clear c10); (try clear c11); (try have c0 := hI.cell (i := 0) rfl); (try have c1 := hI.cell (i := 1) rfl); (try have c2 := hI.cell (i := 2) rfl); (try have c3 := hI.cell (i := 3) rfl); (try have c4 := hI.cell (i := 4) rfl); (try have c5 := hI.cell (i := 5) rfl); (try have c6 := hI.cell (i := 6) rfl); (try have c7 := hI.cell (i := 7) rfl); (try have c8 := hI.cell (i := 8) rfl); (try have c9 := hI.cell (i := 9) rfl); (try have c10 := hI.cell (i := 10) rfl); (try have c11 := hI.cell (i := 11) rfl); skip) | fail)
      go_roundw
      case rel => exact ⟨k + 1, xs ++ [d - 2147483648], r.drop 4, by omega, by go_num, by rw [numsIt, HXR.out]; dsimp only; rw [HD.out]; rfl, hI.first [_, _] [_] rfl⟩
      case measure => simp [intOf]; omega
    · obtain rfl : k = many := by omega
      have hdn : decide (k < k) = false := by simp
      go_wp2_with fail
      go_returns
      exact ⟨_, rfl, by rw [HXR.out]; exact hI⟩
set_option maxHeartbeats 1000000 in
theorem c_rname (g : Nat) (l : List UInt8) (hl : l.length ≤ 100000) (w : World) (hI : InvT (Blks (rdR g l)) w (rdR g l) w) :
    Calls Try.prog 47 #[.pointer (some ⟨g, 0, none⟩)] w (fun e w' => e = .returned (.tuple #[.string (str (nameT takeP l).1.1), .int .i64 (nameT takeP l).1.2]) ∧ InvT (Blks (rdR g l)) w (rdR g (nameT takeP l).2) w') := by
  obtain ⟨b1, b2⟩ := deepF_1 l
  obtain ⟨N, hN⟩ : ∃ N : Nat, deepF (l.take 1) = N := ⟨(deepF (l.take 1)).toNat, by omega⟩
  have hN2 : N ≤ 255 := by omega
  have HN := Lib.hid hN
  have H1 := Lib.hid (fun (w : World) hI => c_number g l 1 (by decide) hl w hI)
  rw [numP_one, hN] at H1
  have H2 := Lib.hid (fun (w : World) hI => c_text g (l.drop 1) N (by omega) (by rw [List.length_drop]; omega) w hI)
  have H3 := Lib.hid (fun (w : World) hI => c_number g ((l.drop 1).drop N) 1 (by decide) (by rw [List.length_drop, List.length_drop]; omega) w hI)
  rw [numP_one] at H3
  have HE := Lib.hid (show nameT takeP l = (((l.drop 1).take N, deepF (((l.drop 1).drop N).take 1)), ((l.drop 1).drop N).drop 1) by unfold nameT takeP; rw [hN]; rfl)
  clear hN b1 b2
  generalize Blks (rdR g l) = T at hI ⊢
  generalize deepF (((l.drop 1).drop N).take 1) = q at H3 HE
  generalize l.drop 1 = l1 at H1 H2 H3 HE
  obtain ⟨l2, hl2⟩ : ∃ l2, l1.drop N = l2 := ⟨_, rfl⟩
  rw [hl2] at H2 H3 HE
  obtain ⟨l3, hl3⟩ : ∃ l3, l2.drop 1 = l3 := ⟨_, rfl⟩
  rw [hl3] at H3 HE
  obtain ⟨l4, hl4⟩ : ∃ l4, l1.take N = l4 := ⟨_, rfl⟩
  rw [hl4] at H2 HE
  clear hl2 hl3 hl4
  have hfirst : True := trivial
  go_enter Try.func47, Try.ntmps47
  go_wp2_with (first
    | (have hq := hfirst; clear hfirst hq; go_at_call 45; refine (H1.out _ (hI.enter (rc := rdR g l) (ts := []))).mono ?_; rintro e w' ⟨rfl, hc⟩; replace hI := InvT.frame (rc := rdR g l) (ts := []) hI hc; clear hc; rw [List.append_nil] at hI)
    | (go_at_call 75; refine (H2.out _ (hI.enter (rc := rdR g l1) (ts := []))).mono ?_; rintro e w' ⟨rfl, hc⟩; replace hI := InvT.frame (rc := rdR g l1) (ts := []) hI hc; clear hc; rw [List.append_nil] at hI)
    | (go_at_call 45; refine (H3.out _ (hI.enter (rc := rdR g l2) (ts := []))).mono ?_; rintro e w' ⟨rfl, hc⟩; replace hI := InvT.frame (rc := rdR g l2) (ts := []) hI hc; clear hc; rw [List.append_nil] at hI)
    | fail)
  go_returns
  rw [HE.out]
  exact ⟨rfl, hI⟩
end Go.Proofs.Ythdlfepakkihnaa
namespace Go.Proofs.Ythdlfepakkihnaa
open Go.RowKit
set_option linter.unusedVariables false
set_option linter.unusedSimpArgs false
set_option maxRecDepth 100000
/-- takes nothing that is not there -/
def Shr (tk : Nat → List UInt8 → List UInt8 × List UInt8) : Prop := ∀ n l, (tk n l).1.length ≤ l.length ∧ (tk n l).2.length ≤ l.length
theorem shrP : Shr takeP := fun n l => ⟨by unfold takeP; rw [List.length_take]; omega, by unfold takeP; rw [List.length_drop]; omega⟩
theorem shrR : Shr takeR := fun n l => by
  unfold takeR
  split
  · exact ⟨Nat.zero_le _, Nat.zero_le _⟩
  · exact ⟨by rw [List.length_take]; omega, by rw [List.length_drop]; omega⟩
section
variable {N4 : List UInt8 → Int} {tk : Nat → List UInt8 → List UInt8 × List UInt8}
theorem Shr.nums (h : Shr tk) (l : List UInt8) (j : Nat) : (numsIt N4 tk l j).2.length ≤ l.length := by
  induction j with
  | zero => exact Nat.le_refl _
  | succ j ih => exact Nat.le_trans (h 4 _).2 ih
theorem Shr.name (h : Shr tk) (l : List UInt8) : (nameT tk l).1.1.length ≤ l.length ∧ (nameT tk l).2.length ≤ l.length := by
  unfold nameT
  dsimp only
  have h1 := (h 1 l).2
  have h2 := h (deepF (l.take 1)).toNat (tk 1 l).2
  exact ⟨Nat.le_trans h2.1 h1, Nat.le_trans (h 1 _).2 (Nat.le_trans h2.2 h1)⟩
theorem Shr.items (h : Shr tk) {α : Type} (mk : ByteArray → Int → α) (l : List UInt8) (j : Nat) : (itemIt mk tk l j).2.length ≤ l.length := by
  induction j with
  | zero => exact Nat.le_refl _
  | succ j ih => exact Nat.le_trans (h.name _).2 ih
theorem numsIt_wf (hN : ∀ l, 0 ≤ N4 l ∧ N4 l ≤ 4294967295) (l : List UInt8) (j : Nat) : ∀ x ∈ (numsIt N4 tk l j).1, -2147483648 ≤ x ∧ x ≤ 2147483647 := by
  induction j with
  | zero => intro x hx; cases hx
  | succ j ih =>
    intro x hx
    rw [numsIt] at hx
    rcases List.mem_append.1 hx with hx | hx
    · exact ih x hx
    · have := hN (numsIt N4 tk l j).2
      rw [List.mem_singleton.1 hx]; omega
theorem nameT_num (l : List UInt8) : 0 ≤ (nameT tk l).1.2 ∧ (nameT tk l).1.2 ≤ 255 := deepF_1 _
theorem Shr.itemsAll (h : Shr tk) {α : Type} (mk : ByteArray → Int → α) {p : α → Prop} (l : List UInt8) (hl : l.length ≤ 4000) (hp : ∀ s n, s.size ≤ 4000 → 0 ≤ n → n ≤ 255 → p (mk s n)) (j : Nat) : ∀ x ∈ (itemIt mk tk l j).1, p x := by
  induction j with
  | zero => intro x hx; cases hx
  | succ j ih =>
    intro x hx
    rw [itemIt] at hx
    rcases List.mem_append.1 hx with hx | hx
    · exact ih x hx
    · rw [List.mem_singleton.1 hx]
      have h1 := h.items mk l j
      have h2 := (h.name (itemIt mk tk l j).2).1
      have h3 := nameT_num (tk := tk) (itemIt mk tk l j).2
      exact hp _ _ (by rw [str_size]; omega) h3.1 h3.2
theorem rest7_len (s : List UInt8) : (rest7 s).length ≤ s.length := by unfold rest7; rw [List.length_drop, List.length_take]; omega
theorem Shr.rd1 (h : Shr tk) (s : List UInt8) : (rd1 N4 tk s).2.length ≤ s.length := Nat.le_trans (h.nums _ _) (rest7_len s)
theorem Shr.rd2 (h : Shr tk) (s : List UInt8) : (rd2 N4 tk s).2.length ≤ s.length := Nat.le_trans (h.nums _ _) (h.rd1 s)
theorem Shr.rd3 (h : Shr tk) (s : List UInt8) : (rd3 N4 tk s).2.length ≤ s.length := Nat.le_trans (h.items _ _ _) (h.rd2 s)
theorem readM_lens (s : List UInt8) : (readM N4 tk s).code.length = cntB s 3 ∧ (readM N4 tk s).data.length = cntB s 4 ∧ (readM N4 tk s).exports.length = cntB s 5 ∧ (readM N4 tk s).imports.length = cntB s 6 :=
  ⟨numsIt_len _ _ _ _, numsIt_len _ _ _ _, itemIt_len _ _ _ _, itemIt_len _ _ _ _⟩
theorem Shr.readM_wf (h : Shr tk) (hN : ∀ l, 0 ≤ N4 l ∧ N4 l ≤ 4294967295) (s : List UInt8) (hs : s.length ≤ 4000) : (readM N4 tk s).Wf := by
  have i : ∀ x : Int, -2147483648 ≤ x ∧ x ≤ 2147483647 → i64 x := fun x hx => by unfold i64; omega
  refine ⟨fun k n hk => i _ (numsIt_wf hN _ _ n (List.mem_of_getElem? hk)), fun k n hk => i _ (numsIt_wf hN _ _ n (List.mem_of_getElem? hk)), fun k x hk => ?_, fun k x hk => ?_⟩
  · exact h.itemsAll Label.mk (p := Label.Wf) _ (Nat.le_trans (h.rd2 s) hs) (fun b n h1 h2 h3 => ⟨by unfold maxLen; show b.size ≤ _; omega, by unfold i64; show _ ≤ n ∧ n ≤ _; omega⟩) _ x (List.mem_of_getElem? hk)
  · exact h.itemsAll Import.mk (p := Import.Wf) _ (Nat.le_trans (h.rd3 s) hs) (fun b n h1 h2 h3 => ⟨by unfold maxLen; show b.size ≤ _; omega, by unfold i64; show _ ≤ n ∧ n ≤ _; omega⟩) _ x (List.mem_of_getElem? hk)
end
theorem bdP (l : List UInt8) : 0 ≤ numP 4 0 l ∧ numP 4 0 l ≤ 4294967295 := by
  obtain ⟨h1, h2⟩ := numP_bd l 4
  have h3 : numP 4 0 l < 4294967296 := h2
  omega
theorem bdR (l : List UInt8) : 0 ≤ deepF (takeR 4 l).1 ∧ deepF (takeR 4 l).1 ≤ 4294967295 := deepF_4 _ (by
  unfold takeR
  split
  · exact Nat.zero_le _
  · exact List.length_take_le _ _)
/-- the byte behind k others -/
theorem cnt_at {s : List UInt8} {k : Nat} {l : List UInt8} (hk : k + 2 < s.length) (h : l = (s.take (s.length - 2)).drop k) : deepF (l.take 1) = cntB s k := by
  subst h
  unfold cntB
  have hlt : k < (s.take (s.length - 2)).length := by rw [List.length_take]; omega
  rw [List.drop_eq_getElem_cons hlt, List.getElem_take, List.getElem?_eq_getElem (by omega)]
  simp [deepF]
/-- a module that was read, with its error -/
def RetRd (w : World) (r : Mod × Int) : Ending → World → Prop := fun ed w' => ∃ mv, ed = .returned (.tuple #[mv, .int .i64 r.2]) ∧ ModV w' w'.heap.size mv r.1 ∧ Below w.heap.size w w'
theorem zeroV (w : World) : ModV w w.heap.size (.agg #[.slice none 0 0, .slice none 0 0, .slice none 0 0, .slice none 0 0]) zeroM :=
  ⟨none, none, none, none, 0, 0, 0, 0, rfl, Nat.le_refl _, Nat.zero_le _, Nat.le_refl _, Nat.zero_le _, Nat.le_refl _, Nat.zero_le _, Nat.le_refl _, Nat.zero_le _, Lies.nil_, Lies.nil_, Lies.nil_, Lies.nil_⟩
theorem sum_app {s : List UInt8} (h : s.drop (s.length - 2) = high (sumB (s.take (s.length - 2))) 2) : s.take (s.length - 2) ++ high (sumB (s.take (s.length - 2))) 2 = s := by
  rw [← h]; exact List.take_append_drop _ _
theorem sum_not {s : List UInt8} (h2 : 2 ≤ s.length) (h : ¬ s.drop (s.length - 2) = high (sumB (s.take (s.length - 2))) 2) : ¬ s.take (s.length - 2) ++ high (sumB (s.take (s.length - 2))) 2 = s := fun e => h (by
  have e1 : s.take (s.length - 2) ++ s.drop (s.length - 2) = s := List.take_append_drop _ _
  exact List.append_cancel_left (e1.trans e.symm))
end Go.Proofs.Ythdlfepakkihnaa
