/- What the parts say: Numerals, texts of instructions, a text cut at its spaces: as plain data, told and read again. Conditions: none. -/
import Derived.Test.YtbkjhdohkdeniaaGreatDoorP14
import Derived.Test.YtbkjhdohkdeniaaGreatDoorP02
import Derived.Lib.ItoaLen
import Derived.Lib.AtoiAllCases
import Derived.Lib.SplitLaws
import Derived.Lib.Join
set_option linter.unusedVariables false
set_option linter.unusedSimpArgs false
namespace Go.Proofs.YtbkjhdohkdeniaaGreatDoor
open Go.RowKit
set_option maxRecDepth 100000
/-! Numerals -/
theorem dig_toNat {d : Nat} (h : d < 10) : (UInt8.ofNat (48 + d)).toNat = 48 + d := by rw [UInt8.toNat_ofNat']; omega
theorem dec_small {u : Nat} (h : u < 10) : Lib.decDigits u = [UInt8.ofNat (48 + u)] := Lib.decDigits_one h
theorem dec_big {u : Nat} (h : ¬ u < 10) : Lib.decDigits u = Lib.decDigits (u / 10) ++ [UInt8.ofNat (48 + u % 10)] := by rw [Lib.decDigits, dif_neg h]
def isDig (c : UInt8) : Bool := decide (48 ≤ c.toNat) && decide (c.toNat ≤ 57)
theorem isDig_of {d : Nat} (h : d < 10) : isDig (UInt8.ofNat (48 + d)) = true := by simp [isDig, dig_toNat h]; omega
theorem dec_digs (u : Nat) : (Lib.decDigits u).all isDig = true := by
  induction u using Nat.strongRecOn with
  | _ u ih =>
    by_cases h : u < 10
    · rw [dec_small h, List.all_cons, isDig_of h]; rfl
    · rw [dec_big h, List.all_append, ih _ (by omega), List.all_cons, isDig_of (show u % 10 < 10 by omega)]; rfl
theorem dec_cons (u : Nat) : ∃ c r, Lib.decDigits u = c :: r ∧ isDig c = true := by
  have h := dec_digs u
  have hl := Lib.decDigits_length u
  have hp := Lib.nDigits_pos u
  cases hd : Lib.decDigits u with
  | nil => rw [hd] at hl; simp at hl; omega
  | cons c r => rw [hd, List.all_cons, Bool.and_eq_true] at h; exact ⟨c, r, rfl, h.1⟩
theorem pu_append : ∀ (l r : List UInt8) (acc u : Nat), Lib.parseUint10 acc l = .ok u → Lib.parseUint10 acc (l ++ r) = Lib.parseUint10 u r
  | [], r, acc, u, h => by simp only [Lib.parseUint10] at h; injection h with h; subst h; rfl
  | c :: l, r, acc, u, h => by
    simp only [Lib.parseUint10, List.cons_append] at h ⊢
    split at h
    · rename_i h1
      rw [if_pos h1]
      split at h
      · cases h
      · rename_i h2
        rw [if_neg h2]
        split at h
        · cases h
        · rename_i h3
          rw [if_neg h3]
          exact pu_append l r _ u h
    · cases h
theorem pu_dec (u : Nat) (hu : u < 18446744073709551616) : Lib.parseUint10 0 (Lib.decDigits u) = .ok u := by
  induction u using Nat.strongRecOn with
  | _ u ih =>
    have one : ∀ acc d, d < 10 → acc < 1844674407370955162 → acc * 10 + d < 18446744073709551616 → Lib.parseUint10 acc [UInt8.ofNat (48 + d)] = .ok (acc * 10 + d) := fun acc d hd h1 h2 => by
      simp only [Lib.parseUint10, dig_toNat hd]
      rw [if_pos (by omega), if_neg (by omega), if_neg (by omega)]
      congr 1
      omega
    by_cases h : u < 10
    · rw [dec_small h, one 0 u h (by omega) (by omega)]; simp
    · rw [dec_big h, pu_append _ _ _ _ (ih (u / 10) (by omega) (by omega)), one _ _ (by omega) (by omega) (by omega)]
      congr 1
      omega
theorem pm_dec (u : Nat) (hu : u < 18446744073709551616) : Lib.parseMag (Lib.decDigits u) = .ok u := by
  obtain ⟨c, r, h, _⟩ := dec_cons u
  unfold Lib.parseMag
  rw [if_neg (by rw [h]; simp), pu_dec u hu]
theorem itoa_pos {n : Int} (h : 0 ≤ n) : Lib.itoa n = Lib.decDigits n.toNat := by unfold Lib.itoa; rw [if_neg (by omega)]
theorem itoa_neg' {n : Int} (h : n < 0) : Lib.itoa n = 45 :: Lib.decDigits n.natAbs := by unfold Lib.itoa; rw [if_pos h]
theorem dig_ne {c : UInt8} (h : isDig c = true) : c.toNat ≠ 43 ∧ c.toNat ≠ 45 ∧ c.toNat ≠ 114 ∧ c.toNat ≠ 32 := by
  simp only [isDig, Bool.and_eq_true, decide_eq_true_eq] at h; omega
theorem atoi_itoa (n : Int) (h : i64 n) : Lib.atoiAll (Lib.itoa n) = .ok n := by
  unfold i64 at h
  rcases Int.lt_or_le n 0 with hn | hn
  · rw [itoa_neg' hn, Lib.atoiAll_minus, pm_dec _ (by omega)]
    simp only [Lib.signed]
    rw [if_neg (by omega)]
    congr 1
    omega
  · rw [itoa_pos hn]
    obtain ⟨c, r, hc, hd⟩ := dec_cons n.toNat
    have hm := pm_dec n.toNat (by omega)
    rw [hc] at hm ⊢
    rw [Lib.atoiAll_plain c r (dig_ne hd).1 (dig_ne hd).2.1, hm]
    simp only [Lib.signless]
    rw [if_neg (by omega)]
    congr 1
    omega
def atoiN (l : List UInt8) : Int := match Lib.atoiAll l with | .ok v => v | .range => Lib.atoiSat l | _ => 0
theorem atoiN_i64 (l : List UInt8) : i64 (atoiN l) := by
  unfold atoiN i64
  split
  · rename_i h; exact ⟨(Lib.atoiAll_bounds h).1, (Lib.atoiAll_bounds h).2⟩
  · exact Lib.atoiSat_bounds l
  · omega
theorem atoiN_itoa {n : Int} (h : i64 n) : atoiN (Lib.itoa n) = n := by unfold atoiN; rw [atoi_itoa n h]
def decV (l : List UInt8) : Nat := l.foldl (fun a c => 10 * a + (c.toNat - 48)) 0
theorem decV_snoc (l : List UInt8) (c : UInt8) : decV (l ++ [c]) = 10 * decV l + (c.toNat - 48) := by simp [decV]
theorem decV_dec (u : Nat) : decV (Lib.decDigits u) = u := by
  induction u using Nat.strongRecOn with
  | _ u ih =>
    by_cases h : u < 10
    · rw [dec_small h]
      show 10 * 0 + ((UInt8.ofNat (48 + u)).toNat - 48) = u
      rw [dig_toNat h]; omega
    · rw [dec_big h, decV_snoc, ih _ (by omega), dig_toNat (by omega)]; omega
theorem decV_lt_from : ∀ (l : List UInt8) (acc : Nat), l.all isDig = true → l.foldl (fun a c => 10 * a + (c.toNat - 48)) acc < (acc + 1) * 10 ^ l.length
  | [], acc, _ => by simp
  | c :: l, acc, h => by
    rw [List.all_cons, Bool.and_eq_true] at h
    have hc := h.1
    simp only [isDig, Bool.and_eq_true, decide_eq_true_eq] at hc
    have := decV_lt_from l (10 * acc + (c.toNat - 48)) h.2
    rw [List.foldl_cons, List.length_cons, Nat.pow_succ]
    have h2 : (10 * acc + (c.toNat - 48) + 1) * 10 ^ l.length ≤ (10 * (acc + 1)) * 10 ^ l.length := Nat.mul_le_mul_right _ (by omega)
    have h3 : (acc + 1) * (10 ^ l.length * 10) = (10 * (acc + 1)) * 10 ^ l.length := by rw [Nat.mul_comm (10 ^ l.length) 10, ← Nat.mul_assoc, Nat.mul_comm (acc + 1) 10]
    omega
theorem decV_lt (l : List UInt8) (h : l.all isDig = true) : decV l < 10 ^ l.length := by have := decV_lt_from l 0 h; simpa [decV] using this
def signT (l : List UInt8) : Int × List UInt8 := match l with | [] => (1, []) | c :: r => if c = 45 then (-1, r) else (1, c :: r)
def numV (l : List UInt8) : Int := if (signT l).2 = [] ∨ 12 < (signT l).2.length ∨ (signT l).2.all isDig = false then 0 else decV (signT l).2 * (signT l).1
def numOk (l : List UInt8) (low high : Int) : Bool := if (signT l).2 = [] ∨ 12 < (signT l).2.length ∨ (signT l).2.all isDig = false then false else decide (Lib.itoa (numV l) = l) && (decide (low ≤ numV l) && decide (numV l ≤ high))
theorem numOk_itoa {l : List UInt8} {low high : Int} (h : numOk l low high = true) : Lib.itoa (numV l) = l ∧ low ≤ numV l ∧ numV l ≤ high := by
  unfold numOk at h
  split at h
  · cases h
  · simpa only [Bool.and_eq_true, decide_eq_true_eq] using h
theorem nDigits_le (u k : Nat) (hk : 1 ≤ k) (h : u < 10 ^ k) : Lib.nDigits u ≤ k := by
  induction k generalizing u with
  | zero => omega
  | succ k ih =>
    by_cases hu : u < 10
    · rw [Lib.nDigits_small hu]; omega
    · rw [Lib.nDigits_big hu]
      rw [Nat.pow_succ] at h
      cases k with
      | zero => simp at h; omega
      | succ k => have := ih (u / 10) (by omega) (by omega); omega
theorem num_itoa {n low high : Int} (h0 : -100000000000 < n) (h1 : n < 100000000000) : numV (Lib.itoa n) = n ∧ numOk (Lib.itoa n) low high = (decide (low ≤ n) && decide (n ≤ high)) := by
  have key : ∀ u : Nat, u < 100000000000 → ¬ (Lib.decDigits u = [] ∨ 12 < (Lib.decDigits u).length ∨ (Lib.decDigits u).all isDig = false) := fun u hu => by
    rintro (h | h | h)
    · obtain ⟨c, r, hc, _⟩ := dec_cons u; rw [hc] at h; cases h
    · rw [Lib.decDigits_length] at h; have := nDigits_le u 12 (by omega) (by omega); omega
    · rw [dec_digs] at h; cases h
  have hs : signT (Lib.itoa n) = if n < 0 then (-1, Lib.decDigits n.natAbs) else (1, Lib.decDigits n.toNat) := by
    rcases Int.lt_or_le n 0 with hn | hn
    · rw [itoa_neg' hn, if_pos hn]; rfl
    · rw [itoa_pos hn, if_neg (by omega)]
      obtain ⟨c, r, hc, hd⟩ := dec_cons n.toNat
      rw [hc]
      simp only [signT]
      rw [if_neg]
      intro h
      subst h
      exact absurd hd (by decide)
  have hv : numV (Lib.itoa n) = n := by
    unfold numV
    rw [hs]
    rcases Int.lt_or_le n 0 with hn | hn
    · rw [if_pos hn, if_neg (key _ (by omega)), decV_dec]; dsimp only; omega
    · rw [if_neg (show ¬ n < 0 by omega), if_neg (key _ (by omega)), decV_dec]; dsimp only; omega
  refine ⟨hv, ?_⟩
  unfold numOk
  rw [hv, hs]
  rcases Int.lt_or_le n 0 with hn | hn
  · rw [if_pos hn, if_neg (key _ (by omega))]; simp
  · rw [if_neg (show ¬ n < 0 by omega), if_neg (key _ (by omega))]; simp
/-! A text cut at a byte -/
def splitL (c : UInt8) : List UInt8 → List (List UInt8)
  | [] => [[]]
  | b :: l => if b = c then [] :: splitL c l else match splitL c l with | [] => [[b]] | h :: t => (b :: h) :: t
theorem splitL_ne (c : UInt8) (l : List UInt8) : ∃ h t, splitL c l = h :: t := by
  cases l with
  | nil => exact ⟨_, _, rfl⟩
  | cons b l =>
    unfold splitL
    split
    · exact ⟨_, _, rfl⟩
    · split <;> exact ⟨_, _, rfl⟩
theorem splitK_one (c : UInt8) : ∀ l : List UInt8, Lib.splitK [c] 0 (Lib.count l [c]) l = splitL c l
  | [] => by rw [Lib.count_one]; rfl
  | b :: l => by
    have ih := splitK_one c l
    by_cases h : b = c
    · subst h
      rw [Lib.count_cons_eq, Nat.add_comm, Lib.splitK]
      have hi : Lib.index (b :: l) [b] = 0 := by simp [Lib.index]
      rw [hi, if_neg (by decide)]
      simp only [splitL, if_true]
      rw [← ih]
      rfl
    · rw [Lib.count_cons_ne b c l h]
      simp only [splitL, if_neg h]
      rw [← ih]
      have hi : Lib.index (b :: l) [c] = if Lib.index l [c] == -1 then -1 else Lib.index l [c] + 1 := by
        have : ([c] : List UInt8).isPrefixOf (b :: l) = false := by simp [List.isPrefixOf, Ne.symm h]
        rw [Lib.index, this]; simp
      cases hk : Lib.count l [c] with
      | zero => rfl
      | succ k =>
        simp only [Lib.splitK, hi]
        have hg := Lib.index_ge l [c]
        by_cases hm : Lib.index l [c] = -1
        · rw [hm]; rfl
        · obtain ⟨j, hj⟩ : ∃ j : Nat, Lib.index l [c] = j := ⟨(Lib.index l [c]).toNat, by omega⟩
          have hne : ((j : Int) == -1) = false := by simp
          have hne2 : ((j : Int) + 1 == -1) = false := by simp; omega
          rw [hj, hne]
          simp only [hne2, Bool.false_eq_true, if_false, Nat.add_zero, List.length_singleton]
          have e1 : ((j : Int) + 1).toNat = j + 1 := by omega
          rw [e1, Int.toNat_natCast]
          rfl
theorem splitB_one (c : UInt8) (s : ByteArray) : Lib.splitB ⟨#[c]⟩ 0 (Lib.countB s ⟨#[c]⟩) s = (splitL c s.data.toList).map str := by
  have h := Lib.splitB_data ⟨#[c]⟩ 0 (Lib.countB s ⟨#[c]⟩) s
  have h2 : Lib.splitK [c] 0 (Lib.countB s ⟨#[c]⟩) s.data.toList = splitL c s.data.toList := splitK_one c s.data.toList
  have h3 : (Lib.splitB ⟨#[c]⟩ 0 (Lib.countB s ⟨#[c]⟩) s).map (·.data.toList) = splitL c s.data.toList := h.trans h2
  rw [← h3, List.map_map]
  have : (str ∘ fun x : ByteArray => x.data.toList) = id := funext fun x => str_of x
  rw [this, List.map_id]
theorem splitL_word {c : UInt8} : ∀ {x : List UInt8}, c ∉ x → splitL c x = [x]
  | [], _ => rfl
  | b :: l, h => by
    have hb : b ≠ c := fun e => h (by simp [e])
    simp only [splitL, if_neg hb, splitL_word (x := l) fun hm => h (List.mem_cons_of_mem _ hm)]
theorem splitL_app {c : UInt8} : ∀ {x : List UInt8} (r : List UInt8), c ∉ x → splitL c (x ++ c :: r) = x :: splitL c r
  | [], r, _ => by simp [splitL]
  | b :: l, r, h => by
    have hb : b ≠ c := fun e => h (by simp [e])
    rw [List.cons_append]
    simp only [splitL, if_neg hb, splitL_app (x := l) r fun hm => h (List.mem_cons_of_mem _ hm)]
theorem join_two (x y : List UInt8) (r : List (List UInt8)) (sep : List UInt8) : Lib.join (x :: y :: r) sep = x ++ (sep ++ Lib.join (y :: r) sep) := by
  rw [Lib.join_cons, Lib.join_cons]; simp [Lib.joinTail]
theorem splitL_join {c : UInt8} : ∀ (x : List UInt8) (r : List (List UInt8)), (∀ w ∈ x :: r, c ∉ w) → splitL c (Lib.join (x :: r) [c]) = x :: r
  | x, [], h => by rw [Lib.join_one]; exact splitL_word (h x (by simp))
  | x, y :: r, h => by
    rw [join_two]
    show splitL c (x ++ c :: Lib.join (y :: r) [c]) = _
    rw [splitL_app _ (h x (by simp)), splitL_join y r fun w hw => h w (List.mem_cons_of_mem _ hw)]
theorem join_splitL (c : UInt8) : ∀ l : List UInt8, Lib.join (splitL c l) [c] = l
  | [] => rfl
  | b :: l => by
    have ih := join_splitL c l
    obtain ⟨h, t, e⟩ := splitL_ne c l
    simp only [splitL]
    rw [e] at ih ⊢
    split
    · rename_i hb
      subst hb
      rw [join_two, ih]; rfl
    · cases t with
      | nil => rw [Lib.join_one] at ih ⊢; rw [ih]
      | cons y t => rw [join_two] at ih ⊢; rw [List.cons_append, ih]
theorem splitL_len (c : UInt8) : ∀ l : List UInt8, (splitL c l).length = l.count c + 1
  | [] => rfl
  | b :: l => by
    have ih := splitL_len c l
    obtain ⟨h, t, e⟩ := splitL_ne c l
    simp only [splitL]
    rw [e] at ih ⊢
    split
    · rename_i hb; subst hb; simp [List.count_cons] at ih ⊢; omega
    · rename_i hb; rw [List.count_cons_of_ne (by simpa using hb)]; simpa using ih
/-! Texts of instructions -/
def wordsL : List (List UInt8) := wordL.map (·.data.toList)
def regT (n : Int) : List UInt8 := 114 :: Lib.itoa n
def cText (k n : Int) : List UInt8 := if k = 2 then regT n else Lib.itoa n
def instTail (h : Bool × Bool × Int) (i : Inst) : List (List UInt8) := (if h.1 = true then [regT i.a] else []) ++ ((if h.2.1 = true then [regT i.b] else []) ++ (if h.2.2 = 0 then [] else [cText h.2.2 i.c]))
def instWords (i : Inst) : List (List UInt8) := (wordOf i.op).data.toList :: instTail (shapeN i.op) i
def instText (i : Inst) : List UInt8 := Lib.join (instWords i) [32]
def textF (i : Inst) : List UInt8 × Int := if instOk i = true then (instText i, 0) else ([], 1)
theorem dec_no32 {c : UInt8} (u : Nat) (hc : isDig c = false) : c ∉ Lib.decDigits u := fun h => by
  have := List.all_eq_true.1 (dec_digs u) c h
  rw [hc] at this; cases this
theorem itoa_no32 (n : Int) : (32 : UInt8) ∉ Lib.itoa n := by
  rcases Int.lt_or_le n 0 with hn | hn
  · rw [itoa_neg' hn]
    intro h
    rcases List.mem_cons.1 h with h | h
    · exact absurd h (by decide)
    · exact dec_no32 _ (by decide) h
  · rw [itoa_pos hn]; exact dec_no32 _ (by decide)
theorem regT_no32 (n : Int) : (32 : UInt8) ∉ regT n := fun h => by
  rcases List.mem_cons.1 h with h | h
  · exact absurd h (by decide)
  · exact itoa_no32 n h
theorem words_no32 : ∀ w ∈ wordsL, (32 : UInt8) ∉ w := by decide
theorem wordOf_mem {op : Int} (h0 : 0 ≤ op) (h1 : op ≤ 22) : wordsL[op.toNat]? = some (wordOf op).data.toList := by
  have hk : op.toNat < wordL.length := by show op.toNat < 23; omega
  unfold wordsL wordOf
  rw [List.getD_eq_getElem?_getD, List.getElem?_map, List.getElem?_eq_getElem hk]
  rfl
theorem instWords_no32 {i : Inst} (h0 : 0 ≤ i.op) (h1 : i.op ≤ 22) : ∀ w ∈ instWords i, (32 : UInt8) ∉ w := fun w hw => by
  unfold instWords instTail at hw
  rcases List.mem_cons.1 hw with rfl | hw
  · exact words_no32 _ (List.mem_of_getElem? (wordOf_mem h0 h1))
  · rcases List.mem_append.1 hw with hw | hw
    · split at hw <;> simp at hw
      subst hw; exact regT_no32 _
    · rcases List.mem_append.1 hw with hw | hw
      · split at hw <;> simp at hw
        subst hw; exact regT_no32 _
      · split at hw <;> simp at hw
        subst hw
        unfold cText
        split
        · exact regT_no32 _
        · exact itoa_no32 _
theorem splitL_text {i : Inst} (h0 : 0 ≤ i.op) (h1 : i.op ≤ 22) : splitL 32 (instText i) = instWords i := splitL_join _ _ (instWords_no32 h0 h1)
/-! Reading, the program's way -/
def opL (w : List UInt8) : Int := if w ∈ wordsL then (wordsL.idxOf w : Nat) else -1
theorem opL_word {op : Int} (h0 : 0 ≤ op) (h1 : op ≤ 22) : opL (wordOf op).data.toList = op := by
  obtain ⟨k, rfl⟩ : ∃ k : Fin 23, op = (k.val : Nat) := ⟨⟨op.toNat, by omega⟩, by simp; omega⟩
  have h : ∀ k : Fin 23, opL (wordOf (k.val : Nat)).data.toList = (k.val : Nat) := by decide +kernel
  exact h k
theorem opL_lo (w : List UInt8) : -1 ≤ opL w ∧ opL w ≤ 22 := by
  unfold opL
  split
  · rename_i h
    have := List.idxOf_lt_length_of_mem h
    have hl : wordsL.length = 23 := rfl
    omega
  · omega
def takeF (has : Bool) (l : List (List UInt8)) : Int × List (List UInt8) := if has = true ∧ 1 < l.length then (atoiN (Lib.trimPrefix (l.getD 1 []) [114]), l.drop 1) else (0, l)
def shapeG (op : Int) : Bool × Bool × Int := if 0 ≤ op ∧ op ≤ 22 then shapeN op else (false, false, 0)
def guess (l : List (List UInt8)) : Inst :=
  ⟨opL (l.getD 0 []), (takeF (shapeG (opL (l.getD 0 []))).1 l).1, (takeF (shapeG (opL (l.getD 0 []))).2.1 (takeF (shapeG (opL (l.getD 0 []))).1 l).2).1,
    (takeF (decide ((shapeG (opL (l.getD 0 []))).2.2 ≠ 0)) (takeF (shapeG (opL (l.getD 0 []))).2.1 (takeF (shapeG (opL (l.getD 0 []))).1 l).2).2).1⟩
theorem trim_reg (n : Int) : Lib.trimPrefix (regT n) [114] = Lib.itoa n := by simp [Lib.trimPrefix, Lib.hasPrefix, regT]
theorem itoa_head (n : Int) : ∃ c r, Lib.itoa n = c :: r ∧ c ≠ 114 := by
  rcases Int.lt_or_le n 0 with hn | hn
  · rw [itoa_neg' hn]; exact ⟨_, _, rfl, by decide⟩
  · rw [itoa_pos hn]
    obtain ⟨c, r, hc, hd⟩ := dec_cons n.toNat
    exact ⟨c, r, hc, fun e => by subst e; exact absurd hd (by decide)⟩
theorem trim_itoa (n : Int) : Lib.trimPrefix (Lib.itoa n) [114] = Lib.itoa n := by
  obtain ⟨c, r, hc, hd⟩ := itoa_head n
  rw [hc]
  unfold Lib.trimPrefix Lib.hasPrefix
  rw [if_neg]
  simp [List.isPrefixOf]
  exact fun e => hd e.symm
theorem trim_c (k n : Int) : Lib.trimPrefix (cText k n) [114] = Lib.itoa n := by
  unfold cText
  split
  · exact trim_reg n
  · exact trim_itoa n
theorem takeF_reg (x y : List UInt8) (t : List (List UInt8)) (n : Int) (hn : i64 n) (hy : Lib.trimPrefix y [114] = Lib.itoa n) : takeF true (x :: y :: t) = (n, y :: t) := by
  unfold takeF
  rw [if_pos ⟨rfl, by simp⟩]
  simp [hy, atoiN_itoa hn]
theorem takeF_no (l : List (List UInt8)) : takeF false l = (0, l) := by simp [takeF]
theorem small64 {n : Int} (h0 : -4000 ≤ n) (h1 : n ≤ 4000) : i64 n := by unfold i64; omega
theorem guess_words {i : Inst} (h : instOk i = true) : guess (instWords i) = i := by
  have hin : (0 ≤ i.op ∧ i.op ≤ 22) := by
    simp only [instOk, Bool.and_eq_true, inR_iff] at h
    exact h.1.1.1
  have ho : opL ((instWords i).getD 0 []) = i.op := opL_word hin.1 hin.2
  unfold guess
  rw [ho]
  have hg : shapeG i.op = shapeN i.op := if_pos hin
  rw [hg]
  simp only [instOk, Bool.and_eq_true, inR_iff] at h
  obtain ⟨⟨⟨_, ha⟩, hb⟩, hc⟩ := h
  obtain ⟨op, a, b, c⟩ := i
  dsimp only at *
  unfold instWords
  dsimp only
  generalize (wordOf op).data.toList = wd
  clear ho hg
  generalize shapeN op = sh at *
  obtain ⟨s1, s2, s3⟩ := sh
  dsimp only at *
  have ia : i64 a := by cases s1 <;> simp [regB, inR] at ha <;> exact small64 (by omega) (by omega)
  have ib : i64 b := by cases s2 <;> simp [regB, inR] at hb <;> exact small64 (by omega) (by omega)
  have ic : i64 c := by
    have h1 : -2048 ≤ lowC s3 ∧ highC s3 ≤ 2047 := by
      unfold lowC highC
      constructor <;> repeat' split
      all_goals omega
    exact small64 (by omega) (by omega)
  have a0 : s1 = false → a = 0 := fun e => by subst e; simpa [regB] using ha
  have b0 : s2 = false → b = 0 := fun e => by subst e; simpa [regB] using hb
  have c0 : s3 = 0 → c = 0 := fun e => by subst e; simp [lowC, highC] at hc; omega
  unfold instTail
  dsimp only
  by_cases h3 : s3 = 0
  · have hcd : decide (s3 ≠ 0) = false := by simp [h3]
    rw [hcd, c0 h3, if_pos h3]
    cases s1 <;> cases s2 <;> simp only [if_true, Bool.false_eq_true, if_false, List.nil_append, List.append_nil, List.cons_append, takeF_no]
    · rw [a0 rfl, b0 rfl]
    · rw [takeF_reg _ _ _ b ib (trim_reg b), a0 rfl]
    · rw [takeF_reg _ _ _ a ia (trim_reg a), b0 rfl]
    · rw [takeF_reg _ _ _ a ia (trim_reg a)]
      dsimp only
      rw [takeF_reg _ _ _ b ib (trim_reg b)]
  · have hcd : decide (s3 ≠ 0) = true := by simp [h3]
    rw [hcd, if_neg h3]
    cases s1 <;> cases s2 <;> simp only [if_true, Bool.false_eq_true, if_false, List.nil_append, List.append_nil, List.cons_append, takeF_no]
    · rw [takeF_reg _ _ _ c ic (trim_c _ c), a0 rfl, b0 rfl]
    · rw [takeF_reg _ _ _ b ib (trim_reg b)]
      dsimp only
      rw [takeF_reg _ _ _ c ic (trim_c _ c), a0 rfl]
    · rw [takeF_reg _ _ _ a ia (trim_reg a)]
      dsimp only
      rw [takeF_reg _ _ _ c ic (trim_c _ c), b0 rfl]
    · rw [takeF_reg _ _ _ a ia (trim_reg a)]
      dsimp only
      rw [takeF_reg _ _ _ b ib (trim_reg b)]
      dsimp only
      rw [takeF_reg _ _ _ c ic (trim_c _ c)]
def IsText (s : List UInt8) (i : Inst) : Prop := instOk i = true ∧ instText i = s
instance (s : List UInt8) (i : Inst) : Decidable (IsText s i) := inferInstanceAs (Decidable (_ ∧ _))
def parseF (s : List UInt8) : Inst × Int := if IsText s (guess (splitL 32 s)) then (guess (splitL 32 s), 0) else (instZ, 3)
theorem instOk_op {i : Inst} (h : instOk i = true) : 0 ≤ i.op ∧ i.op ≤ 22 := by
  simp only [instOk, Bool.and_eq_true, inR_iff] at h
  exact h.1.1.1
theorem guess_text {s : List UInt8} {i : Inst} (h : IsText s i) : guess (splitL 32 s) = i := by
  obtain ⟨h, rfl⟩ := h
  rw [splitL_text (instOk_op h).1 (instOk_op h).2, guess_words h]
theorem parseF_ok {s : List UInt8} {i : Inst} (h : IsText s i) : parseF s = (i, 0) := by
  unfold parseF
  rw [guess_text h, if_pos h]
theorem parseF_no {s : List UInt8} (h : ∀ i, ¬ IsText s i) : parseF s = (instZ, 3) := by
  unfold parseF
  rw [if_neg (h _)]
theorem parseF_cases (s : List UInt8) : (∃ i, IsText s i ∧ parseF s = (i, 0)) ∨ ((∀ i, ¬ IsText s i) ∧ parseF s = (instZ, 3)) := by
  by_cases h : ∃ i, IsText s i
  · obtain ⟨i, hi⟩ := h; exact .inl ⟨i, hi, parseF_ok hi⟩
  · have h' : ∀ i, ¬ IsText s i := fun i hi => h ⟨i, hi⟩
    exact .inr ⟨h', parseF_no h'⟩
end Go.Proofs.YtbkjhdohkdeniaaGreatDoor
namespace Go.Proofs.YtbkjhdohkdeniaaGreatDoor
open Go.RowKit
set_option maxRecDepth 100000
theorem u8_dig {d : Nat} (h : d < 10) (n : Int) (hn : n = 48 + (d : Int)) : u8 n = UInt8.ofNat (48 + d) := by
  subst hn
  unfold u8
  congr 1
  omega
def chrL (n : Int) : List UInt8 := [u8 n]
theorem chrL_dig {d : Nat} (h : d < 10) (n : Int) (hn : n = 48 + (d : Int)) : chrL n = [UInt8.ofNat (48 + d)] := by unfold chrL; rw [u8_dig h n hn]
theorem chrL_len (n : Int) : (str (chrL n)).size = 1 := str_size _
theorem r_chrL (n : Int) (w : World) : Calls Tryz.prog 116 #[.int .i64 n] w (Ret (.string (str (chrL n))) w) := r_chr n w
theorem r_Digits_pos (k : Nat) : ∀ (n : Int), 0 ≤ n → n.toNat ≤ k → n ≤ 9223372036854775807 → ∀ w : World, Calls Tryz.prog 56 #[.int .i64 n] w (Ret (.string (str (Lib.decDigits n.toNat))) w) := by
  induction k with
  | zero =>
    intro n h0 h1 h2 w
    obtain rfl : n = 0 := by omega
    have hI := Inv.start w
    have e : str [u8 48] = str (Lib.decDigits (0 : Int).toNat) := by rw [u8_dig (d := 0) (by omega) 48 rfl, ← dec_small (by omega)]; rfl
    have HC := Lib.hid (fun w => e ▸ r_chr 48 w)
    clear e
    go_enter Tryz.func56, Tryz.ntmps56
    go_wp2_with (first | (go_at_call 116; (with_reducible refine (HC.out _).mono ?_); intro e w' hr; obtain ⟨rfl, hb⟩ := hr; have hI' := hI.on hb; (try clear hb); clear hI; have hI := hI'; clear hI'; (try simp only [mm, Act.put, Act.eval] at hI); (try clear c0); (try clear c1); (try clear c2); (try clear c3); (try clear c4); (try clear c5); (try have c0 := hI.cell (i := 0) rfl); (try have c1 := hI.cell (i := 1) rfl); (try have c2 := hI.cell (i := 2) rfl); (try have c3 := hI.cell (i := 3) rfl); (try have c4 := hI.cell (i := 4) rfl); (try have c5 := hI.cell (i := 5) rfl); skip) | fail)
    go_returns
    exact ⟨rfl, hI.below⟩
  | succ k ih =>
    intro n h0 h1 h2 w
    have hI := Inv.start w
    have hd0 : decide (n < 0) = false := by simp; omega
    by_cases h10 : n < 10
    · have hd1 : decide (n < 10) = true := by simp; omega
      have e : str [u8 (48 + n)] = str (Lib.decDigits n.toNat) := by rw [u8_dig (d := n.toNat) (by omega) (48 + n) (by omega), ← dec_small (by omega)]
      have hw : wrap64 (48 + n) = 48 + n := by unfold wrap64; omega
      have HC := Lib.hid (fun w => e ▸ r_chr (48 + n) w)
      clear e ih
      go_enter Tryz.func56, Tryz.ntmps56
      go_wp2_with (first | (go_at_call 116; (with_reducible refine (HC.out _).mono ?_); intro e w' hr; obtain ⟨rfl, hb⟩ := hr; have hI' := hI.on hb; (try clear hb); clear hI; have hI := hI'; clear hI'; (try simp only [mm, Act.put, Act.eval] at hI); (try clear c0); (try clear c1); (try clear c2); (try clear c3); (try clear c4); (try clear c5); (try have c0 := hI.cell (i := 0) rfl); (try have c1 := hI.cell (i := 1) rfl); (try have c2 := hI.cell (i := 2) rfl); (try have c3 := hI.cell (i := 3) rfl); (try have c4 := hI.cell (i := 4) rfl); (try have c5 := hI.cell (i := 5) rfl); skip) | fail)
      go_returns
      exact ⟨rfl, hI.below⟩
    · have hd1 : decide (n < 10) = false := by simp; omega
      have ht : n.tdiv 10 = n / 10 := Int.tdiv_eq_ediv_of_nonneg h0
      have hm : n.tmod 10 = n % 10 := Int.tmod_eq_emod_of_nonneg h0
      have hw1 : wrap64 (n / 10) = n / 10 := by unfold wrap64; omega
      have hw2 : wrap64 (48 + n % 10) = 48 + n % 10 := by unfold wrap64; omega
      have e : str (Lib.decDigits (n / 10).toNat) ++ str [u8 (48 + n % 10)] = str (Lib.decDigits n.toNat) := by
        rw [str_app, u8_dig (d := n.toNat % 10) (by omega) (48 + n % 10) (by omega), dec_big (u := n.toNat) (by omega)]
        congr 3
        omega
      have z1 : (str (Lib.decDigits (n / 10).toNat)).size ≤ 20 := by rw [str_size, Lib.decDigits_length]; exact Lib.nDigits_le20 _ (by omega)
      have z2 : (str [u8 (48 + n % 10)]).size = 1 := str_size _
      have HD := Lib.hid (ih (n / 10) (by omega) (by omega) (by omega))
      have HC := Lib.hid (r_chr (48 + n % 10))
      have HE := Lib.hid e
      clear ih
      generalize str (Lib.decDigits (n / 10).toNat) = sd at *
      generalize str [u8 (48 + n % 10)] = sc at *
      go_enter Tryz.func56, Tryz.ntmps56
      go_wp2_with (first | (go_at_call 116; (with_reducible refine (HC.out _).mono ?_); intro e w' hr; obtain ⟨rfl, hb⟩ := hr; have hI' := hI.on hb; (try clear hb); clear hI; have hI := hI'; clear hI'; (try simp only [mm, Act.put, Act.eval] at hI); (try clear c0); (try clear c1); (try clear c2); (try clear c3); (try clear c4); (try clear c5); (try have c0 := hI.cell (i := 0) rfl); (try have c1 := hI.cell (i := 1) rfl); (try have c2 := hI.cell (i := 2) rfl); (try have c3 := hI.cell (i := 3) rfl); (try have c4 := hI.cell (i := 4) rfl); (try have c5 := hI.cell (i := 5) rfl); skip) | (go_at_call 56; (with_reducible refine (HD.out _).mono ?_); intro e w' hr; obtain ⟨rfl, hb⟩ := hr; have hI' := hI.on hb; (try clear hb); clear hI; have hI := hI'; clear hI'; (try simp only [mm, Act.put, Act.eval] at hI); (try clear c0); (try clear c1); (try clear c2); (try clear c3); (try clear c4); (try clear c5); (try have c0 := hI.cell (i := 0) rfl); (try have c1 := hI.cell (i := 1) rfl); (try have c2 := hI.cell (i := 2) rfl); (try have c3 := hI.cell (i := 3) rfl); (try have c4 := hI.cell (i := 4) rfl); (try have c5 := hI.cell (i := 5) rfl); skip) | fail)
      go_returns
      exact ⟨rfl, hI.below⟩
def digs (m : Nat) : List UInt8 := if m = 0 then [] else Lib.decDigits m
theorem digs_next (m : Nat) (h : m ≠ 0) : digs m = digs (m / 10) ++ [UInt8.ofNat (48 + m % 10)] := by
  unfold digs
  rw [if_neg h]
  by_cases h10 : m < 10
  · rw [if_pos (by omega), dec_small h10]; congr 3; omega
  · rw [if_neg (by omega), dec_big h10]
theorem digs_len (m : Nat) (h : m < 18446744073709551616) : (digs m).length ≤ 20 := by
  unfold digs
  split
  · simp
  · rw [Lib.decDigits_length]; exact Lib.nDigits_le20 _ h
set_option maxHeartbeats 1000000 in
theorem r_Digits (n : Int) (hn : i64 n) (w : World) : Calls Tryz.prog 56 #[.int .i64 n] w (Ret (.string (str (Lib.itoa n))) w) := by
  unfold i64 at hn
  rcases Int.lt_or_le n 0 with hn0 | hn0
  · rw [itoa_neg' hn0]
    have hI := Inv.start w
    have hd0 : decide (n < 0) = true := by simp; omega
    have HN := Lib.hid hn
    go_enter Tryz.func56, Tryz.ntmps56
    go_wp2_with fail
    go_loopw [0, 3] (fun u v wr => ∃ (m : Int) (acc : List UInt8), u = .int .i64 m ∧ v = .string (str acc) ∧ n ≤ m ∧ m ≤ 0 ∧ digs n.natAbs = digs m.natAbs ++ acc ∧ Inv w [] wr) (fun u _ _ => (intOf u).natAbs)
    case atStart => exact ⟨n, [], rfl, rfl, by omega, by omega, by simp, hI⟩
    case round =>
      clear hI
      obtain ⟨m, acc, rfl, rfl, hm0, hm1, hd, hI⟩ := hrel
      have hal : acc.length ≤ 20 := by
        have h1 := digs_len n.natAbs (by omega)
        rw [hd, List.length_append] at h1
        omega
      have HD := Lib.hid hd
      clear hd
      rcases Int.lt_or_le m 0 with hm | hm
      · have hdm : decide (m < 0) = true := by simp; omega
        have ht : m.tdiv 10 = -(m.natAbs / 10 : Nat) := by
          have : m = -(m.natAbs : Int) := by omega
          rw [this, Int.neg_tdiv, Int.tdiv_eq_ediv_of_nonneg (by omega)]; omega
        have hr : m.tmod 10 = -(m.natAbs % 10 : Nat) := by
          have : m = -(m.natAbs : Int) := by omega
          rw [this, Int.neg_tmod, Int.tmod_eq_emod_of_nonneg (by omega)]; omega
        have e : str (chrL (48 - -(m.natAbs % 10 : Nat))) ++ str acc = str (UInt8.ofNat (48 + m.natAbs % 10) :: acc) := by
          rw [str_app, chrL_dig (d := m.natAbs % 10) (by omega) _ (by omega)]; rfl
        have hnx : digs n.natAbs = digs (m.natAbs / 10) ++ (UInt8.ofNat (48 + m.natAbs % 10) :: acc) := by
          rw [HD.out, digs_next m.natAbs (by omega)]; simp
        have z1 := chrL_len (48 - -(m.natAbs % 10 : Nat))
        have z2 : (str acc).size ≤ 20 := by rw [str_size]; exact hal
        have hw1 : wrap64 (m.tdiv 10) = m.tdiv 10 := by rw [ht]; unfold wrap64; omega
        have hw2 : wrap64 (48 - m.tmod 10) = 48 - m.tmod 10 := by rw [hr]; unfold wrap64; omega
        rw [← hr] at e z1
        have HC := Lib.hid (r_chrL (48 - m.tmod 10))
        have HE := Lib.hid e
        have HX := Lib.hid hnx
        have HT := Lib.hid ht
        clear ht hr e hnx
        generalize hsc : str (chrL (48 - m.tmod 10)) = sc at *
        clear hsc
        generalize hsa : str acc = sa at *
        clear hsa
        go_wp2_with (first | (go_at_call 116; (with_reducible refine (HC.out _).mono ?_); intro e w' hr; obtain ⟨rfl, hb⟩ := hr; have hI' := hI.on hb; (try clear hb); clear hI; have hI := hI'; clear hI'; (try simp only [mm, Act.put, Act.eval] at hI); (try clear c0); (try clear c1); (try clear c2); (try clear c3); (try clear c4); (try clear c5); (try have c0 := hI.cell (i := 0) rfl); (try have c1 := hI.cell (i := 1) rfl); (try have c2 := hI.cell (i := 2) rfl); (try have c3 := hI.cell (i := 3) rfl); (try have c4 := hI.cell (i := 4) rfl); (try have c5 := hI.cell (i := 5) rfl); skip) | fail)
        go_roundw
        case rel => exact ⟨m.tdiv 10, _, rfl, by rw [HE.out], by rw [HT.out]; omega, by rw [HT.out]; omega, by rw [HX.out, HT.out]; congr 2; omega, hI⟩
        case measure => simp only [intOf]; rw [HT.out]; omega
      · obtain rfl : m = 0 := by omega
        have e : str [45] ++ str acc = str (45 :: Lib.decDigits n.natAbs) := by
          have h1 := HD.out
          unfold digs at h1
          rw [if_neg (by omega)] at h1
          rw [str_app, h1]; rfl
        have HE := Lib.hid e
        have z2 : (str acc).size ≤ 20 := by rw [str_size]; exact hal
        clear e
        generalize hsa : str acc = sa at *
        clear hsa
        go_wp2_with fail
        go_returns
        exact ⟨by rw [← HE.out]; rfl, hI.below⟩
  · rw [itoa_pos hn0]
    exact r_Digits_pos n.toNat n hn0 (Nat.le_refl _) hn.2 w
end Go.Proofs.YtbkjhdohkdeniaaGreatDoor
