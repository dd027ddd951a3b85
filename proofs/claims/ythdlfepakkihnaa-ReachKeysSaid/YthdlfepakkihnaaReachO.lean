/- The order of keys, as plain data: a strict order, total; sorted lists of the same keys are the same. Conditions: none. -/
import Derived.Test.YthdlfepakkihnaaReachB
namespace Go.Proofs.Ythdlfepakkihnaa
open Go Go.RowKit Go.Shelf Go.Sort
set_option linter.unusedVariables false
set_option linter.unusedSimpArgs false
set_option maxRecDepth 100000
theorem lex_irr : ∀ l : List Int, lexB l l = false
  | [] => rfl
  | x :: l => by rw [lexB, if_pos rfl]; exact lex_irr l
theorem lex_trans : ∀ l m n : List Int, l.length = m.length → m.length = n.length → lexB l m = true → lexB m n = true → lexB l n = true
  | [], _, _, _, _, h, _ => by simp [lexB] at h
  | x :: l, [], _, h, _, _, _ => by simp at h
  | x :: l, y :: m, [], _, h, _, _ => by simp at h
  | x :: l, y :: m, z :: n, h1, h2, h3, h4 => by
    rw [lexB] at h3 h4 ⊢
    simp only [List.length_cons, Nat.add_right_cancel_iff] at h1 h2
    by_cases e1 : x = y <;> by_cases e2 : y = z
    · rw [if_pos e1] at h3; rw [if_pos e2] at h4; rw [if_pos (e1.trans e2)]; exact lex_trans l m n h1 h2 h3 h4
    · rw [if_neg e2] at h4; rw [if_neg (by rw [e1]; exact e2), e1]; exact h4
    · rw [if_neg e1] at h3; rw [if_neg (by rw [← e2]; exact e1), ← e2]; exact h3
    · rw [if_neg e1] at h3; rw [if_neg e2] at h4
      have a := of_decide_eq_true h3
      have b := of_decide_eq_true h4
      rw [if_neg (by omega)]; exact decide_eq_true (by omega)
theorem lex_ntrans : ∀ l m n : List Int, l.length = m.length → m.length = n.length → lexB l m = false → lexB m n = false → lexB l n = false
  | [], _, _, _, _, _, _ => by simp [lexB]
  | x :: l, [], _, h, _, _, _ => by simp at h
  | x :: l, y :: m, [], _, h, _, _ => by simp at h
  | x :: l, y :: m, z :: n, h1, h2, h3, h4 => by
    rw [lexB] at h3 h4 ⊢
    simp only [List.length_cons, Nat.add_right_cancel_iff] at h1 h2
    by_cases e1 : x = y <;> by_cases e2 : y = z
    · rw [if_pos e1] at h3; rw [if_pos e2] at h4; rw [if_pos (e1.trans e2)]; exact lex_ntrans l m n h1 h2 h3 h4
    · rw [if_neg e2] at h4; rw [if_neg (by rw [e1]; exact e2), e1]; exact h4
    · rw [if_neg e1] at h3; rw [if_neg (by rw [← e2]; exact e1), ← e2]; exact h3
    · rw [if_neg e1] at h3; rw [if_neg e2] at h4
      have a := of_decide_eq_false h3
      have b := of_decide_eq_false h4
      rw [if_neg (by omega)]; exact decide_eq_false (by omega)
theorem lex_tri : ∀ l m : List Int, l.length = m.length → lexB l m = false → lexB m l = false → l = m
  | [], [], _, _, _ => rfl
  | [], _ :: _, h, _, _ => by simp at h
  | _ :: _, [], h, _, _ => by simp at h
  | x :: l, y :: m, h, h1, h2 => by
    rw [lexB] at h1 h2
    simp only [List.length_cons, Nat.add_right_cancel_iff] at h
    by_cases e : x = y
    · rw [if_pos e] at h1; rw [if_pos e.symm] at h2; rw [e, lex_tri l m h h1 h2]
    · rw [if_neg e] at h1; rw [if_neg (Ne.symm e)] at h2
      have a := of_decide_eq_false h1
      have b := of_decide_eq_false h2
      omega
theorem orL_lex : ∀ l m : List Int, l.length = m.length → decide (orL (List.zipWith Lib.compareInt l m) < 0) = lexB l m
  | [], [], _ => rfl
  | [], _ :: _, h => by simp at h
  | _ :: _, [], h => by simp at h
  | x :: l, y :: m, h => by
    simp only [List.length_cons, Nat.add_right_cancel_iff] at h
    have ih := orL_lex l m h
    rw [List.zipWith_cons_cons, orL, lexB]
    unfold Lib.compareInt
    by_cases h1 : x < y
    · have : ¬ x = y := by omega
      simp [h1, this]
    · by_cases h2 : x = y
      · subst h2
        have : ¬ (x > x) := by omega
        simp only [if_neg h1, if_neg this, if_pos]
        exact ih
      · have h3 : x > y := by omega
        simp [h1, h2, h3]
theorem ltK (a b : Key) : ltOf cmpK a b = kLess a b := orL_lex (kList a) (kList b) rfl
theorem kList_len (k : Key) : (kList k).length = 5 := rfl
theorem kList_inj {a b : Key} (h : kList a = kList b) : a = b := by
  unfold kList at h
  simp only [List.cons.injEq, and_true] at h
  obtain ⟨h1, h2, h3, h4, h5⟩ := h
  cases a; cases b; simp_all
theorem kLess_tri {a b : Key} (h1 : kLess a b = false) (h2 : kLess b a = false) : a = b := kList_inj (lex_tri _ _ rfl h1 h2)
theorem kLess_ntrans {a b c : Key} (h1 : kLess a b = false) (h2 : kLess b c = false) : kLess a c = false := lex_ntrans (kList a) (kList b) (kList c) rfl rfl h1 h2
theorem swoK : SWO (ltOf cmpK) where
  irrefl x := by rw [ltK]; exact lex_irr _
  trans x y z h1 h2 := by rw [ltK] at *; exact lex_trans (kList x) (kList y) (kList z) rfl rfl h1 h2
  ntrans x y z h1 h2 := by rw [ltK] at *; exact kLess_ntrans h1 h2
theorem tw_all (p : Key → Bool) : ∀ (l : List Key) (x : Key), x ∈ l.takeWhile p → p x = true
  | [], _, h => by cases h
  | y :: l, x, h => by
    rw [List.takeWhile_cons] at h
    split at h
    · rename_i hy
      rcases List.mem_cons.1 h with rfl | h
      · exact hy
      · exact tw_all p l x h
    · cases h
/-- none is less than one ahead of it -/
def SortedK (l : List Key) : Prop := l.Pairwise fun a b => kLess b a = false
theorem insK_perm (out : List Key) (k : Key) : (insK out k).Perm (k :: out) := by
  unfold insK
  rw [List.append_assoc, List.singleton_append]
  exact List.perm_middle.trans (by rw [List.take_append_drop])
theorem insK_sorted {out : List Key} (k : Key) (h : SortedK out) : SortedK (insK out k) := by
  have htk : out.take (posK out k) = out.takeWhile fun x => kLess x k := by
    have key : ∀ tw dw : List Key, tw ++ dw = out → out.take tw.length = tw := by rintro tw dw rfl; exact List.take_left
    exact key _ _ (List.takeWhile_append_dropWhile (p := fun x => kLess x k) (l := out))
  have hdr : out.drop (posK out k) = out.dropWhile fun x => kLess x k := by
    have e := List.takeWhile_append_dropWhile (p := fun x => kLess x k) (l := out)
    have e2 := List.take_append_drop (posK out k) out
    rw [htk] at e2
    exact List.append_cancel_left (e2.trans e.symm)
  unfold insK
  rw [htk, hdr]
  have hs : (out.takeWhile fun x => kLess x k) ++ (out.dropWhile fun x => kLess x k) = out := List.takeWhile_append_dropWhile
  have hS : SortedK ((out.takeWhile fun x => kLess x k) ++ (out.dropWhile fun x => kLess x k)) := by rw [hs]; exact h
  obtain ⟨a1, a2, a3⟩ := List.pairwise_append.1 hS
  have hlt : ∀ x ∈ out.takeWhile fun x => kLess x k, kLess x k = true := fun x hx => tw_all (fun x => kLess x k) out x hx
  have hge : ∀ x ∈ out.dropWhile fun x => kLess x k, kLess x k = false := by
    cases hd : out.dropWhile fun x => kLess x k with
    | nil => intro x hx; cases hx
    | cons y l =>
      rw [hd] at a2
      have hy : kLess y k = false := by
        have := List.head_dropWhile_not (p := fun x => kLess x k) (l := out) (by rw [hd]; simp)
        simpa [hd] using this
      intro x hx
      rcases List.mem_cons.1 hx with rfl | hx
      · exact hy
      · exact kLess_ntrans ((List.pairwise_cons.1 a2).1 x hx) hy
  have hlk : ∀ x, kLess x k = true → kLess k x = false := fun x hx => by
    cases hk : kLess k x with
    | false => rfl
    | true => have := lex_trans (kList x) (kList k) (kList x) rfl rfl hx hk; rw [lex_irr] at this; cases this
  rw [List.append_assoc]
  refine List.pairwise_append.2 ⟨a1, ?_, fun x hx y hy => ?_⟩
  · exact List.pairwise_cons.2 ⟨fun y hy => hge y hy, a2⟩
  · rcases List.mem_cons.1 hy with rfl | hy
    · exact hlk x (hlt x hx)
    · exact a3 x hx y hy
theorem foldIns_sorted : ∀ (l out : List Key), SortedK out → SortedK (l.foldl insK out)
  | [], _, h => h
  | k :: l, out, h => foldIns_sorted l _ (insK_sorted k h)
theorem foldIns_perm : ∀ (l out : List Key), (l.foldl insK out).Perm (l ++ out)
  | [], _ => List.Perm.refl _
  | k :: l, out => (foldIns_perm l _).trans ((List.Perm.append_left l (insK_perm out k)).trans List.perm_middle)
theorem sortK_sorted (l : List Key) : SortedK (sortK l) := foldIns_sorted l [] List.Pairwise.nil
theorem sortK_perm (l : List Key) : (sortK l).Perm l := by have := foldIns_perm l []; rwa [List.append_nil] at this
/-- sorted lists of the same keys, none twice -/
theorem sorted_same {l m : List Key} (hl : SortedK l) (hm : SortedK m) (nl : l.Nodup) (nm : m.Nodup) (h : ∀ x, x ∈ l ↔ x ∈ m) : l = m :=
  List.Perm.eq_of_pairwise (fun a b _ _ h1 h2 => (kLess_tri h2 h1)) hl hm ((List.perm_ext_iff_of_nodup nl nm).2 h)
end Go.Proofs.Ythdlfepakkihnaa
