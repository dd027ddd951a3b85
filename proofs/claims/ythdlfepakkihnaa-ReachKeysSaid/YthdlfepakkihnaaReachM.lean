/- What is come to: a depth-first and a breadth-first search hold the same keys, as plain data. Conditions: none. -/
import Derived.Test.YthdlfepakkihnaaStepCk
namespace Go.Proofs.Ythdlfepakkihnaa
open Go.RowKit
set_option linter.unusedVariables false
set_option linter.unusedSimpArgs false
set_option maxRecDepth 100000
section
variable {E : Key → List Key}
/-- x is come to from k -/
inductive Come (E : Key → List Key) : Key → Key → Prop where
  | refl (k : Key) : Come E k k
  | step {k x y : Key} : Come E k x → y ∈ E x → Come E k y
theorem Come.head {k x y : Key} (h : x ∈ E k) (h2 : Come E x y) : Come E k y := by
  induction h2 with
  | refl => exact .step (.refl _) h
  | step _ hy ih => exact .step ih hy
theorem come_in {U : List Key} (hU : ∀ k ∈ U, ∀ y ∈ E k, y ∈ U) {k x : Key} (hk : k ∈ U) (h : Come E k x) : x ∈ U := by
  induction h with
  | refl => exact hk
  | step _ hy ih => exact hU _ ih _ hy
/-- a key is added, and all that is come to by it -/
def addF (E : Key → List Key) : Nat → List Key → Key → List Key
  | 0, S, _ => S
  | f + 1, S, k => if k ∈ S then S else (E k).foldl (addF E f) (S ++ [k])
theorem foldl_sub {g : List Key → Key → List Key} (hg : ∀ S k x, x ∈ S → x ∈ g S k) : ∀ (l S : List Key) x, x ∈ S → x ∈ l.foldl g S
  | [], _, _, h => h
  | k :: l, S, x, h => foldl_sub hg l (g S k) x (hg S k x h)
theorem addF_sub : ∀ (f : Nat) (S : List Key) (k x : Key), x ∈ S → x ∈ addF E f S k
  | 0, _, _, _, h => h
  | f + 1, S, k, x, h => by
    unfold addF
    split
    · exact h
    · exact foldl_sub (fun S k x => addF_sub f S k x) _ _ _ (List.mem_append_left _ h)
theorem foldl_come {g : List Key → Key → List Key} (hg : ∀ S k x, x ∈ g S k → x ∈ S ∨ Come E k x) : ∀ (l S : List Key) x, x ∈ l.foldl g S → x ∈ S ∨ ∃ k ∈ l, Come E k x
  | [], _, _, h => .inl h
  | k :: l, S, x, h => by
    rcases foldl_come hg l (g S k) x h with h | ⟨j, hj, hc⟩
    · rcases hg S k x h with h | h
      · exact .inl h
      · exact .inr ⟨k, List.mem_cons_self .., h⟩
    · exact .inr ⟨j, List.mem_cons_of_mem _ hj, hc⟩
theorem addF_come : ∀ (f : Nat) (S : List Key) (k x : Key), x ∈ addF E f S k → x ∈ S ∨ Come E k x
  | 0, _, _, _, h => .inl h
  | f + 1, S, k, x, h => by
    unfold addF at h
    split at h
    · exact .inl h
    · rcases foldl_come (fun S k x => addF_come f S k x) _ _ _ h with h | ⟨j, hj, hc⟩
      · rcases List.mem_append.1 h with h | h
        · exact .inl h
        · rw [List.mem_singleton.1 h]; exact .inr (.refl _)
      · exact .inr (.head hj hc)
theorem foldl_nodup {g : List Key → Key → List Key} (hg : ∀ S k, S.Nodup → (g S k).Nodup) : ∀ (l S : List Key), S.Nodup → (l.foldl g S).Nodup
  | [], _, h => h
  | k :: l, S, h => foldl_nodup hg l (g S k) (hg S k h)
theorem nodup_snoc {S : List Key} {k : Key} (h : S.Nodup) (hk : ¬ k ∈ S) : (S ++ [k]).Nodup := by
  refine List.nodup_append.2 ⟨h, by simp, fun a ha b hb => ?_⟩
  rw [List.mem_singleton.1 hb]
  exact fun e => hk (e ▸ ha)
theorem addF_nodup : ∀ (f : Nat) (S : List Key) (k : Key), S.Nodup → (addF E f S k).Nodup
  | 0, _, _, h => h
  | f + 1, S, k, h => by
    unfold addF
    split
    · exact h
    · rename_i hk; exact foldl_nodup (fun S k => addF_nodup f S k) _ _ (nodup_snoc h hk)
/-- how many of U are not yet there -/
def left (U S : List Key) : Nat := (U.filter fun x => decide (¬ x ∈ S)).length
theorem filter_le {α : Type} {p q : α → Bool} : ∀ (l : List α), (∀ x ∈ l, p x = true → q x = true) → (l.filter p).length ≤ (l.filter q).length
  | [], _ => Nat.le_refl _
  | x :: l, h => by
    have ih := filter_le l fun y hy => h y (List.mem_cons_of_mem _ hy)
    rw [List.filter_cons, List.filter_cons]
    cases hp : p x
    · cases hq : q x <;> simp <;> omega
    · rw [h x (List.mem_cons_self ..) hp]; simp; omega
theorem left_mono {U S S' : List Key} (h : ∀ x ∈ S, x ∈ S') : left U S' ≤ left U S := filter_le U fun x _ hx => by
  simp only [decide_eq_true_eq] at hx ⊢
  exact fun hs => hx (h x hs)
theorem left_snoc {k : Key} {S : List Key} (hk : ¬ k ∈ S) : ∀ {U : List Key}, k ∈ U → left U (S ++ [k]) < left U S
  | [], h => by cases h
  | x :: U, h => by
    unfold left
    rw [List.filter_cons, List.filter_cons]
    by_cases hx : x = k
    · subst hx
      have := left_mono (U := U) (S := S) (S' := S ++ [x]) fun y hy => List.mem_append_left _ hy
      unfold left at this
      rw [if_neg (by simp), if_pos (by simpa using hk)]
      simp only [List.length_cons]
      omega
    · have ih := left_snoc hk (U := U) (by rcases List.mem_cons.1 h with h | h; exact absurd h.symm hx; exact h)
      unfold left at ih
      by_cases hs : x ∈ S
      · rw [if_neg (by simp [hs]), if_neg (by simp [hs])]; exact ih
      · rw [if_pos (by simp [hs, hx]), if_pos (by simp [hs])]
        simp only [List.length_cons]; omega
/-- S' holds k, and all that the new ones lead to -/
def Shuts (E : Key → List Key) (S S' : List Key) : Prop := ∀ x ∈ S', ¬ x ∈ S → ∀ y ∈ E x, y ∈ S'
theorem foldl_shuts {g : List Key → Key → List Key} {U : List Key} {f : Nat} (hs : ∀ S k x, x ∈ S → x ∈ g S k) (hg : ∀ S k, k ∈ U → left U S < f → k ∈ g S k ∧ Shuts E S (g S k)) :
    ∀ (l S : List Key), (∀ k ∈ l, k ∈ U) → left U S < f → (∀ k ∈ l, k ∈ l.foldl g S) ∧ Shuts E S (l.foldl g S)
  | [], S, _, _ => ⟨(fun k h => by cases h), fun x hx hn => absurd hx hn⟩
  | k :: l, S, hl, hm => by
    obtain ⟨h1, h2⟩ := hg S k (hl k (List.mem_cons_self ..)) hm
    obtain ⟨h3, h4⟩ := foldl_shuts hs hg l (g S k) (fun j hj => hl j (List.mem_cons_of_mem _ hj)) (Nat.lt_of_le_of_lt (left_mono fun x hx => hs S k x hx) hm)
    refine ⟨fun j hj => ?_, fun x hx hn y hy => ?_⟩
    · rcases List.mem_cons.1 hj with rfl | hj
      · exact foldl_sub hs l _ _ h1
      · exact h3 j hj
    · by_cases hx2 : x ∈ g S k
      · exact foldl_sub hs l _ _ (h2 x hx2 hn y hy)
      · exact h4 x hx hx2 y hy
theorem addF_shuts {U : List Key} (hU : ∀ k ∈ U, ∀ y ∈ E k, y ∈ U) : ∀ (f : Nat) (S : List Key) (k : Key), k ∈ U → left U S < f → k ∈ addF E f S k ∧ Shuts E S (addF E f S k)
  | 0, _, _, _, h => by omega
  | f + 1, S, k, hk, hm => by
    unfold addF
    split
    · rename_i hkS; exact ⟨hkS, fun x hx hn => absurd hx hn⟩
    · rename_i hkS
      have hlt := left_snoc hkS hk
      obtain ⟨h3, h4⟩ := foldl_shuts (E := E) (fun S k x => addF_sub f S k x) (fun S k => addF_shuts hU f S k) (E k) (S ++ [k]) (hU k hk) (by omega)
      refine ⟨foldl_sub (fun S k x => addF_sub f S k x) _ _ _ (by simp), fun x hx hn y hy => ?_⟩
      by_cases hxk : x = k
      · subst hxk; exact h3 y hy
      · exact h4 x hx (by simp [hn, hxk]) y hy
/-- the roots added, one behind the other -/
def dfs (E : Key → List Key) (f : Nat) (l : List Key) : List Key := l.foldl (addF E f) []
theorem dfs_iff {U l : List Key} {f : Nat} (hU : ∀ k ∈ U, ∀ y ∈ E k, y ∈ U) (hl : ∀ k ∈ l, k ∈ U) (hf : U.length < f) (x : Key) : x ∈ dfs E f l ↔ ∃ k ∈ l, Come E k x := by
  have h0 : left U [] < f := Nat.lt_of_le_of_lt (List.length_filter_le ..) hf
  obtain ⟨h1, h2⟩ := foldl_shuts (E := E) (fun S k x => addF_sub f S k x) (fun S k => addF_shuts hU f S k) l [] hl h0
  constructor
  · intro h
    rcases foldl_come (fun S k x => addF_come f S k x) _ _ _ h with h | h
    · cases h
    · exact h
  · rintro ⟨k, hk, hc⟩
    induction hc with
    | refl => exact h1 k hk
    | step _ hy ih => exact h2 _ ih (by simp) _ hy
theorem dfs_nodup (f : Nat) (l : List Key) : (dfs E f l).Nodup := foldl_nodup (fun S k => addF_nodup f S k) _ _ (by simp)
/-- one key more, unless it is there -/
def addN (S : List Key) (k : Key) : List Key := if k ∈ S then S else S ++ [k]
theorem addN_sub (S : List Key) (k x : Key) (h : x ∈ S) : x ∈ addN S k := by
  unfold addN; split
  · exact h
  · exact List.mem_append_left _ h
theorem addN_mem (S : List Key) (k x : Key) : x ∈ addN S k ↔ x ∈ S ∨ x = k := by
  unfold addN; split
  · rename_i h; constructor
    · exact .inl
    · rintro (h1 | rfl)
      · exact h1
      · exact h
  · simp
theorem addN_nodup (S : List Key) (k : Key) (h : S.Nodup) : (addN S k).Nodup := by
  unfold addN; split
  · exact h
  · rename_i hk; exact nodup_snoc h hk
theorem addN_pre (S : List Key) (k : Key) : ∃ r, addN S k = S ++ r := by
  unfold addN; split
  · exact ⟨[], by simp⟩
  · exact ⟨[k], rfl⟩
theorem addsN_pre : ∀ (l S : List Key), ∃ r, l.foldl addN S = S ++ r
  | [], S => ⟨[], by simp⟩
  | k :: l, S => by
    obtain ⟨r, hr⟩ := addN_pre S k
    obtain ⟨q, hq⟩ := addsN_pre l (addN S k)
    exact ⟨r ++ q, by rw [List.foldl_cons, hq, hr, List.append_assoc]⟩
theorem addsN_mem : ∀ (l S : List Key) (x : Key), x ∈ l.foldl addN S ↔ x ∈ S ∨ x ∈ l
  | [], S, x => by simp
  | k :: l, S, x => by rw [List.foldl_cons, addsN_mem l, addN_mem, List.mem_cons, or_assoc]
/-- one round after another: the i-th key's are added, till there is no i-th one -/
def bfs (E : Key → List Key) : Nat → List Key → Nat → List Key
  | 0, S, _ => S
  | f + 1, S, i => match S[i]? with
    | none => S
    | some k => bfs E f ((E k).foldl addN S) (i + 1)
theorem bfs_end {S : List Key} {i : Nat} (h : S.length ≤ i) (f : Nat) : bfs E f S i = S := by
  cases f with
  | zero => rfl
  | succ f => rw [bfs, List.getElem?_eq_none h]
theorem bfs_next {S : List Key} {i f : Nat} {k : Key} (h : S[i]? = some k) : bfs E (f + 1) S i = bfs E f ((E k).foldl addN S) (i + 1) := by rw [bfs, h]
theorem bfs_iff {U l : List Key} (hU : ∀ k ∈ U, ∀ y ∈ E k, y ∈ U) (hl : ∀ k ∈ l, k ∈ U) : ∀ (f : Nat) (S : List Key) (i : Nat), S.Nodup → (∀ x ∈ S, ∃ k ∈ l, Come E k x) → (∀ k ∈ l, k ∈ S) → (∀ j k, j < i → S[j]? = some k → ∀ y ∈ E k, y ∈ S) → i ≤ S.length → U.length < f + i →
    (bfs E f S i).Nodup ∧ ∀ x, x ∈ bfs E f S i ↔ ∃ k ∈ l, Come E k x
  | f, S, i, hn, hc, hr, hd, hi, hf => by
    have hSU : ∀ x ∈ S, x ∈ U := fun x hx => by
      obtain ⟨k, hk, hcx⟩ := hc x hx
      exact come_in hU (hl k hk) hcx
    have hlen : S.length ≤ U.length := hn.length_le_of_subset hSU
    rcases Nat.lt_or_ge i S.length with hlt | hge
    · match f with
      | 0 => omega
      | f + 1 =>
        have hk : S[i]? = some S[i] := List.getElem?_eq_getElem hlt
        rw [bfs_next hk]
        obtain ⟨r, hr2⟩ := addsN_pre (E S[i]) S
        refine bfs_iff hU hl f _ (i + 1) (foldl_nodup addN_nodup _ _ hn) (fun x hx => ?_) (fun k hk => (addsN_mem _ _ _).2 (.inl (hr k hk))) (fun j k hj hjk y hy => ?_) (by rw [hr2, List.length_append]; omega) (by omega)
        · rcases (addsN_mem _ _ _).1 hx with h | h
          · exact hc x h
          · obtain ⟨k, hk, hcx⟩ := hc _ (List.getElem_mem hlt)
            exact ⟨k, hk, .step hcx h⟩
        · have hjS : j < S.length := by omega
          rw [hr2, List.getElem?_append_left hjS] at hjk
          refine (addsN_mem _ _ _).2 ?_
          by_cases hji : j = i
          · subst hji
            rw [hk] at hjk; cases hjk
            exact .inr hy
          · exact .inl (hd j k (by omega) hjk y hy)
    · rw [bfs_end hge]
      refine ⟨hn, fun x => ⟨hc x, ?_⟩⟩
      rintro ⟨k, hk, hcx⟩
      induction hcx with
      | refl => exact hr k hk
      | step _ hy ih =>
        obtain ⟨j, hj, he⟩ := List.getElem_of_mem ih
        exact hd j _ (by omega) (by rw [List.getElem?_eq_getElem hj, he]) _ hy
end
/-- the keys among some values -/
def keysOf (l : List Val) : List Key := l.filterMap fun v => if v.is = true then some v.key else none
theorem keysOf_mem {l : List Val} {k : Key} : k ∈ keysOf l ↔ ∃ v ∈ l, v.is = true ∧ v.key = k := by
  unfold keysOf
  rw [List.mem_filterMap]
  constructor
  · rintro ⟨v, hv, h⟩
    split at h
    · rename_i hi; exact ⟨v, hv, hi, Option.some.inj h⟩
    · cases h
  · rintro ⟨v, hv, hi, rfl⟩
    exact ⟨v, hv, by rw [if_pos hi]⟩
theorem keysOf_app (a b : List Val) : keysOf (a ++ b) = keysOf a ++ keysOf b := List.filterMap_append ..
theorem keysOf_next {l : List Val} {k : Nat} {v : Val} (h : l[k]? = some v) : keysOf (l.take (k + 1)) = keysOf (l.take k) ++ if v.is = true then [v.key] else [] := by
  rw [List.take_add_one, h, keysOf_app]
  congr 1
  unfold keysOf
  rw [Option.toList_some, List.filterMap_cons]
  cases v.is <;> rfl
def countsB (deep : Bool) (k : Key) : Bool := deep || k.tag == 0
def opensK (deep : Bool) (k : Key) : Bool := countsB deep k && subB 9 k.perm
def cellsK (mem : List Val) (k : Key) : List Val := (mem.drop k.base.toNat).take k.len.toNat
/-- what a key leads to at once -/
def succK (deep : Bool) (mem : List Val) (k : Key) : List Key := if opensK deep k = true then keysOf (cellsK mem k) else []
def rootsK (deep : Bool) (m : Mach) : List Key := m.code :: (keysOf m.regs ++ if deep = true then m.stack.flatMap (fun f => f.code :: keysOf [f.data]) else [])
def allK (deep : Bool) (m : Mach) : List Key := rootsK deep m ++ keysOf m.mem
theorem succK_in {deep : Bool} {m : Mach} {k y : Key} (h : y ∈ succK deep m.mem k) : y ∈ allK deep m := by
  unfold succK at h
  split at h
  · obtain ⟨v, hv, hi, rfl⟩ := keysOf_mem.1 h
    refine List.mem_append_right _ (keysOf_mem.2 ⟨v, ?_, hi, rfl⟩)
    exact List.mem_of_mem_drop (List.mem_of_mem_take hv)
  · cases h
def fuelK (deep : Bool) (m : Mach) : Nat := (allK deep m).length + 1
/-- the keys that are come to -/
def reachS (deep : Bool) (m : Mach) : List Key := dfs (succK deep m.mem) (fuelK deep m) (rootsK deep m)
theorem reachS_iff (deep : Bool) (m : Mach) (x : Key) : x ∈ reachS deep m ↔ ∃ k ∈ rootsK deep m, Come (succK deep m.mem) k x :=
  dfs_iff (U := allK deep m) (fun _ _ _ hy => succK_in hy) (fun k hk => List.mem_append_left _ hk) (Nat.lt_succ_self _) x
theorem reachS_nodup (deep : Bool) (m : Mach) : (reachS deep m).Nodup := dfs_nodup _ _
/-- the same, one round after another -/
def reachR (deep : Bool) (m : Mach) : List Key := bfs (succK deep m.mem) (fuelK deep m) ((rootsK deep m).foldl addN []) 0
theorem reachR_spec (deep : Bool) (m : Mach) : (reachR deep m).Nodup ∧ ∀ x, x ∈ reachR deep m ↔ ∃ k ∈ rootsK deep m, Come (succK deep m.mem) k x :=
  bfs_iff (U := allK deep m) (fun _ _ _ hy => succK_in hy) (fun k hk => List.mem_append_left _ hk) _ _ 0 (foldl_nodup addN_nodup _ _ (by simp))
    (fun x hx => by
      rcases (addsN_mem _ _ _).1 hx with h | h
      · cases h
      · exact ⟨x, h, .refl x⟩)
    (fun k hk => (addsN_mem _ _ _).2 (.inr hk)) (fun j k hj => by omega) (Nat.zero_le _) (by unfold fuelK; omega)
theorem reach_same (deep : Bool) (m : Mach) (x : Key) : x ∈ reachS deep m ↔ x ∈ reachR deep m := by rw [reachS_iff, (reachR_spec deep m).2]
theorem reach_any (deep : Bool) (m : Mach) (p : Key → Bool) : (reachS deep m).any p = (reachR deep m).any p := by
  rw [Bool.eq_iff_iff, List.any_eq_true, List.any_eq_true]
  exact ⟨fun ⟨x, hx, h⟩ => ⟨x, (reach_same deep m x).1 hx, h⟩, fun ⟨x, hx, h⟩ => ⟨x, (reach_same deep m x).2 hx, h⟩⟩
/-- is this place for one of them -/
def forB (deep : Bool) (p at_ : Int) (k : Key) : Bool := countsB deep k && (subB p k.perm && cov k at_)
/-- those of the places from, from + 1 .. that some key is for -/
def placesF (S : List Key) (deep : Bool) (p : Int) (start n : Nat) : List Int := ((List.range n).map fun i => ((start + i : Nat) : Int)).filter fun a => S.any (forB deep p a)
theorem placesF_next (S : List Key) (deep : Bool) (p : Int) (start n : Nat) : placesF S deep p start (n + 1) = placesF S deep p start n ++ if S.any (forB deep p ((start + n : Nat) : Int)) = true then [((start + n : Nat) : Int)] else [] := by
  unfold placesF
  rw [List.range_succ, List.map_append, List.filter_append]
  congr 1
  rw [List.map_cons, List.map_nil, List.filter_cons]
  rfl
theorem placesF_len (S : List Key) (deep : Bool) (p : Int) (start n : Nat) : (placesF S deep p start n).length ≤ n := by
  unfold placesF
  refine Nat.le_trans (List.length_filter_le ..) ?_
  simp
theorem placesF_same (deep : Bool) (m : Mach) (p : Int) (start n : Nat) : placesF (reachS deep m) deep p start n = placesF (reachR deep m) deep p start n := by
  unfold placesF
  congr 1
  funext a
  exact reach_any deep m _
theorem Come.ok {deep : Bool} {m : Mach} (h : ∀ v ∈ m.mem, v.is = true → keyOk v.key = true) {k x : Key} (hk : keyOk k = true) (hc : Come (succK deep m.mem) k x) : keyOk x = true := by
  induction hc with
  | refl => exact hk
  | step _ hy _ =>
    unfold succK at hy
    split at hy
    · obtain ⟨v, hv, hi, rfl⟩ := keysOf_mem.1 hy
      exact h v (List.mem_of_mem_drop (List.mem_of_mem_take hv)) hi
    · cases hy
end Go.Proofs.Ythdlfepakkihnaa
