/- A range over a function whose iterator turns blocks that lay ahead of the loop: the law over resources. Conditions: none. -/
import Derived.Test.YthdlfepakkihnaaInv
import Derived.RangeFuncFrom
import Derived.RangeFuncLeaves
import Derived.RangeFuncCalls
namespace Go.Proofs.Ythdlfepakkihnaa
open Go Go.RowKit
set_option linter.unusedVariables false
set_option linter.unusedSimpArgs false
set_option maxRecDepth 100000
section
variable {T : Nat → Prop} {w0 w : World} {rs : List Res}
theorem InvT.moreObj (h : InvT T w0 rs w) (o : Obj) : InvT T w0 (rs ++ [.obj w.heap.size o]) (w.alloc o) :=
  h.more ((Below.refl _ w).alloc (Nat.le_refl _) _) (show (w.alloc o).heap[w.heap.size]? = some o from World.alloc_heap_new w o) fun k hk => by cases hk; exact Nat.le_refl _
theorem InvT.putObj (h : InvT T w0 rs w) {i g : Nat} {o : Obj} (hi : rs[i]? = some (.obj g o)) (o' : Obj) : InvT T w0 (rs.set i (.obj g o')) (w.putObj g o') :=
  h.turn hi (grownBy_putObj' w g o') (fun k e => by cases e; exact .inl rfl) (World.putObj_heap_same (h.lt hi rfl)) (fun k e => .inl e)
theorem set_end {xs : List Res} {a b c : Res} : (xs ++ [a, b]).set (xs.length + 1) c = xs ++ [a, c] := by
  rw [List.set_append_right _ _ (by omega)]
  simp
theorem at_end {xs : List Res} {a b : Res} : (xs ++ [a, b])[xs.length + 1]? = some b := by
  rw [List.getElem?_append_right (by omega)]
  simp
theorem at_end0 {xs : List Res} {a b : Res} : (xs ++ [a, b])[xs.length]? = some a := by
  rw [List.getElem?_append_right (by omega)]
  simp
end
/-- what an iterator over resources promises: own0 its blocks at first, E N own' those behind N rounds; Sx k x: x comes in round k -/
def SeqRes {α : Type} (F : Fence) (n : Nat) (P : Program) (gf : Nat) (lb : Array Value) (encs : α → Array Value) (Sx : Nat → α → Prop) (E : Nat → List Res → Prop) (T : Nat → Prop) (w0 : World) (own0 : List Res) : Prop :=
  ∀ (l : Nat) (W : World) (RX : Nat → List Res → Prop), (∃ rsC, RX 0 rsC ∧ InvT T w0 (own0 ++ rsC) W) →
    (∀ (k : Nat) (x : α) (own rsC : List Res) (W1 : World), Sx k x → RX k rsC → InvT T w0 (own ++ rsC) W1 → YieldAt F (n - 1) P l (encs x) W1 fun e W' => e = .returned (.bool true) ∧ ∃ rsC', RX (k + 1) rsC' ∧ InvT T w0 (own ++ rsC') W') →
    CallsIn F n P gf (#[.func (.yield l) #[] #[]] ++ lb) W fun e W' => (∃ v, e = .returned v) ∧ ∃ N own' rsC, E N own' ∧ RX N rsC ∧ InvT T w0 (own' ++ rsC) W'
theorem wpIn_rangeFunc_res {α : Type} {F : Fence} {n : Nat} {P : Program} {g : Operand} {ps : Array Tmp} {assign body : Code} {Q : Exit → Act → World → Prop} {a : Act} {w w0 : World} {T : Nat → Prop}
    (hro : F.round = none) (h1 : 1 ≤ n) {gf : Nat} {lb : Array Value} (hg : a.eval g = .func (.func gf) #[] lb) (hFg : F.fn gf) (eg : ∀ args w, (callFunc gf args).run P w = .ok (.enter gf args) w)
    {encs : α → Array Value} {Sx : Nat → α → Prop} {E : Nat → List Res → Prop} {own0 rsB0 : List Res} (hseq : SeqRes F (n - 1) P gf lb encs Sx E T w0 own0) (hps : ∀ x, (encs x).size = ps.size)
    (RB : Nat → List Res → Prop) (h0 : RB 0 rsB0) (hI : InvT T w0 (own0 ++ rsB0) w) (a₁ : α → Act)
    (hassign : ∀ (l : Nat) (x : α) (W : World) (K : Act → World → Prop), K (a₁ x) W →
      assign.wpIn (F.inRound l) (n - 1 - 1) P (Exit.then K (fun _ _ _ => False)) { tmps := (ps.zip (encs x)).foldl (fun t (p, v) => t.setIfInBounds p v) a.tmps, defers := [] } W)
    (hbody : ∀ (l k : Nat) (x : α) (own rsB objs : List Res) (W : World), Sx k x → RB k rsB → InvT T w0 (own ++ rsB ++ objs) W →
      body.wpIn (F.inRound l) (n - 1 - 1) P (fun e _ W' => e = .normal ∧ ∃ rsB', RB (k + 1) rsB' ∧ InvT T w0 (own ++ rsB' ++ objs) W') (a₁ x) W)
    (hdone : ∀ (D N : Nat) (own' rsB : List Res) (o : Obj) (W : World), E N own' → RB N rsB → InvT T w0 (own' ++ rsB ++ [.obj D (.deferred (some [])), .obj (D + 1) o]) W →
      Q .normal { a with defers := { target := .collected D, args := #[] } :: a.defers } W) :
    (Code.rangeFunc g ps assign body).wpIn F n P Q a w := by
  refine wpIn_rangeFunc ?_
  intro fn hfn
  rw [hro]
  obtain ⟨rec, hrec⟩ : ∃ rec : LoopState → Option Code → Loop, rec = fun st pe => { state := st, pending := pe, fn, tmps := a.tmps, params := ps, assign, body, defers := w.heap.size } := ⟨_, rfl⟩
  obtain ⟨W1, hW1⟩ : ∃ W1, (w.alloc (.deferred (some []))).alloc (.loop (rec .ready none)) = W1 := ⟨_, rfl⟩
  have hI1 : InvT T w0 (own0 ++ rsB0 ++ [.obj w.heap.size (.deferred (some [])), .obj (w.heap.size + 1) (.loop (rec .ready none))]) W1 := by
    have h2 := (hI.moreObj (.deferred (some []))).moreObj (.loop (rec .ready none))
    rw [World.size_alloc, hW1, List.append_assoc] at h2
    exact h2
  refine ⟨w.heap.size + 1, [{ target := .collected w.heap.size, args := #[] }], W1, { target := .fn (.func gf) lb, args := #[.func (.yield (w.heap.size + 1)) #[] #[]] }, W1, gf,
    #[.func (.yield (w.heap.size + 1)) #[] #[]] ++ lb, W1, ?_, ?_, ?_, ?_, fun _ => h1, ?_⟩
  · rw [← hW1, hrec]; exact run_enterLoop_outer _ _ _ _ _
  · simp only [resolve, hg]
    simp [go_sem]
  · intro f' hf'; simp [Target.leads] at hf'; subst hf'; exact hFg
  · simp [invoke, go_sem, eg]
  · refine (hseq (w.heap.size + 1) W1 (fun k rsC => ∃ rsB, RB k rsB ∧ rsC = rsB ++ [.obj w.heap.size (.deferred (some [])), .obj (w.heap.size + 1) (.loop (rec .ready none))]) ⟨_, ⟨rsB0, h0, rfl⟩, by rw [← List.append_assoc]; exact hI1⟩ ?_).mono ?_
    · rintro k x own rsC W hS ⟨rsB, hRB, rfl⟩ hIw
      rw [← List.append_assoc] at hIw
      have hl : W.heap[w.heap.size + 1]? = some (.loop (rec .ready none)) := hIw.ok _ _ at_end
      have hy := run_yield (P := P) (args := encs x) hl (by rw [hrec]; exact hps x)
      rw [hrec] at hy
      refine ⟨fn, _, assign, body, hy, roundIn_of_wpIn hfn (hassign _ x W _ ⟨_, run_beginRound hl (by rw [hrec]), ?_⟩)⟩
      have hI2 := hIw.putObj at_end (.loop { rec .ready none with state := .busy })
      rw [set_end] at hI2
      refine wpIn_mono (hbody _ k x own rsB _ _ hS hRB hI2) ?_
      rintro e a3 W3 ⟨rfl, rsB', hRB', hI3⟩
      have hl3 : W3.heap[w.heap.size + 1]? = some (.loop { rec .ready none with state := .busy }) := hI3.ok _ _ at_end
      have hI4 := hI3.putObj at_end (.loop (rec .ready none))
      rw [set_end, List.append_assoc] at hI4
      have hr := run_endRound (P := P) none hl3
      rw [hrec] at hr hI4 ⊢
      exact ⟨_, _, hr, rfl, _, ⟨rsB', hRB', rfl⟩, hI4⟩
    · rintro e W2 ⟨⟨v, rfl⟩, N, own', rsC, hE, ⟨rsB, hRB, rfl⟩, hIw⟩
      rw [← List.append_assoc] at hIw
      have hl : W2.heap[w.heap.size + 1]? = some (.loop (rec .ready none)) := hIw.ok _ _ at_end
      have hI4 := hIw.putObj at_end (.loop { rec .ready none with state := .exhausted })
      rw [set_end] at hI4
      exact ⟨none, _, by have := run_endLoop (P := P) hl (by rw [hrec]; simp); rw [hrec] at this; exact this, hdone _ N own' rsB _ _ hE hRB (by rw [hrec] at hI4; exact hI4)⟩
end Go.Proofs.Ythdlfepakkihnaa
