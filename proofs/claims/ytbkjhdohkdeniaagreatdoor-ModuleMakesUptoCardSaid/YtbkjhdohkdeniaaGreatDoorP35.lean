/- What the parts say: The contract of the reference's ProgRead: the program that a text tells, as plain data tells it. Conditions: the library's variables hold what they were laid with. -/
import Derived.Test.YtbkjhdohkdeniaaGreatDoorP33
import Derived.Test.YtbkjhdohkdeniaaGreatDoorP34
import Derived.Test.YtbkjhdohkdeniaaGreatDoorP24
import Derived.Test.YtbkjhdohkdeniaaGreatDoorP13
set_option linter.unusedVariables false
set_option linter.unusedSimpArgs false
namespace Go.Proofs.YtbkjhdohkdeniaaGreatDoor
open Go.RowKit Go.MapKept
set_option maxRecDepth 100000
def cellK2 (s : List UInt8) : LineK := if wordP.isPrefixOf s = true then (if isWordN (s.drop 5) = true then .cell (atoiN (s.drop 5)) else .bad)
  else if isHole (splitL 32 s) = true then .hole (jumpW (splitL 32 s)).1 ((splitL 32 s).getLastD [])
  else if (parseF s).2 = 0 then .cell (packF (parseF s).1).1 else .bad
theorem lineK2_large {s : List UInt8} (h : 80 < s.length) : lineK s = .large := by unfold lineK; rw [if_pos h]
theorem lineK2_label {s : List UInt8} (h : ¬ 80 < s.length) (h2 : s.getLast? = some 58) : lineK s = .label s.dropLast := by unfold lineK; rw [if_neg h, if_pos h2]
theorem lineK2_cell {s : List UInt8} (h : ¬ 80 < s.length) (h2 : ¬ s.getLast? = some 58) (h3 : ¬ s = []) : lineK s = cellK2 s := by unfold lineK cellK2; rw [if_neg h, if_neg h2, if_neg h3]
theorem suffix_colon2 (s : List UInt8) : Lib.hasSuffix s [58] = decide (s.getLast? = some 58) ∧ (s.getLast? = some 58 → Lib.trimSuffix s [58] = s.dropLast) ∧ (¬ s.getLast? = some 58 → Lib.trimSuffix s [58] = s) := by
  have h : Lib.hasSuffix s [58] = decide (s.getLast? = some 58) := by
    unfold Lib.hasSuffix
    rw [Bool.eq_iff_iff, decide_eq_true_eq, List.isSuffixOf_iff_suffix]
    constructor
    · rintro ⟨t, rfl⟩; simp
    · intro hl
      obtain ⟨ys, rfl⟩ := List.getLast?_eq_some_iff.1 hl
      exact ⟨ys, rfl⟩
  refine ⟨h, fun hl => ?_, fun hl => ?_⟩
  · unfold Lib.trimSuffix
    rw [h, if_pos (decide_eq_true hl), List.length_singleton, List.dropLast_eq_take]
  · unfold Lib.trimSuffix
    rw [h, decide_eq_false hl]; rfl
theorem cellK2_bad {s : List UInt8} (h : (!isHole (splitL 32 s) && !wordB s && decide ((parseF s).2 ≠ 0)) = true) : cellK2 s = .bad := by
  simp only [Bool.and_eq_true, Bool.not_eq_true', decide_eq_true_eq] at h
  obtain ⟨⟨h1, h2⟩, h3⟩ := h
  unfold cellK2
  unfold wordB at h2
  cases hw : wordP.isPrefixOf s
  · rw [if_neg (by decide), if_neg (by rw [h1]; decide), if_neg h3]
  · rw [hw, Bool.true_and] at h2
    rw [if_pos rfl, if_neg (by rw [h2]; decide)]
theorem cellK2_ok {s : List UInt8} (h : (!isHole (splitL 32 s) && !wordB s && decide ((parseF s).2 ≠ 0)) = false) :
    (isHole (splitL 32 s) = true ∧ wordB s = false ∧ cellK2 s = .hole (jumpW (splitL 32 s)).1 ((splitL 32 s).getLastD [])) ∨ (isHole (splitL 32 s) = false ∧ wordB s = true ∧ cellK2 s = .cell (wordV s)) ∨ (isHole (splitL 32 s) = false ∧ wordB s = false ∧ (parseF s).2 = 0 ∧ cellK2 s = .cell (packF (parseF s).1).1) := by
  unfold cellK2 wordB wordV
  cases hw : wordP.isPrefixOf s
  · rw [if_neg (by decide), Bool.false_and]
    cases hh : isHole (splitL 32 s)
    · right; right
      unfold wordB at h
      rw [hw, hh] at h
      have : (parseF s).2 = 0 := by simpa using h
      exact ⟨rfl, rfl, this, by rw [if_neg (by decide), if_pos this]⟩
    · exact .inl ⟨rfl, rfl, by rw [if_pos rfl]⟩
  · have hh := hole_word hw
    have hp := parse_wordP hw
    rw [if_pos rfl, if_pos rfl, Bool.true_and, hh]
    unfold wordB at h
    rw [hw, hh, hp] at h
    cases hn : isWordN (s.drop 5)
    · rw [hn] at h; simp at h
    · exact .inr (.inl ⟨rfl, rfl, by rw [if_pos rfl, (word_num _).2 hn]⟩)
section
variable {P : Program} {o : Oper} {a : Act} {T : Nat → Prop} {w0 w : World} {rs : List Res} {K : Act → World → Prop} {Q : Exit → Act → World → Prop}
theorem wpI_labLook2 (t : TypeId) (m x : Operand) (ho : o.op = .lookup t m x true) {kt e : TypeId} (ht : P.underlying t = some (.map kt e)) (hk : P.underlying kt = some .string) (hz : ∀ w, (zeroValue e).run P w = .ok (.int .i64 0) w) (hI : InvT T w0 rs w) {g : Nat} (hm : a.eval m = .map (some g)) (i : Nat) {l : List Lab} (hi : rs[i]? = some (.obj g (labO l)))
    {s : List UInt8} (hx : a.eval x = .string (str s)) {r : Option Int} (hr : findL l s = r) (h : K (a.put o.dst (.tuple #[.int .i64 (r.getD 0), .bool r.isSome])) w) : o.wp P a w K Q := by
  refine wpI_labLook t m x ho ht hk hz hI hm i hi hx ?_
  have e : lookV l s = .tuple #[.int .i64 (r.getD 0), .bool r.isSome] := by
    unfold lookV; rw [hr]; cases r <;> rfl
  rw [e]; exact h
end
def okK : LineK → Prop
  | .large => False
  | .bad => False
  | _ => True
theorem okK_of {ls : List Lab} {x : LineK} (h : labErr ls x = 0) : okK x := by
  cases x with
  | large => exact absurd h (by show ¬ (2 : Int) = 0; decide)
  | bad => exact absurd h (by show ¬ (3 : Int) = 0; decide)
  | _ => trivial
structure RefK (ks : List LineK) (k at_ : Nat) (labs : List Lab) : Prop where
  run : run1 ks ⟨0, []⟩ 0 = run1 (ks.drop k) ⟨at_, labs⟩ k
  at_le : at_ ≤ k
  nl : labs.length ≤ 20
  pos : ∀ x ∈ labs, 0 ≤ x.pos ∧ x.pos ≤ k
  ok : ∀ (j : Nat) x, j < k → ks[j]? = some x → okK x
theorem RefK.zero (ks : List LineK) : RefK ks 0 0 [] := ⟨rfl, by omega, by simp, (fun x h => by cases h), fun j x h => by omega⟩
section
variable {ks : List LineK} {k at_ : Nat} {labs : List Lab} {x : LineK}
theorem RefK.bad (h : RefK ks k at_ labs) (hx : ks[k]? = some x) (he : labErr labs x ≠ 0) : progL ks = ⟨[], [], k + 1, labErr labs x⟩ := by
  unfold progL
  rw [h.run, run1_next _ _ hx, if_pos he]
theorem RefK.okn (h : RefK ks k at_ labs) (hx : ks[k]? = some x) (he : labErr labs x = 0) : ∀ (j : Nat) y, j < k + 1 → ks[j]? = some y → okK y := fun j y hj hy => by
  rcases Nat.lt_or_ge j k with h1 | h1
  · exact h.ok j y h1 hy
  · obtain rfl : j = k := by omega
    rw [hx] at hy; cases hy
    exact okK_of he
theorem RefK.same (h : RefK ks k at_ labs) (hx : ks[k]? = some .empty) : RefK ks (k + 1) at_ labs := by
  have he : labErr labs .empty = 0 := rfl
  refine ⟨?_, by have := h.at_le; omega, h.nl, fun y hy => by have := h.pos y hy; omega, h.okn hx he⟩
  rw [h.run, run1_next _ _ hx, if_neg (by rw [he]; decide)]
  rw [show ((k + 1 : Nat) : Int) = (k : Int) + 1 by omega]; rfl
theorem RefK.label {nm : List UInt8} (h : RefK ks k at_ labs) (hx : ks[k]? = some (.label nm)) (he : labErr labs (.label nm) = 0) : RefK ks (k + 1) at_ (labs ++ [⟨nm, at_⟩]) := by
  have hn : labs.length ≠ 20 := by
    intro h20
    rw [labErr_label] at he
    split at he
    · cases he
    · split at he
      · cases he
      · first | cases he | (rw [if_pos h20] at he; cases he)
  refine ⟨?_, by have := h.at_le; omega, by have := h.nl; rw [List.length_append, List.length_cons, List.length_nil]; omega, fun y hy => ?_, h.okn hx he⟩
  · rw [h.run, run1_next _ _ hx, if_neg (by rw [he]; decide)]
    rw [show ((k + 1 : Nat) : Int) = (k : Int) + 1 by omega]; rfl
  · rcases List.mem_append.1 hy with hy | hy
    · have := h.pos y hy; omega
    · obtain rfl := List.mem_singleton.1 hy
      have := h.at_le
      dsimp only; omega
theorem RefK.cell (h : RefK ks k at_ labs) (hx : ks[k]? = some x) (hc : (∃ v, x = .cell v) ∨ ∃ i nm, x = .hole i nm) : RefK ks (k + 1) (at_ + 1) labs := by
  have he : labErr labs x = 0 := by rcases hc with ⟨v, rfl⟩ | ⟨i, nm, rfl⟩ <;> rfl
  refine ⟨?_, by have := h.at_le; omega, h.nl, fun y hy => by have := h.pos y hy; omega, h.okn hx he⟩
  rw [h.run, run1_next _ _ hx, if_neg (by rw [he]; decide)]
  rw [show ((k + 1 : Nat) : Int) = (k : Int) + 1 by omega]
  rcases hc with ⟨v, rfl⟩ | ⟨i, nm, rfl⟩ <;> (show run1 _ (step1 _ _) _ = _; simp [step1])
theorem RefK.last (h : RefK ks ks.length at_ labs) : progL ks = match run2 labs ks [] 0 with | .inl (n, e) => ⟨[], [], n, e⟩ | .inr code => ⟨code, labs, 0, 0⟩ := by
  unfold progL
  rw [h.run, List.drop_length]
  rfl
end
theorem run2_at {ls : List Lab} {ks : List LineK} {k : Nat} {x : LineK} {code : List Int} {n : Int} (hx : ks[k]? = some x) : run2 ls (ks.drop k) code n = run2 ls (x :: ks.drop (k + 1)) code n := by
  obtain ⟨hk, rfl⟩ := List.getElem?_eq_some_iff.1 hx
  rw [List.drop_eq_getElem_cons hk]
theorem findL_in2 {ls : List Lab} {nm : List UInt8} {p : Int} (h : findL ls nm = some p) : ∃ x ∈ ls, x.pos = p := by
  unfold findL at h
  cases hf : ls.find? fun l => l.name == nm with
  | none => rw [hf] at h; cases h
  | some x => rw [hf] at h; exact ⟨x, List.mem_of_find?_eq_some hf, Option.some.inj h⟩
theorem hole_jump {ws : List (List UInt8)} (h : isHole ws = true) : (jumpW ws).2 = 0 ∧ ((jumpW ws).1.op = 8 ∨ (jumpW ws).1.op = 9) := by
  unfold isHole at h
  simp only [Bool.and_eq_true, Bool.or_eq_true, decide_eq_true_eq] at h
  exact h.2.2
theorem jump_ok {ws : List (List UInt8)} (h : isHole ws = true) (c : Int) : instOk { (jumpW ws).1 with c := c } = inR c (-2048) 2047 := by
  obtain ⟨h0, hop⟩ := hole_jump h
  unfold jumpW at h0 hop ⊢
  generalize Lib.join (ws.dropLast ++ [zeroT]) [32] = s at *
  rcases parseF_cases s with ⟨i, hi, hp⟩ | ⟨_, hp⟩
  · rw [hp] at hop ⊢
    have hok := hi.1
    obtain ⟨op, a, b, c0⟩ := i
    dsimp only at hop
    simp only [instOk, Bool.and_eq_true] at hok ⊢
    obtain ⟨⟨⟨h1, h2⟩, h3⟩, h4⟩ := hok
    rw [h1, h2, h3]
    rcases hop with rfl | rfl <;> rfl
  · rw [hp] at h0; cases h0
theorem r_TrimB (s : List UInt8) (hs : s.length ≤ 4000000000) (w : World) : Calls Tryz.prog 36 #[.string (str s), .string ⟨#[58]⟩] w fun e w' => e = .returned (.string (str (Lib.trimSuffix s [58]))) ∧ w = w' := by
  refine (Tryz.strings_TrimSuffix (str s) ⟨#[58]⟩ w (by rw [str_size]; omega)).mono ?_
  rintro e w' ⟨rfl, rfl⟩
  refine ⟨?_, rfl⟩
  show Ending.returned (.string (str (Lib.trimSuffix (str s).data.toList [58]))) = _
  rw [str_list]
theorem r_SufB (s : List UInt8) (hs : s.length ≤ 4000000000) (w : World) : Calls Tryz.prog 38 #[.string (str s), .string ⟨#[58]⟩] w fun e w' => e = .returned (.bool (decide (s.getLast? = some 58))) ∧ w = w' := by
  refine (Tryz.strings_HasSuffix (str s) ⟨#[58]⟩ w (by rw [str_size]; omega)).mono ?_
  rintro e w' ⟨rfl, rfl⟩
  refine ⟨?_, rfl⟩
  show Ending.returned (.bool (Lib.hasSuffix (str s).data.toList [58])) = _
  rw [str_list, (suffix_colon2 s).1]
def RefRet (w : World) (p : ProgR) (e : Ending) (w' : World) : Prop := ∃ vc vl, e = .returned (.tuple #[vc, vl, .int .i64 p.line, .int .i64 p.err]) ∧ Inv w [.row 3 1 vc p.code.length (p.code.flatMap encI), .row 47 2 vl p.labs.length (p.labs.flatMap encLab)] w'
theorem RefRet.bad {w w' : World} {rs : List Res} {n e : Int} {p : ProgR} (hp : p = ⟨[], [], n, e⟩) (h : Inv w rs w') : RefRet w p (.returned (.tuple #[.slice none 0 0, .slice none 0 0, .int .i64 n, .int .i64 e])) w' := by
  subst hp
  exact ⟨_, _, rfl, (((h.first [] rs rfl).nilrow 3 1).nilrow 47 2)⟩
set_option maxHeartbeats 16000000 in
theorem r_ProgRead (s : List UInt8) (hs : s.length ≤ 1500000) (w : World) (hE : Env w) : Calls Tryz.prog 11 #[.string (str s)] w (RefRet w (progR s)) := by
  have hI := Inv.start w
  have HS := Lib.hid (fun (w' : World) (hI : Inv w [] w') => c_SplitB hI hE 10 s (by omega))
  have hlen : ∀ (k : Nat) x, (splitL 10 s)[k]? = some x → x.length ≤ 1500000 := fun k x hx => by
    have := splitL_le (List.mem_of_getElem? hx); omega
  have HLEN := Lib.hid hlen
  have HP := Lib.hid (show progR s = if 150 < (splitL 10 s).length then ⟨[], [], 0, 2⟩ else progL ((splitL 10 s).map lineK) from rfl)
  clear hlen hs
  generalize splitL 10 s = ls at *
  generalize progR s = pr at *
  rcases Nat.lt_or_ge 150 ls.length with hbig | hsm
  · have HQ := Lib.hid (show pr = ⟨[], [], 0, 2⟩ by rw [HP.out, if_pos hbig])
    have hb1 : (150 : Int) < (ls.length : Int) := by omega
    go_enter Tryz.func11, Tryz.ntmps11
    go_wp2_with (first | (go_at_call 29; refine (HS.out _ hI).mono ?_; rintro e w' ⟨gl, rfl, hI'⟩; (try clear hb); clear hI; have hI := hI'; clear hI'; (try simp only [mm, Act.put, Act.eval] at hI); (try clear c0); (try clear c1); (try clear c2); (try clear c3); (try clear c4); (try clear c5); (try clear c6); (try clear c7); (try clear c8); (try have c0 := hI.cell (i := 0) rfl); (try have c1 := hI.cell (i := 1) rfl); (try have c2 := hI.cell (i := 2) rfl); (try have c3 := hI.cell (i := 3) rfl); (try have c4 := hI.cell (i := 4) rfl); (try have c5 := hI.cell (i := 5) rfl); (try have c6 := hI.cell (i := 6) rfl); (try have c7 := hI.cell (i := 7) rfl); (try have c8 := hI.cell (i := 8) rfl); skip) | fail)
    go_returns
    exact RefRet.bad HQ.out hI
  · have HQ := Lib.hid (show pr = progL (ls.map lineK) by rw [HP.out, if_neg (by omega)])
    have hb1 : decide ((150 : Int) < (ls.length : Int)) = false := by simp; omega
    have hb2 : ¬ (150 : Int) < (ls.length : Int) := by omega
    clear HP
    have HE := Lib.hid (fun rs w' (h : Inv w rs w') => hE.inv h)
    go_enter Tryz.func11, Tryz.ntmps11
    go_wp2_with (first | (go_at_call 29; refine (HS.out _ hI).mono ?_; rintro e w' ⟨gl, rfl, hI'⟩; (try clear hb); clear hI; have hI := hI'; clear hI'; (try simp only [mm, Act.put, Act.eval] at hI); (try clear c0); (try clear c1); (try clear c2); (try clear c3); (try clear c4); (try clear c5); (try clear c6); (try clear c7); (try clear c8); (try have c0 := hI.cell (i := 0) rfl); (try have c1 := hI.cell (i := 1) rfl); (try have c2 := hI.cell (i := 2) rfl); (try have c3 := hI.cell (i := 3) rfl); (try have c4 := hI.cell (i := 4) rfl); (try have c5 := hI.cell (i := 5) rfl); (try have c6 := hI.cell (i := 6) rfl); (try have c7 := hI.cell (i := 7) rfl); (try have c8 := hI.cell (i := 8) rfl); skip) | (refine listI rfl fun K hK => wpI_makeLab _ rfl hI fun gm w' hI' hb => hK _ _ ?_; clear hK K; (try clear hb); clear hI; have hI := hI'; clear hI'; (try simp only [mm, Act.put, Act.eval] at hI); (try clear c0); (try clear c1); (try clear c2); (try clear c3); (try clear c4); (try clear c5); (try clear c6); (try clear c7); (try clear c8); (try have c0 := hI.cell (i := 0) rfl); (try have c1 := hI.cell (i := 1) rfl); (try have c2 := hI.cell (i := 2) rfl); (try have c3 := hI.cell (i := 3) rfl); (try have c4 := hI.cell (i := 4) rfl); (try have c5 := hI.cell (i := 5) rfl); (try have c6 := hI.cell (i := 6) rfl); (try have c7 := hI.cell (i := 7) rfl); (try have c8 := hI.cell (i := 8) rfl); skip) | fail)
    obtain ⟨gm, rfl⟩ : ∃ y, y = gm := ⟨_, rfl⟩
    obtain ⟨lc, hlc⟩ : ∃ lc, strCells ls = lc := ⟨_, rfl⟩
    have HC := Lib.hid (fun (k : Nat) x (hx : ls[k]? = some x) => (show lc[k]? = some (.string (str x)) from hlc ▸ strCells_at hx))
    rw [hlc] at hI
    clear hlc
    have hI' := hI.nilrow 47 2
    simp only [List.cons_append, List.nil_append] at hI'
    replace hI := hI'
    clear hI'
    (try clear c0); (try clear c1); (try clear c2); (try clear c3); (try clear c4); (try clear c5); (try clear c6); (try clear c7); (try clear c8); skip
    go_loopw [7, 9, 43] (fun vl vat v wr => ∃ (k at_ : Nat) (labs : List Lab), v = .int .i64 k ∧ vat = .int .i64 at_ ∧ k ≤ ls.length ∧ RefK (ls.map lineK) k at_ labs ∧ Inv w [.box gl 9 lc, .obj gm (labO labs), .row 47 2 vl labs.length (labs.flatMap encLab)] wr) (fun _ _ v _ => (ls.length - intOf v).toNat)
    case atStart => exact ⟨0, 0, [], rfl, rfl, by omega, RefK.zero _, hI⟩
    case round =>
      clear hI
      obtain ⟨k, at_, labs, rfl, rfl, hk, hR, hI⟩ := hrel
      have HRK := Lib.hid hR
      obtain ⟨V, cv, hv⟩ := (hI.own0 (enc := encLab) (xs := labs) (size := 2) (i := 2) rfl).form
      subst hv
      have hnl := hR.nl
      have hat := hR.at_le
      clear hR
      rcases Nat.lt_or_ge k ls.length with hlt | hge
      · obtain ⟨x, hx⟩ : ∃ x, ls[k]? = some x := ⟨_, List.getElem?_eq_getElem hlt⟩
        have hcx := HC.out k x hx
        have HXM := Lib.hid (show (ls.map lineK)[k]? = some (lineK x) by rw [List.getElem?_map, hx]; rfl)
        have hxl := HLEN.out k x hx
        have hzx : (str x).size = x.length := str_size x
        have HJ := Lib.hid (fun w h => r_jumpTo x hxl w h)
        have HW := Lib.hid (fun w => r_word x (by omega) w)
        have HPX := Lib.hid (fun w h => r_InstParse x (by omega) w h)
        have HTS := Lib.hid (fun w => r_TrimB x (by omega) w)
        (try have c0 := hI.cell (i := 0) rfl); (try have c1 := hI.cell (i := 1) rfl); (try have c2 := hI.cell (i := 2) rfl); (try have c3 := hI.cell (i := 3) rfl); (try have c4 := hI.cell (i := 4) rfl); (try have c5 := hI.cell (i := 5) rfl); (try have c6 := hI.cell (i := 6) rfl); (try have c7 := hI.cell (i := 7) rfl); (try have c8 := hI.cell (i := 8) rfl); skip
        by_cases hlg : 80 < x.length
        · have hK := lineK2_large hlg
          rw [hK] at HXM
          have hd : (80 : Int) < (x.length : Int) := by omega
          have HER := Lib.hid (show labErr labs LineK.large = 2 from rfl)
          obtain ⟨fd, hfd⟩ : ∃ fd, findL labs (Lib.trimSuffix x [58]) = fd := ⟨_, rfl⟩
          have HFD := Lib.hid hfd
          clear hfd
          obtain ⟨⟨j1, j2, j3, j4⟩, hj1⟩ : ∃ i, (jumpW (splitL 32 x)).1 = i := ⟨_, rfl⟩
          obtain ⟨⟨⟨p1, p2, p3, p4⟩, pe⟩, hpx⟩ : ∃ i, parseF x = i := ⟨_, rfl⟩
          rw [hj1] at HJ
          rw [hpx] at HPX
          dsimp only at HJ HPX
          generalize str ((splitL 32 x).getLastD []) = jn at *
          generalize wordV x = wv at *
          generalize isHole (splitL 32 x) = jb at *
          generalize wordB x = wb at *
          clear hK hj1 hpx
          go_wp2_with (first | (go_at_call 33; (with_reducible refine (HJ.out _ (HE.out _ _ hI)).mono ?_); intro e w' hr; obtain ⟨rfl, hb⟩ := hr; have hI' := hI.on hb; (try clear hb); clear hI; have hI := hI'; clear hI'; (try simp only [mm, Act.put, Act.eval] at hI); (try clear c0); (try clear c1); (try clear c2); (try clear c3); (try clear c4); (try clear c5); (try clear c6); (try clear c7); (try clear c8); (try have c0 := hI.cell (i := 0) rfl); (try have c1 := hI.cell (i := 1) rfl); (try have c2 := hI.cell (i := 2) rfl); (try have c3 := hI.cell (i := 3) rfl); (try have c4 := hI.cell (i := 4) rfl); (try have c5 := hI.cell (i := 5) rfl); (try have c6 := hI.cell (i := 6) rfl); (try have c7 := hI.cell (i := 7) rfl); (try have c8 := hI.cell (i := 8) rfl); skip) | (go_at_call 34; (with_reducible refine (HW.out _).mono ?_); intro e w' hr; obtain ⟨rfl, hb⟩ := hr; have hI' := hI.on hb; (try clear hb); clear hI; have hI := hI'; clear hI'; (try simp only [mm, Act.put, Act.eval] at hI); (try clear c0); (try clear c1); (try clear c2); (try clear c3); (try clear c4); (try clear c5); (try clear c6); (try clear c7); (try clear c8); (try have c0 := hI.cell (i := 0) rfl); (try have c1 := hI.cell (i := 1) rfl); (try have c2 := hI.cell (i := 2) rfl); (try have c3 := hI.cell (i := 3) rfl); (try have c4 := hI.cell (i := 4) rfl); (try have c5 := hI.cell (i := 5) rfl); (try have c6 := hI.cell (i := 6) rfl); (try have c7 := hI.cell (i := 7) rfl); (try have c8 := hI.cell (i := 8) rfl); skip) | (go_at_call 35; (with_reducible refine (HPX.out _ (HE.out _ _ hI)).mono ?_); intro e w' hr; obtain ⟨rfl, hb⟩ := hr; have hI' := hI.on hb; (try clear hb); clear hI; have hI := hI'; clear hI'; (try simp only [mm, Act.put, Act.eval] at hI); (try clear c0); (try clear c1); (try clear c2); (try clear c3); (try clear c4); (try clear c5); (try clear c6); (try clear c7); (try clear c8); (try have c0 := hI.cell (i := 0) rfl); (try have c1 := hI.cell (i := 1) rfl); (try have c2 := hI.cell (i := 2) rfl); (try have c3 := hI.cell (i := 3) rfl); (try have c4 := hI.cell (i := 4) rfl); (try have c5 := hI.cell (i := 5) rfl); (try have c6 := hI.cell (i := 6) rfl); (try have c7 := hI.cell (i := 7) rfl); (try have c8 := hI.cell (i := 8) rfl); skip) | (go_at_call 36; (with_reducible refine (HTS.out _).mono ?_); rintro e w1 ⟨rfl, rfl⟩) | (refine listI_var rfl rfl 95 rfl _ _ rfl hI Tryz.zeroValue95 (fun _ => rfl) (fun _ => rfl) (by first | rfl | (simp only [hsz1]; first | done | rfl | kernel_rfl) | (simp only [hsz2]; first | done | rfl | kernel_rfl) | (simp only [hsz]; first | done | rfl | kernel_rfl) | kernel_rfl) (by first | exact info_mach (by assumption) | (simp only [hsz1]; kernel_rfl) | (simp only [hsz2]; kernel_rfl) | (simp only [hsz]; kernel_rfl) | kernel_rfl) (by first | (simp [Value.oneCell']; done) | exact HO1.out | exact HO2.out) fun gx w' hI' hb => ?_; (try clear hb); clear hI; have hI := hI'; clear hI'; (try simp only [mm, Act.put, Act.eval] at hI); (try clear c0); (try clear c1); (try clear c2); (try clear c3); (try clear c4); (try clear c5); (try clear c6); (try clear c7); (try clear c8); (try have c0 := hI.cell (i := 0) rfl); (try have c1 := hI.cell (i := 1) rfl); (try have c2 := hI.cell (i := 2) rfl); (try have c3 := hI.cell (i := 3) rfl); (try have c4 := hI.cell (i := 4) rfl); (try have c5 := hI.cell (i := 5) rfl); (try have c6 := hI.cell (i := 6) rfl); (try have c7 := hI.cell (i := 7) rfl); (try have c8 := hI.cell (i := 8) rfl); skip) | (refine listI rfl fun K hK => wpI_labLook2 _ _ _ rfl Tryz.underlying101 Tryz.underlying9 Tryz.zeroValue3 hI rfl 1 rfl rfl HFD.out (hK _ _ ?_); clear hK K) | (go_at_call 37; (with_reducible refine (HNM.out _).mono ?_); intro e w' hr; obtain ⟨rfl, hb⟩ := hr; have hI' := hI.on hb; (try clear hb); clear hI; have hI := hI'; clear hI'; (try simp only [mm, Act.put, Act.eval] at hI); (try clear c0); (try clear c1); (try clear c2); (try clear c3); (try clear c4); (try clear c5); (try clear c6); (try clear c7); (try clear c8); (try have c0 := hI.cell (i := 0) rfl); (try have c1 := hI.cell (i := 1) rfl); (try have c2 := hI.cell (i := 2) rfl); (try have c3 := hI.cell (i := 3) rfl); (try have c4 := hI.cell (i := 4) rfl); (try have c5 := hI.cell (i := 5) rfl); (try have c6 := hI.cell (i := 6) rfl); (try have c7 := hI.cell (i := 7) rfl); (try have c8 := hI.cell (i := 8) rfl); skip) | fail)
          go_returns
          exact RefRet.bad (by rw [HQ.out, HRK.out.bad HXM.out (by rw [HER.out]; decide), HER.out]) hI
        · have hd : decide ((80 : Int) < (x.length : Int)) = false := by simp; omega
          by_cases hl : x.getLast? = some 58
          · have hK := lineK2_label hlg hl
            rw [hK] at HXM
            rw [(suffix_colon2 x).2.1 hl] at HTS
            have hne : x ≠ [] := fun e => by rw [e] at hl; cases hl
            have hxe : (str x).toList.isEmpty = false := str_full (List.length_pos_iff.2 hne)
            obtain ⟨nm, hnm⟩ : ∃ nm, x.dropLast = nm := ⟨_, rfl⟩
            have hnx : nm ≠ x := fun e => by
              have h1 := congrArg List.length (hnm.trans e)
              rw [List.length_dropLast] at h1
              have h2 := List.length_pos_iff.2 hne
              omega
            have hq : ((str nm).toList == (str x).toList) = false := ba_ne fun h => hnx (str_inj.1 h)
            rw [hnm] at HTS HXM
            have HNM := Lib.hid (fun w => r_IsNameL nm w)
            have hnn := labErr_label labs nm
            have HN58 := Lib.hid hnx
            obtain ⟨⟨j1, j2, j3, j4⟩, hj1⟩ : ∃ i, (jumpW (splitL 32 x)).1 = i := ⟨_, rfl⟩
            obtain ⟨⟨⟨p1, p2, p3, p4⟩, pe⟩, hpx⟩ : ∃ i, parseF x = i := ⟨_, rfl⟩
            rw [hj1] at HJ
            rw [hpx] at HPX
            dsimp only at HJ HPX
            generalize str ((splitL 32 x).getLastD []) = jn at *
            generalize wordV x = wv at *
            generalize isHole (splitL 32 x) = jb at *
            generalize wordB x = wb at *
            clear hK hj1 hpx hl hlg hne hnx hnm
            cases hnb : nameB nm
            · have HER := Lib.hid (labErr_name (ls := labs) hnb)
              rw [hnb] at HNM
              obtain ⟨fd, hfd⟩ : ∃ fd, findL labs nm = fd := ⟨_, rfl⟩
              have HFD := Lib.hid hfd
              clear hfd hnn hnb
              go_wp2_with (first | (go_at_call 33; (with_reducible refine (HJ.out _ (HE.out _ _ hI)).mono ?_); intro e w' hr; obtain ⟨rfl, hb⟩ := hr; have hI' := hI.on hb; (try clear hb); clear hI; have hI := hI'; clear hI'; (try simp only [mm, Act.put, Act.eval] at hI); (try clear c0); (try clear c1); (try clear c2); (try clear c3); (try clear c4); (try clear c5); (try clear c6); (try clear c7); (try clear c8); (try have c0 := hI.cell (i := 0) rfl); (try have c1 := hI.cell (i := 1) rfl); (try have c2 := hI.cell (i := 2) rfl); (try have c3 := hI.cell (i := 3) rfl); (try have c4 := hI.cell (i := 4) rfl); (try have c5 := hI.cell (i := 5) rfl); (try have c6 := hI.cell (i := 6) rfl); (try have c7 := hI.cell (i := 7) rfl); (try have c8 := hI.cell (i := 8) rfl); skip) | (go_at_call 34; (with_reducible refine (HW.out _).mono ?_); intro e w' hr; obtain ⟨rfl, hb⟩ := hr; have hI' := hI.on hb; (try clear hb); clear hI; have hI := hI'; clear hI'; (try simp only [mm, Act.put, Act.eval] at hI); (try clear c0); (try clear c1); (try clear c2); (try clear c3); (try clear c4); (try clear c5); (try clear c6); (try clear c7); (try clear c8); (try have c0 := hI.cell (i := 0) rfl); (try have c1 := hI.cell (i := 1) rfl); (try have c2 := hI.cell (i := 2) rfl); (try have c3 := hI.cell (i := 3) rfl); (try have c4 := hI.cell (i := 4) rfl); (try have c5 := hI.cell (i := 5) rfl); (try have c6 := hI.cell (i := 6) rfl); (try have c7 := hI.cell (i := 7) rfl); (try have c8 := hI.cell (i := 8) rfl); skip) | (go_at_call 35; (with_reducible refine (HPX.out _ (HE.out _ _ hI)).mono ?_); intro e w' hr; obtain ⟨rfl, hb⟩ := hr; have hI' := hI.on hb; (try clear hb); clear hI; have hI := hI'; clear hI'; (try simp only [mm, Act.put, Act.eval] at hI); (try clear c0); (try clear c1); (try clear c2); (try clear c3); (try clear c4); (try clear c5); (try clear c6); (try clear c7); (try clear c8); (try have c0 := hI.cell (i := 0) rfl); (try have c1 := hI.cell (i := 1) rfl); (try have c2 := hI.cell (i := 2) rfl); (try have c3 := hI.cell (i := 3) rfl); (try have c4 := hI.cell (i := 4) rfl); (try have c5 := hI.cell (i := 5) rfl); (try have c6 := hI.cell (i := 6) rfl); (try have c7 := hI.cell (i := 7) rfl); (try have c8 := hI.cell (i := 8) rfl); skip) | (go_at_call 36; (with_reducible refine (HTS.out _).mono ?_); rintro e w1 ⟨rfl, rfl⟩) | (refine listI_var rfl rfl 95 rfl _ _ rfl hI Tryz.zeroValue95 (fun _ => rfl) (fun _ => rfl) (by first | rfl | (simp only [hsz1]; first | done | rfl | kernel_rfl) | (simp only [hsz2]; first | done | rfl | kernel_rfl) | (simp only [hsz]; first | done | rfl | kernel_rfl) | kernel_rfl) (by first | exact info_mach (by assumption) | (simp only [hsz1]; kernel_rfl) | (simp only [hsz2]; kernel_rfl) | (simp only [hsz]; kernel_rfl) | kernel_rfl) (by first | (simp [Value.oneCell']; done) | exact HO1.out | exact HO2.out) fun gx w' hI' hb => ?_; (try clear hb); clear hI; have hI := hI'; clear hI'; (try simp only [mm, Act.put, Act.eval] at hI); (try clear c0); (try clear c1); (try clear c2); (try clear c3); (try clear c4); (try clear c5); (try clear c6); (try clear c7); (try clear c8); (try have c0 := hI.cell (i := 0) rfl); (try have c1 := hI.cell (i := 1) rfl); (try have c2 := hI.cell (i := 2) rfl); (try have c3 := hI.cell (i := 3) rfl); (try have c4 := hI.cell (i := 4) rfl); (try have c5 := hI.cell (i := 5) rfl); (try have c6 := hI.cell (i := 6) rfl); (try have c7 := hI.cell (i := 7) rfl); (try have c8 := hI.cell (i := 8) rfl); skip) | (refine listI rfl fun K hK => wpI_labLook2 _ _ _ rfl Tryz.underlying101 Tryz.underlying9 Tryz.zeroValue3 hI rfl 1 rfl rfl HFD.out (hK _ _ ?_); clear hK K) | (go_at_call 37; (with_reducible refine (HNM.out _).mono ?_); intro e w' hr; obtain ⟨rfl, hb⟩ := hr; have hI' := hI.on hb; (try clear hb); clear hI; have hI := hI'; clear hI'; (try simp only [mm, Act.put, Act.eval] at hI); (try clear c0); (try clear c1); (try clear c2); (try clear c3); (try clear c4); (try clear c5); (try clear c6); (try clear c7); (try clear c8); (try have c0 := hI.cell (i := 0) rfl); (try have c1 := hI.cell (i := 1) rfl); (try have c2 := hI.cell (i := 2) rfl); (try have c3 := hI.cell (i := 3) rfl); (try have c4 := hI.cell (i := 4) rfl); (try have c5 := hI.cell (i := 5) rfl); (try have c6 := hI.cell (i := 6) rfl); (try have c7 := hI.cell (i := 7) rfl); (try have c8 := hI.cell (i := 8) rfl); skip) | fail)
              go_returns
              exact RefRet.bad (by rw [HQ.out, HRK.out.bad HXM.out (by rw [HER.out]; decide), HER.out]) hI
            · rw [hnb] at HNM
              cases hfd : findL labs nm with
              | some fp =>
                have HER := Lib.hid (labErr_twice (ls := labs) hnb (by rw [hfd]; rfl))
                have HFD := Lib.hid hfd
                clear hfd hnn hnb
                go_wp2_with (first | (go_at_call 33; (with_reducible refine (HJ.out _ (HE.out _ _ hI)).mono ?_); intro e w' hr; obtain ⟨rfl, hb⟩ := hr; have hI' := hI.on hb; (try clear hb); clear hI; have hI := hI'; clear hI'; (try simp only [mm, Act.put, Act.eval] at hI); (try clear c0); (try clear c1); (try clear c2); (try clear c3); (try clear c4); (try clear c5); (try clear c6); (try clear c7); (try clear c8); (try have c0 := hI.cell (i := 0) rfl); (try have c1 := hI.cell (i := 1) rfl); (try have c2 := hI.cell (i := 2) rfl); (try have c3 := hI.cell (i := 3) rfl); (try have c4 := hI.cell (i := 4) rfl); (try have c5 := hI.cell (i := 5) rfl); (try have c6 := hI.cell (i := 6) rfl); (try have c7 := hI.cell (i := 7) rfl); (try have c8 := hI.cell (i := 8) rfl); skip) | (go_at_call 34; (with_reducible refine (HW.out _).mono ?_); intro e w' hr; obtain ⟨rfl, hb⟩ := hr; have hI' := hI.on hb; (try clear hb); clear hI; have hI := hI'; clear hI'; (try simp only [mm, Act.put, Act.eval] at hI); (try clear c0); (try clear c1); (try clear c2); (try clear c3); (try clear c4); (try clear c5); (try clear c6); (try clear c7); (try clear c8); (try have c0 := hI.cell (i := 0) rfl); (try have c1 := hI.cell (i := 1) rfl); (try have c2 := hI.cell (i := 2) rfl); (try have c3 := hI.cell (i := 3) rfl); (try have c4 := hI.cell (i := 4) rfl); (try have c5 := hI.cell (i := 5) rfl); (try have c6 := hI.cell (i := 6) rfl); (try have c7 := hI.cell (i := 7) rfl); (try have c8 := hI.cell (i := 8) rfl); skip) | (go_at_call 35; (with_reducible refine (HPX.out _ (HE.out _ _ hI)).mono ?_); intro e w' hr; obtain ⟨rfl, hb⟩ := hr; have hI' := hI.on hb; (try clear hb); clear hI; have hI := hI'; clear hI'; (try simp only [mm, Act.put, Act.eval] at hI); (try clear c0); (try clear c1); (try clear c2); (try clear c3); (try clear c4); (try clear c5); (try clear c6); (try clear c7); (try clear c8); (try have c0 := hI.cell (i := 0) rfl); (try have c1 := hI.cell (i := 1) rfl); (try have c2 := hI.cell (i := 2) rfl); (try have c3 := hI.cell (i := 3) rfl); (try have c4 := hI.cell (i := 4) rfl); (try have c5 := hI.cell (i := 5) rfl); (try have c6 := hI.cell (i := 6) rfl); (try have c7 := hI.cell (i := 7) rfl); (try have c8 := hI.cell (i := 8) rfl); skip) | (go_at_call 36; (with_reducible refine (HTS.out _).mono ?_); rintro e w1 ⟨rfl, rfl⟩) | (refine listI_var rfl rfl 95 rfl _ _ rfl hI Tryz.zeroValue95 (fun _ => rfl) (fun _ => rfl) (by first | rfl | (simp only [hsz1]; first | done | rfl | kernel_rfl) | (simp only [hsz2]; first | done | rfl | kernel_rfl) | (simp only [hsz]; first | done | rfl | kernel_rfl) | kernel_rfl) (by first | exact info_mach (by assumption) | (simp only [hsz1]; kernel_rfl) | (simp only [hsz2]; kernel_rfl) | (simp only [hsz]; kernel_rfl) | kernel_rfl) (by first | (simp [Value.oneCell']; done) | exact HO1.out | exact HO2.out) fun gx w' hI' hb => ?_; (try clear hb); clear hI; have hI := hI'; clear hI'; (try simp only [mm, Act.put, Act.eval] at hI); (try clear c0); (try clear c1); (try clear c2); (try clear c3); (try clear c4); (try clear c5); (try clear c6); (try clear c7); (try clear c8); (try have c0 := hI.cell (i := 0) rfl); (try have c1 := hI.cell (i := 1) rfl); (try have c2 := hI.cell (i := 2) rfl); (try have c3 := hI.cell (i := 3) rfl); (try have c4 := hI.cell (i := 4) rfl); (try have c5 := hI.cell (i := 5) rfl); (try have c6 := hI.cell (i := 6) rfl); (try have c7 := hI.cell (i := 7) rfl); (try have c8 := hI.cell (i := 8) rfl); skip) | (refine listI rfl fun K hK => wpI_labLook2 _ _ _ rfl Tryz.underlying101 Tryz.underlying9 Tryz.zeroValue3 hI rfl 1 rfl rfl HFD.out (hK _ _ ?_); clear hK K) | (go_at_call 37; (with_reducible refine (HNM.out _).mono ?_); intro e w' hr; obtain ⟨rfl, hb⟩ := hr; have hI' := hI.on hb; (try clear hb); clear hI; have hI := hI'; clear hI'; (try simp only [mm, Act.put, Act.eval] at hI); (try clear c0); (try clear c1); (try clear c2); (try clear c3); (try clear c4); (try clear c5); (try clear c6); (try clear c7); (try clear c8); (try have c0 := hI.cell (i := 0) rfl); (try have c1 := hI.cell (i := 1) rfl); (try have c2 := hI.cell (i := 2) rfl); (try have c3 := hI.cell (i := 3) rfl); (try have c4 := hI.cell (i := 4) rfl); (try have c5 := hI.cell (i := 5) rfl); (try have c6 := hI.cell (i := 6) rfl); (try have c7 := hI.cell (i := 7) rfl); (try have c8 := hI.cell (i := 8) rfl); skip) | fail)
                go_returns
                exact RefRet.bad (by rw [HQ.out, HRK.out.bad HXM.out (by rw [HER.out]; decide), HER.out]) hI
              | none =>
                have HFD := Lib.hid hfd
                by_cases h20 : labs.length = 20
                · have HER := Lib.hid (labErr_full (ls := labs) hnb (by rw [hfd]; rfl) h20)
                  have hl20 : ((labs.length : Int) == 20) = true := by simp; omega
                  clear hfd hnn hnb h20
                  go_wp2_with (first | (go_at_call 33; (with_reducible refine (HJ.out _ (HE.out _ _ hI)).mono ?_); intro e w' hr; obtain ⟨rfl, hb⟩ := hr; have hI' := hI.on hb; (try clear hb); clear hI; have hI := hI'; clear hI'; (try simp only [mm, Act.put, Act.eval] at hI); (try clear c0); (try clear c1); (try clear c2); (try clear c3); (try clear c4); (try clear c5); (try clear c6); (try clear c7); (try clear c8); (try have c0 := hI.cell (i := 0) rfl); (try have c1 := hI.cell (i := 1) rfl); (try have c2 := hI.cell (i := 2) rfl); (try have c3 := hI.cell (i := 3) rfl); (try have c4 := hI.cell (i := 4) rfl); (try have c5 := hI.cell (i := 5) rfl); (try have c6 := hI.cell (i := 6) rfl); (try have c7 := hI.cell (i := 7) rfl); (try have c8 := hI.cell (i := 8) rfl); skip) | (go_at_call 34; (with_reducible refine (HW.out _).mono ?_); intro e w' hr; obtain ⟨rfl, hb⟩ := hr; have hI' := hI.on hb; (try clear hb); clear hI; have hI := hI'; clear hI'; (try simp only [mm, Act.put, Act.eval] at hI); (try clear c0); (try clear c1); (try clear c2); (try clear c3); (try clear c4); (try clear c5); (try clear c6); (try clear c7); (try clear c8); (try have c0 := hI.cell (i := 0) rfl); (try have c1 := hI.cell (i := 1) rfl); (try have c2 := hI.cell (i := 2) rfl); (try have c3 := hI.cell (i := 3) rfl); (try have c4 := hI.cell (i := 4) rfl); (try have c5 := hI.cell (i := 5) rfl); (try have c6 := hI.cell (i := 6) rfl); (try have c7 := hI.cell (i := 7) rfl); (try have c8 := hI.cell (i := 8) rfl); skip) | (go_at_call 35; (with_reducible refine (HPX.out _ (HE.out _ _ hI)).mono ?_); intro e w' hr; obtain ⟨rfl, hb⟩ := hr; have hI' := hI.on hb; (try clear hb); clear hI; have hI := hI'; clear hI'; (try simp only [mm, Act.put, Act.eval] at hI); (try clear c0); (try clear c1); (try clear c2); (try clear c3); (try clear c4); (try clear c5); (try clear c6); (try clear c7); (try clear c8); (try have c0 := hI.cell (i := 0) rfl); (try have c1 := hI.cell (i := 1) rfl); (try have c2 := hI.cell (i := 2) rfl); (try have c3 := hI.cell (i := 3) rfl); (try have c4 := hI.cell (i := 4) rfl); (try have c5 := hI.cell (i := 5) rfl); (try have c6 := hI.cell (i := 6) rfl); (try have c7 := hI.cell (i := 7) rfl); (try have c8 := hI.cell (i := 8) rfl); skip) | (go_at_call 36; (with_reducible refine (HTS.out _).mono ?_); rintro e w1 ⟨rfl, rfl⟩) | (refine listI_var rfl rfl 95 rfl _ _ rfl hI Tryz.zeroValue95 (fun _ => rfl) (fun _ => rfl) (by first | rfl | (simp only [hsz1]; first | done | rfl | kernel_rfl) | (simp only [hsz2]; first | done | rfl | kernel_rfl) | (simp only [hsz]; first | done | rfl | kernel_rfl) | kernel_rfl) (by first | exact info_mach (by assumption) | (simp only [hsz1]; kernel_rfl) | (simp only [hsz2]; kernel_rfl) | (simp only [hsz]; kernel_rfl) | kernel_rfl) (by first | (simp [Value.oneCell']; done) | exact HO1.out | exact HO2.out) fun gx w' hI' hb => ?_; (try clear hb); clear hI; have hI := hI'; clear hI'; (try simp only [mm, Act.put, Act.eval] at hI); (try clear c0); (try clear c1); (try clear c2); (try clear c3); (try clear c4); (try clear c5); (try clear c6); (try clear c7); (try clear c8); (try have c0 := hI.cell (i := 0) rfl); (try have c1 := hI.cell (i := 1) rfl); (try have c2 := hI.cell (i := 2) rfl); (try have c3 := hI.cell (i := 3) rfl); (try have c4 := hI.cell (i := 4) rfl); (try have c5 := hI.cell (i := 5) rfl); (try have c6 := hI.cell (i := 6) rfl); (try have c7 := hI.cell (i := 7) rfl); (try have c8 := hI.cell (i := 8) rfl); skip) | (refine listI rfl fun K hK => wpI_labLook2 _ _ _ rfl Tryz.underlying101 Tryz.underlying9 Tryz.zeroValue3 hI rfl 1 rfl rfl HFD.out (hK _ _ ?_); clear hK K) | (go_at_call 37; (with_reducible refine (HNM.out _).mono ?_); intro e w' hr; obtain ⟨rfl, hb⟩ := hr; have hI' := hI.on hb; (try clear hb); clear hI; have hI := hI'; clear hI'; (try simp only [mm, Act.put, Act.eval] at hI); (try clear c0); (try clear c1); (try clear c2); (try clear c3); (try clear c4); (try clear c5); (try clear c6); (try clear c7); (try clear c8); (try have c0 := hI.cell (i := 0) rfl); (try have c1 := hI.cell (i := 1) rfl); (try have c2 := hI.cell (i := 2) rfl); (try have c3 := hI.cell (i := 3) rfl); (try have c4 := hI.cell (i := 4) rfl); (try have c5 := hI.cell (i := 5) rfl); (try have c6 := hI.cell (i := 6) rfl); (try have c7 := hI.cell (i := 7) rfl); (try have c8 := hI.cell (i := 8) rfl); skip) | fail)
                  go_returns
                  exact RefRet.bad (by rw [HQ.out, HRK.out.bad HXM.out (by rw [HER.out]; decide), HER.out]) hI
                · have HER := labErr_ok (ls := labs) hnb (by rw [hfd]; rfl) h20
                  have hl20 : ((labs.length : Int) == 20) = false := by simp; omega
                  have HNX := Lib.hid (HRK.out.label HXM.out HER)
                  clear hfd hnn hnb h20 HER
                  go_wp2_with (first | (go_at_call 33; (with_reducible refine (HJ.out _ (HE.out _ _ hI)).mono ?_); intro e w' hr; obtain ⟨rfl, hb⟩ := hr; have hI' := hI.on hb; (try clear hb); clear hI; have hI := hI'; clear hI'; (try simp only [mm, Act.put, Act.eval] at hI); (try clear c0); (try clear c1); (try clear c2); (try clear c3); (try clear c4); (try clear c5); (try clear c6); (try clear c7); (try clear c8); (try have c0 := hI.cell (i := 0) rfl); (try have c1 := hI.cell (i := 1) rfl); (try have c2 := hI.cell (i := 2) rfl); (try have c3 := hI.cell (i := 3) rfl); (try have c4 := hI.cell (i := 4) rfl); (try have c5 := hI.cell (i := 5) rfl); (try have c6 := hI.cell (i := 6) rfl); (try have c7 := hI.cell (i := 7) rfl); (try have c8 := hI.cell (i := 8) rfl); skip) | (go_at_call 34; (with_reducible refine (HW.out _).mono ?_); intro e w' hr; obtain ⟨rfl, hb⟩ := hr; have hI' := hI.on hb; (try clear hb); clear hI; have hI := hI'; clear hI'; (try simp only [mm, Act.put, Act.eval] at hI); (try clear c0); (try clear c1); (try clear c2); (try clear c3); (try clear c4); (try clear c5); (try clear c6); (try clear c7); (try clear c8); (try have c0 := hI.cell (i := 0) rfl); (try have c1 := hI.cell (i := 1) rfl); (try have c2 := hI.cell (i := 2) rfl); (try have c3 := hI.cell (i := 3) rfl); (try have c4 := hI.cell (i := 4) rfl); (try have c5 := hI.cell (i := 5) rfl); (try have c6 := hI.cell (i := 6) rfl); (try have c7 := hI.cell (i := 7) rfl); (try have c8 := hI.cell (i := 8) rfl); skip) | (go_at_call 35; (with_reducible refine (HPX.out _ (HE.out _ _ hI)).mono ?_); intro e w' hr; obtain ⟨rfl, hb⟩ := hr; have hI' := hI.on hb; (try clear hb); clear hI; have hI := hI'; clear hI'; (try simp only [mm, Act.put, Act.eval] at hI); (try clear c0); (try clear c1); (try clear c2); (try clear c3); (try clear c4); (try clear c5); (try clear c6); (try clear c7); (try clear c8); (try have c0 := hI.cell (i := 0) rfl); (try have c1 := hI.cell (i := 1) rfl); (try have c2 := hI.cell (i := 2) rfl); (try have c3 := hI.cell (i := 3) rfl); (try have c4 := hI.cell (i := 4) rfl); (try have c5 := hI.cell (i := 5) rfl); (try have c6 := hI.cell (i := 6) rfl); (try have c7 := hI.cell (i := 7) rfl); (try have c8 := hI.cell (i := 8) rfl); skip) | (go_at_call 36; (with_reducible refine (HTS.out _).mono ?_); rintro e w1 ⟨rfl, rfl⟩) | (refine listI_var rfl rfl 95 rfl _ _ rfl hI Tryz.zeroValue95 (fun _ => rfl) (fun _ => rfl) (by first | rfl | (simp only [hsz1]; first | done | rfl | kernel_rfl) | (simp only [hsz2]; first | done | rfl | kernel_rfl) | (simp only [hsz]; first | done | rfl | kernel_rfl) | kernel_rfl) (by first | exact info_mach (by assumption) | (simp only [hsz1]; kernel_rfl) | (simp only [hsz2]; kernel_rfl) | (simp only [hsz]; kernel_rfl) | kernel_rfl) (by first | (simp [Value.oneCell']; done) | exact HO1.out | exact HO2.out) fun gx w' hI' hb => ?_; (try clear hb); clear hI; have hI := hI'; clear hI'; (try simp only [mm, Act.put, Act.eval] at hI); (try clear c0); (try clear c1); (try clear c2); (try clear c3); (try clear c4); (try clear c5); (try clear c6); (try clear c7); (try clear c8); (try have c0 := hI.cell (i := 0) rfl); (try have c1 := hI.cell (i := 1) rfl); (try have c2 := hI.cell (i := 2) rfl); (try have c3 := hI.cell (i := 3) rfl); (try have c4 := hI.cell (i := 4) rfl); (try have c5 := hI.cell (i := 5) rfl); (try have c6 := hI.cell (i := 6) rfl); (try have c7 := hI.cell (i := 7) rfl); (try have c8 := hI.cell (i := 8) rfl); skip) | (refine listI rfl fun K hK => wpI_labLook2 _ _ _ rfl Tryz.underlying101 Tryz.underlying9 Tryz.zeroValue3 hI rfl 1 rfl rfl HFD.out (hK _ _ ?_); clear hK K) | (go_at_call 37; (with_reducible refine (HNM.out _).mono ?_); intro e w' hr; obtain ⟨rfl, hb⟩ := hr; have hI' := hI.on hb; (try clear hb); clear hI; have hI := hI'; clear hI'; (try simp only [mm, Act.put, Act.eval] at hI); (try clear c0); (try clear c1); (try clear c2); (try clear c3); (try clear c4); (try clear c5); (try clear c6); (try clear c7); (try clear c8); (try have c0 := hI.cell (i := 0) rfl); (try have c1 := hI.cell (i := 1) rfl); (try have c2 := hI.cell (i := 2) rfl); (try have c3 := hI.cell (i := 3) rfl); (try have c4 := hI.cell (i := 4) rfl); (try have c5 := hI.cell (i := 5) rfl); (try have c6 := hI.cell (i := 6) rfl); (try have c7 := hI.cell (i := 7) rfl); (try have c8 := hI.cell (i := 8) rfl); skip) | (refine listI rfl fun K hK => wpI_labIns _ _ _ _ rfl Tryz.underlying101 Tryz.underlying9 hI rfl 1 rfl rfl rfl HFD.out fun w' hI' => hK _ _ ?_; clear hK K; (try clear hb); clear hI; have hI := hI'; clear hI'; (try simp only [mm, Act.put, Act.eval] at hI); (try clear c0); (try clear c1); (try clear c2); (try clear c3); (try clear c4); (try clear c5); (try clear c6); (try clear c7); (try clear c8); (try have c0 := hI.cell (i := 0) rfl); (try have c1 := hI.cell (i := 1) rfl); (try have c2 := hI.cell (i := 2) rfl); (try have c3 := hI.cell (i := 3) rfl); (try have c4 := hI.cell (i := 4) rfl); (try have c5 := hI.cell (i := 5) rfl); (try have c6 := hI.cell (i := 6) rfl); (try have c7 := hI.cell (i := 7) rfl); (try have c8 := hI.cell (i := 8) rfl); skip) | (refine listI rfl fun K hK => wpI_slice1 _ 47 _ rfl hI Tryz.underlying41 rfl (size := 2) (by kernel_rfl) rfl fun gy w' hI' hb => hK _ _ ?_; clear hK K; (try clear hb); clear hI; have hI := hI'; clear hI'; (try simp only [mm, Act.put, Act.eval] at hI); (try clear c0); (try clear c1); (try clear c2); (try clear c3); (try clear c4); (try clear c5); (try clear c6); (try clear c7); (try clear c8); (try have c0 := hI.cell (i := 0) rfl); (try have c1 := hI.cell (i := 1) rfl); (try have c2 := hI.cell (i := 2) rfl); (try have c3 := hI.cell (i := 3) rfl); (try have c4 := hI.cell (i := 4) rfl); (try have c5 := hI.cell (i := 5) rfl); (try have c6 := hI.cell (i := 6) rfl); (try have c7 := hI.cell (i := 7) rfl); (try have c8 := hI.cell (i := 8) rfl); skip) | (refine listI rfl fun K hK => wpI_app _ _ rfl el_Lab hI 2 rfl rfl (ys := [⟨nm, at_⟩]) rfl (hI.lies1 (i := 5) rfl _ (fun j hj => by rw [List.getElem?_toArray]; rfl)) rfl (by unfold maxLen; simp only [List.length_cons, List.length_nil]; omega) (by simp only [List.length_cons, List.length_nil]; omega) fun vn w' hI' => hK _ _ ?_; clear hK K; (try clear hb); clear hI; have hI := hI'; clear hI'; (try simp only [mm, Act.put, Act.eval] at hI); (try clear c0); (try clear c1); (try clear c2); (try clear c3); (try clear c4); (try clear c5); (try clear c6); (try clear c7); (try clear c8); (try have c0 := hI.cell (i := 0) rfl); (try have c1 := hI.cell (i := 1) rfl); (try have c2 := hI.cell (i := 2) rfl); (try have c3 := hI.cell (i := 3) rfl); (try have c4 := hI.cell (i := 4) rfl); (try have c5 := hI.cell (i := 5) rfl); (try have c6 := hI.cell (i := 6) rfl); (try have c7 := hI.cell (i := 7) rfl); (try have c8 := hI.cell (i := 8) rfl); skip) | fail)
                  go_roundw
                  case rel => exact ⟨k + 1, at_, labs ++ [⟨nm, at_⟩], by go_num, rfl, by omega, HNX.out, hI.first [_, _, _] [_, _, _] rfl⟩
                  case measure => simp [intOf]; omega
          · rw [(suffix_colon2 x).2.2 hl] at HTS
            have hq : ((str x).toList == (str x).toList) = true := beq_self_eq_true _
            obtain ⟨fd, hfd⟩ : ∃ fd, findL labs x = fd := ⟨_, rfl⟩
            have HFD := Lib.hid hfd
            clear hfd
            by_cases he : x = []
            · subst he
              have hse : (str []).toList.isEmpty = true := by rw [Lib.toList_data, str_list]; rfl
              have HNX := Lib.hid (HRK.out.same HXM.out)
              clear hl hlg
              obtain ⟨⟨j1, j2, j3, j4⟩, hj1⟩ : ∃ i, (jumpW (splitL 32 [])).1 = i := ⟨_, rfl⟩
              obtain ⟨⟨⟨p1, p2, p3, p4⟩, pe⟩, hpx⟩ : ∃ i, parseF [] = i := ⟨_, rfl⟩
              rw [hj1] at HJ
              rw [hpx] at HPX
              dsimp only at HJ HPX
              generalize str ((splitL 32 []).getLastD []) = jn at *
              generalize wordV [] = wv at *
              generalize isHole (splitL 32 []) = jb at *
              generalize wordB [] = wb at *
              clear hj1 hpx
              go_wp2_with (first | (go_at_call 33; (with_reducible refine (HJ.out _ (HE.out _ _ hI)).mono ?_); intro e w' hr; obtain ⟨rfl, hb⟩ := hr; have hI' := hI.on hb; (try clear hb); clear hI; have hI := hI'; clear hI'; (try simp only [mm, Act.put, Act.eval] at hI); (try clear c0); (try clear c1); (try clear c2); (try clear c3); (try clear c4); (try clear c5); (try clear c6); (try clear c7); (try clear c8); (try have c0 := hI.cell (i := 0) rfl); (try have c1 := hI.cell (i := 1) rfl); (try have c2 := hI.cell (i := 2) rfl); (try have c3 := hI.cell (i := 3) rfl); (try have c4 := hI.cell (i := 4) rfl); (try have c5 := hI.cell (i := 5) rfl); (try have c6 := hI.cell (i := 6) rfl); (try have c7 := hI.cell (i := 7) rfl); (try have c8 := hI.cell (i := 8) rfl); skip) | (go_at_call 34; (with_reducible refine (HW.out _).mono ?_); intro e w' hr; obtain ⟨rfl, hb⟩ := hr; have hI' := hI.on hb; (try clear hb); clear hI; have hI := hI'; clear hI'; (try simp only [mm, Act.put, Act.eval] at hI); (try clear c0); (try clear c1); (try clear c2); (try clear c3); (try clear c4); (try clear c5); (try clear c6); (try clear c7); (try clear c8); (try have c0 := hI.cell (i := 0) rfl); (try have c1 := hI.cell (i := 1) rfl); (try have c2 := hI.cell (i := 2) rfl); (try have c3 := hI.cell (i := 3) rfl); (try have c4 := hI.cell (i := 4) rfl); (try have c5 := hI.cell (i := 5) rfl); (try have c6 := hI.cell (i := 6) rfl); (try have c7 := hI.cell (i := 7) rfl); (try have c8 := hI.cell (i := 8) rfl); skip) | (go_at_call 35; (with_reducible refine (HPX.out _ (HE.out _ _ hI)).mono ?_); intro e w' hr; obtain ⟨rfl, hb⟩ := hr; have hI' := hI.on hb; (try clear hb); clear hI; have hI := hI'; clear hI'; (try simp only [mm, Act.put, Act.eval] at hI); (try clear c0); (try clear c1); (try clear c2); (try clear c3); (try clear c4); (try clear c5); (try clear c6); (try clear c7); (try clear c8); (try have c0 := hI.cell (i := 0) rfl); (try have c1 := hI.cell (i := 1) rfl); (try have c2 := hI.cell (i := 2) rfl); (try have c3 := hI.cell (i := 3) rfl); (try have c4 := hI.cell (i := 4) rfl); (try have c5 := hI.cell (i := 5) rfl); (try have c6 := hI.cell (i := 6) rfl); (try have c7 := hI.cell (i := 7) rfl); (try have c8 := hI.cell (i := 8) rfl); skip) | (go_at_call 36; (with_reducible refine (HTS.out _).mono ?_); rintro e w1 ⟨rfl, rfl⟩) | (refine listI_var rfl rfl 95 rfl _ _ rfl hI Tryz.zeroValue95 (fun _ => rfl) (fun _ => rfl) (by first | rfl | (simp only [hsz1]; first | done | rfl | kernel_rfl) | (simp only [hsz2]; first | done | rfl | kernel_rfl) | (simp only [hsz]; first | done | rfl | kernel_rfl) | kernel_rfl) (by first | exact info_mach (by assumption) | (simp only [hsz1]; kernel_rfl) | (simp only [hsz2]; kernel_rfl) | (simp only [hsz]; kernel_rfl) | kernel_rfl) (by first | (simp [Value.oneCell']; done) | exact HO1.out | exact HO2.out) fun gx w' hI' hb => ?_; (try clear hb); clear hI; have hI := hI'; clear hI'; (try simp only [mm, Act.put, Act.eval] at hI); (try clear c0); (try clear c1); (try clear c2); (try clear c3); (try clear c4); (try clear c5); (try clear c6); (try clear c7); (try clear c8); (try have c0 := hI.cell (i := 0) rfl); (try have c1 := hI.cell (i := 1) rfl); (try have c2 := hI.cell (i := 2) rfl); (try have c3 := hI.cell (i := 3) rfl); (try have c4 := hI.cell (i := 4) rfl); (try have c5 := hI.cell (i := 5) rfl); (try have c6 := hI.cell (i := 6) rfl); (try have c7 := hI.cell (i := 7) rfl); (try have c8 := hI.cell (i := 8) rfl); skip) | (refine listI rfl fun K hK => wpI_labLook2 _ _ _ rfl Tryz.underlying101 Tryz.underlying9 Tryz.zeroValue3 hI rfl 1 rfl rfl HFD.out (hK _ _ ?_); clear hK K) | (go_at_call 37; (with_reducible refine (HNM.out _).mono ?_); intro e w' hr; obtain ⟨rfl, hb⟩ := hr; have hI' := hI.on hb; (try clear hb); clear hI; have hI := hI'; clear hI'; (try simp only [mm, Act.put, Act.eval] at hI); (try clear c0); (try clear c1); (try clear c2); (try clear c3); (try clear c4); (try clear c5); (try clear c6); (try clear c7); (try clear c8); (try have c0 := hI.cell (i := 0) rfl); (try have c1 := hI.cell (i := 1) rfl); (try have c2 := hI.cell (i := 2) rfl); (try have c3 := hI.cell (i := 3) rfl); (try have c4 := hI.cell (i := 4) rfl); (try have c5 := hI.cell (i := 5) rfl); (try have c6 := hI.cell (i := 6) rfl); (try have c7 := hI.cell (i := 7) rfl); (try have c8 := hI.cell (i := 8) rfl); skip) | fail)
              go_roundw
              case rel => exact ⟨k + 1, at_, labs, by go_num, rfl, by omega, HNX.out, hI.first [_, _, _] [_, _] rfl⟩
              case measure => simp [intOf]; omega
            · have hK := lineK2_cell hlg hl he
              rw [hK] at HXM
              have hse : (str x).toList.isEmpty = false := str_full (List.length_pos_iff.2 he)
              cases hc : (!isHole (splitL 32 x) && !wordB x && decide ((parseF x).2 ≠ 0))
              · have HNX := Lib.hid (HRK.out.cell HXM.out (by rcases cellK2_ok hc with ⟨_, _, h⟩ | ⟨_, _, h⟩ | ⟨_, _, _, h⟩ <;> rw [h] <;> first | exact .inl ⟨_, rfl⟩ | exact .inr ⟨_, _, rfl⟩))
                clear hK hl hlg he
                obtain ⟨⟨j1, j2, j3, j4⟩, hj1⟩ : ∃ i, (jumpW (splitL 32 x)).1 = i := ⟨_, rfl⟩
                obtain ⟨⟨⟨p1, p2, p3, p4⟩, pe⟩, hpx⟩ : ∃ i, parseF x = i := ⟨_, rfl⟩
                rw [hj1] at HJ
                rw [hpx] at HPX
                dsimp only at HJ HPX
                generalize str ((splitL 32 x).getLastD []) = jn at *
                generalize wordV x = wv at *
                rw [hpx] at hc
                dsimp only at hc
                have hpe : (pe == 0) = decide (pe = 0) := rfl
                generalize isHole (splitL 32 x) = jb at *
                generalize wordB x = wb at *
                clear hj1 hpx
                cases jb
                · cases wb
                  · obtain rfl : pe = 0 := by simpa using hc
                    go_wp2_with (first | (go_at_call 33; (with_reducible refine (HJ.out _ (HE.out _ _ hI)).mono ?_); intro e w' hr; obtain ⟨rfl, hb⟩ := hr; have hI' := hI.on hb; (try clear hb); clear hI; have hI := hI'; clear hI'; (try simp only [mm, Act.put, Act.eval] at hI); (try clear c0); (try clear c1); (try clear c2); (try clear c3); (try clear c4); (try clear c5); (try clear c6); (try clear c7); (try clear c8); (try have c0 := hI.cell (i := 0) rfl); (try have c1 := hI.cell (i := 1) rfl); (try have c2 := hI.cell (i := 2) rfl); (try have c3 := hI.cell (i := 3) rfl); (try have c4 := hI.cell (i := 4) rfl); (try have c5 := hI.cell (i := 5) rfl); (try have c6 := hI.cell (i := 6) rfl); (try have c7 := hI.cell (i := 7) rfl); (try have c8 := hI.cell (i := 8) rfl); skip) | (go_at_call 34; (with_reducible refine (HW.out _).mono ?_); intro e w' hr; obtain ⟨rfl, hb⟩ := hr; have hI' := hI.on hb; (try clear hb); clear hI; have hI := hI'; clear hI'; (try simp only [mm, Act.put, Act.eval] at hI); (try clear c0); (try clear c1); (try clear c2); (try clear c3); (try clear c4); (try clear c5); (try clear c6); (try clear c7); (try clear c8); (try have c0 := hI.cell (i := 0) rfl); (try have c1 := hI.cell (i := 1) rfl); (try have c2 := hI.cell (i := 2) rfl); (try have c3 := hI.cell (i := 3) rfl); (try have c4 := hI.cell (i := 4) rfl); (try have c5 := hI.cell (i := 5) rfl); (try have c6 := hI.cell (i := 6) rfl); (try have c7 := hI.cell (i := 7) rfl); (try have c8 := hI.cell (i := 8) rfl); skip) | (go_at_call 35; (with_reducible refine (HPX.out _ (HE.out _ _ hI)).mono ?_); intro e w' hr; obtain ⟨rfl, hb⟩ := hr; have hI' := hI.on hb; (try clear hb); clear hI; have hI := hI'; clear hI'; (try simp only [mm, Act.put, Act.eval] at hI); (try clear c0); (try clear c1); (try clear c2); (try clear c3); (try clear c4); (try clear c5); (try clear c6); (try clear c7); (try clear c8); (try have c0 := hI.cell (i := 0) rfl); (try have c1 := hI.cell (i := 1) rfl); (try have c2 := hI.cell (i := 2) rfl); (try have c3 := hI.cell (i := 3) rfl); (try have c4 := hI.cell (i := 4) rfl); (try have c5 := hI.cell (i := 5) rfl); (try have c6 := hI.cell (i := 6) rfl); (try have c7 := hI.cell (i := 7) rfl); (try have c8 := hI.cell (i := 8) rfl); skip) | (go_at_call 36; (with_reducible refine (HTS.out _).mono ?_); rintro e w1 ⟨rfl, rfl⟩) | (refine listI_var rfl rfl 95 rfl _ _ rfl hI Tryz.zeroValue95 (fun _ => rfl) (fun _ => rfl) (by first | rfl | (simp only [hsz1]; first | done | rfl | kernel_rfl) | (simp only [hsz2]; first | done | rfl | kernel_rfl) | (simp only [hsz]; first | done | rfl | kernel_rfl) | kernel_rfl) (by first | exact info_mach (by assumption) | (simp only [hsz1]; kernel_rfl) | (simp only [hsz2]; kernel_rfl) | (simp only [hsz]; kernel_rfl) | kernel_rfl) (by first | (simp [Value.oneCell']; done) | exact HO1.out | exact HO2.out) fun gx w' hI' hb => ?_; (try clear hb); clear hI; have hI := hI'; clear hI'; (try simp only [mm, Act.put, Act.eval] at hI); (try clear c0); (try clear c1); (try clear c2); (try clear c3); (try clear c4); (try clear c5); (try clear c6); (try clear c7); (try clear c8); (try have c0 := hI.cell (i := 0) rfl); (try have c1 := hI.cell (i := 1) rfl); (try have c2 := hI.cell (i := 2) rfl); (try have c3 := hI.cell (i := 3) rfl); (try have c4 := hI.cell (i := 4) rfl); (try have c5 := hI.cell (i := 5) rfl); (try have c6 := hI.cell (i := 6) rfl); (try have c7 := hI.cell (i := 7) rfl); (try have c8 := hI.cell (i := 8) rfl); skip) | (refine listI rfl fun K hK => wpI_labLook2 _ _ _ rfl Tryz.underlying101 Tryz.underlying9 Tryz.zeroValue3 hI rfl 1 rfl rfl HFD.out (hK _ _ ?_); clear hK K) | (go_at_call 37; (with_reducible refine (HNM.out _).mono ?_); intro e w' hr; obtain ⟨rfl, hb⟩ := hr; have hI' := hI.on hb; (try clear hb); clear hI; have hI := hI'; clear hI'; (try simp only [mm, Act.put, Act.eval] at hI); (try clear c0); (try clear c1); (try clear c2); (try clear c3); (try clear c4); (try clear c5); (try clear c6); (try clear c7); (try clear c8); (try have c0 := hI.cell (i := 0) rfl); (try have c1 := hI.cell (i := 1) rfl); (try have c2 := hI.cell (i := 2) rfl); (try have c3 := hI.cell (i := 3) rfl); (try have c4 := hI.cell (i := 4) rfl); (try have c5 := hI.cell (i := 5) rfl); (try have c6 := hI.cell (i := 6) rfl); (try have c7 := hI.cell (i := 7) rfl); (try have c8 := hI.cell (i := 8) rfl); skip) | fail)
                    go_roundw
                    case rel => exact ⟨k + 1, at_ + 1, labs, by go_num, by go_num, by omega, HNX.out, hI.first [_, _, _] [_, _] rfl⟩
                    case measure => simp [intOf]; omega
                  · go_wp2_with (first | (go_at_call 33; (with_reducible refine (HJ.out _ (HE.out _ _ hI)).mono ?_); intro e w' hr; obtain ⟨rfl, hb⟩ := hr; have hI' := hI.on hb; (try clear hb); clear hI; have hI := hI'; clear hI'; (try simp only [mm, Act.put, Act.eval] at hI); (try clear c0); (try clear c1); (try clear c2); (try clear c3); (try clear c4); (try clear c5); (try clear c6); (try clear c7); (try clear c8); (try have c0 := hI.cell (i := 0) rfl); (try have c1 := hI.cell (i := 1) rfl); (try have c2 := hI.cell (i := 2) rfl); (try have c3 := hI.cell (i := 3) rfl); (try have c4 := hI.cell (i := 4) rfl); (try have c5 := hI.cell (i := 5) rfl); (try have c6 := hI.cell (i := 6) rfl); (try have c7 := hI.cell (i := 7) rfl); (try have c8 := hI.cell (i := 8) rfl); skip) | (go_at_call 34; (with_reducible refine (HW.out _).mono ?_); intro e w' hr; obtain ⟨rfl, hb⟩ := hr; have hI' := hI.on hb; (try clear hb); clear hI; have hI := hI'; clear hI'; (try simp only [mm, Act.put, Act.eval] at hI); (try clear c0); (try clear c1); (try clear c2); (try clear c3); (try clear c4); (try clear c5); (try clear c6); (try clear c7); (try clear c8); (try have c0 := hI.cell (i := 0) rfl); (try have c1 := hI.cell (i := 1) rfl); (try have c2 := hI.cell (i := 2) rfl); (try have c3 := hI.cell (i := 3) rfl); (try have c4 := hI.cell (i := 4) rfl); (try have c5 := hI.cell (i := 5) rfl); (try have c6 := hI.cell (i := 6) rfl); (try have c7 := hI.cell (i := 7) rfl); (try have c8 := hI.cell (i := 8) rfl); skip) | (go_at_call 35; (with_reducible refine (HPX.out _ (HE.out _ _ hI)).mono ?_); intro e w' hr; obtain ⟨rfl, hb⟩ := hr; have hI' := hI.on hb; (try clear hb); clear hI; have hI := hI'; clear hI'; (try simp only [mm, Act.put, Act.eval] at hI); (try clear c0); (try clear c1); (try clear c2); (try clear c3); (try clear c4); (try clear c5); (try clear c6); (try clear c7); (try clear c8); (try have c0 := hI.cell (i := 0) rfl); (try have c1 := hI.cell (i := 1) rfl); (try have c2 := hI.cell (i := 2) rfl); (try have c3 := hI.cell (i := 3) rfl); (try have c4 := hI.cell (i := 4) rfl); (try have c5 := hI.cell (i := 5) rfl); (try have c6 := hI.cell (i := 6) rfl); (try have c7 := hI.cell (i := 7) rfl); (try have c8 := hI.cell (i := 8) rfl); skip) | (go_at_call 36; (with_reducible refine (HTS.out _).mono ?_); rintro e w1 ⟨rfl, rfl⟩) | (refine listI_var rfl rfl 95 rfl _ _ rfl hI Tryz.zeroValue95 (fun _ => rfl) (fun _ => rfl) (by first | rfl | (simp only [hsz1]; first | done | rfl | kernel_rfl) | (simp only [hsz2]; first | done | rfl | kernel_rfl) | (simp only [hsz]; first | done | rfl | kernel_rfl) | kernel_rfl) (by first | exact info_mach (by assumption) | (simp only [hsz1]; kernel_rfl) | (simp only [hsz2]; kernel_rfl) | (simp only [hsz]; kernel_rfl) | kernel_rfl) (by first | (simp [Value.oneCell']; done) | exact HO1.out | exact HO2.out) fun gx w' hI' hb => ?_; (try clear hb); clear hI; have hI := hI'; clear hI'; (try simp only [mm, Act.put, Act.eval] at hI); (try clear c0); (try clear c1); (try clear c2); (try clear c3); (try clear c4); (try clear c5); (try clear c6); (try clear c7); (try clear c8); (try have c0 := hI.cell (i := 0) rfl); (try have c1 := hI.cell (i := 1) rfl); (try have c2 := hI.cell (i := 2) rfl); (try have c3 := hI.cell (i := 3) rfl); (try have c4 := hI.cell (i := 4) rfl); (try have c5 := hI.cell (i := 5) rfl); (try have c6 := hI.cell (i := 6) rfl); (try have c7 := hI.cell (i := 7) rfl); (try have c8 := hI.cell (i := 8) rfl); skip) | (refine listI rfl fun K hK => wpI_labLook2 _ _ _ rfl Tryz.underlying101 Tryz.underlying9 Tryz.zeroValue3 hI rfl 1 rfl rfl HFD.out (hK _ _ ?_); clear hK K) | (go_at_call 37; (with_reducible refine (HNM.out _).mono ?_); intro e w' hr; obtain ⟨rfl, hb⟩ := hr; have hI' := hI.on hb; (try clear hb); clear hI; have hI := hI'; clear hI'; (try simp only [mm, Act.put, Act.eval] at hI); (try clear c0); (try clear c1); (try clear c2); (try clear c3); (try clear c4); (try clear c5); (try clear c6); (try clear c7); (try clear c8); (try have c0 := hI.cell (i := 0) rfl); (try have c1 := hI.cell (i := 1) rfl); (try have c2 := hI.cell (i := 2) rfl); (try have c3 := hI.cell (i := 3) rfl); (try have c4 := hI.cell (i := 4) rfl); (try have c5 := hI.cell (i := 5) rfl); (try have c6 := hI.cell (i := 6) rfl); (try have c7 := hI.cell (i := 7) rfl); (try have c8 := hI.cell (i := 8) rfl); skip) | fail)
                    go_roundw
                    case rel => exact ⟨k + 1, at_ + 1, labs, by go_num, by go_num, by omega, HNX.out, hI.first [_, _, _] [_, _] rfl⟩
                    case measure => simp [intOf]; omega
                · go_wp2_with (first | (go_at_call 33; (with_reducible refine (HJ.out _ (HE.out _ _ hI)).mono ?_); intro e w' hr; obtain ⟨rfl, hb⟩ := hr; have hI' := hI.on hb; (try clear hb); clear hI; have hI := hI'; clear hI'; (try simp only [mm, Act.put, Act.eval] at hI); (try clear c0); (try clear c1); (try clear c2); (try clear c3); (try clear c4); (try clear c5); (try clear c6); (try clear c7); (try clear c8); (try have c0 := hI.cell (i := 0) rfl); (try have c1 := hI.cell (i := 1) rfl); (try have c2 := hI.cell (i := 2) rfl); (try have c3 := hI.cell (i := 3) rfl); (try have c4 := hI.cell (i := 4) rfl); (try have c5 := hI.cell (i := 5) rfl); (try have c6 := hI.cell (i := 6) rfl); (try have c7 := hI.cell (i := 7) rfl); (try have c8 := hI.cell (i := 8) rfl); skip) | (go_at_call 34; (with_reducible refine (HW.out _).mono ?_); intro e w' hr; obtain ⟨rfl, hb⟩ := hr; have hI' := hI.on hb; (try clear hb); clear hI; have hI := hI'; clear hI'; (try simp only [mm, Act.put, Act.eval] at hI); (try clear c0); (try clear c1); (try clear c2); (try clear c3); (try clear c4); (try clear c5); (try clear c6); (try clear c7); (try clear c8); (try have c0 := hI.cell (i := 0) rfl); (try have c1 := hI.cell (i := 1) rfl); (try have c2 := hI.cell (i := 2) rfl); (try have c3 := hI.cell (i := 3) rfl); (try have c4 := hI.cell (i := 4) rfl); (try have c5 := hI.cell (i := 5) rfl); (try have c6 := hI.cell (i := 6) rfl); (try have c7 := hI.cell (i := 7) rfl); (try have c8 := hI.cell (i := 8) rfl); skip) | (go_at_call 35; (with_reducible refine (HPX.out _ (HE.out _ _ hI)).mono ?_); intro e w' hr; obtain ⟨rfl, hb⟩ := hr; have hI' := hI.on hb; (try clear hb); clear hI; have hI := hI'; clear hI'; (try simp only [mm, Act.put, Act.eval] at hI); (try clear c0); (try clear c1); (try clear c2); (try clear c3); (try clear c4); (try clear c5); (try clear c6); (try clear c7); (try clear c8); (try have c0 := hI.cell (i := 0) rfl); (try have c1 := hI.cell (i := 1) rfl); (try have c2 := hI.cell (i := 2) rfl); (try have c3 := hI.cell (i := 3) rfl); (try have c4 := hI.cell (i := 4) rfl); (try have c5 := hI.cell (i := 5) rfl); (try have c6 := hI.cell (i := 6) rfl); (try have c7 := hI.cell (i := 7) rfl); (try have c8 := hI.cell (i := 8) rfl); skip) | (go_at_call 36; (with_reducible refine (HTS.out _).mono ?_); rintro e w1 ⟨rfl, rfl⟩) | (refine listI_var rfl rfl 95 rfl _ _ rfl hI Tryz.zeroValue95 (fun _ => rfl) (fun _ => rfl) (by first | rfl | (simp only [hsz1]; first | done | rfl | kernel_rfl) | (simp only [hsz2]; first | done | rfl | kernel_rfl) | (simp only [hsz]; first | done | rfl | kernel_rfl) | kernel_rfl) (by first | exact info_mach (by assumption) | (simp only [hsz1]; kernel_rfl) | (simp only [hsz2]; kernel_rfl) | (simp only [hsz]; kernel_rfl) | kernel_rfl) (by first | (simp [Value.oneCell']; done) | exact HO1.out | exact HO2.out) fun gx w' hI' hb => ?_; (try clear hb); clear hI; have hI := hI'; clear hI'; (try simp only [mm, Act.put, Act.eval] at hI); (try clear c0); (try clear c1); (try clear c2); (try clear c3); (try clear c4); (try clear c5); (try clear c6); (try clear c7); (try clear c8); (try have c0 := hI.cell (i := 0) rfl); (try have c1 := hI.cell (i := 1) rfl); (try have c2 := hI.cell (i := 2) rfl); (try have c3 := hI.cell (i := 3) rfl); (try have c4 := hI.cell (i := 4) rfl); (try have c5 := hI.cell (i := 5) rfl); (try have c6 := hI.cell (i := 6) rfl); (try have c7 := hI.cell (i := 7) rfl); (try have c8 := hI.cell (i := 8) rfl); skip) | (refine listI rfl fun K hK => wpI_labLook2 _ _ _ rfl Tryz.underlying101 Tryz.underlying9 Tryz.zeroValue3 hI rfl 1 rfl rfl HFD.out (hK _ _ ?_); clear hK K) | (go_at_call 37; (with_reducible refine (HNM.out _).mono ?_); intro e w' hr; obtain ⟨rfl, hb⟩ := hr; have hI' := hI.on hb; (try clear hb); clear hI; have hI := hI'; clear hI'; (try simp only [mm, Act.put, Act.eval] at hI); (try clear c0); (try clear c1); (try clear c2); (try clear c3); (try clear c4); (try clear c5); (try clear c6); (try clear c7); (try clear c8); (try have c0 := hI.cell (i := 0) rfl); (try have c1 := hI.cell (i := 1) rfl); (try have c2 := hI.cell (i := 2) rfl); (try have c3 := hI.cell (i := 3) rfl); (try have c4 := hI.cell (i := 4) rfl); (try have c5 := hI.cell (i := 5) rfl); (try have c6 := hI.cell (i := 6) rfl); (try have c7 := hI.cell (i := 7) rfl); (try have c8 := hI.cell (i := 8) rfl); skip) | fail)
                  go_roundw
                  case rel => exact ⟨k + 1, at_ + 1, labs, by go_num, by go_num, by omega, HNX.out, hI.first [_, _, _] [_, _] rfl⟩
                  case measure => simp [intOf]; omega
              · have hb := cellK2_bad hc
                rw [hb] at HXM
                have HER := Lib.hid (show labErr labs LineK.bad = 3 from rfl)
                clear hK hl hlg he hb
                obtain ⟨⟨j1, j2, j3, j4⟩, hj1⟩ : ∃ i, (jumpW (splitL 32 x)).1 = i := ⟨_, rfl⟩
                obtain ⟨⟨⟨p1, p2, p3, p4⟩, pe⟩, hpx⟩ : ∃ i, parseF x = i := ⟨_, rfl⟩
                rw [hj1] at HJ
                rw [hpx] at HPX
                dsimp only at HJ HPX
                generalize str ((splitL 32 x).getLastD []) = jn at *
                generalize wordV x = wv at *
                rw [hpx] at hc
                simp only [Bool.and_eq_true, Bool.not_eq_true', decide_eq_true_eq] at hc
                obtain ⟨⟨h1, h2⟩, h3⟩ := hc
                rw [h1] at HJ
                rw [h2] at HW
                have hpe : (pe == 0) = false := by simp; exact h3
                clear h1 h2 hj1 hpx
                go_wp2_with (first | (go_at_call 33; (with_reducible refine (HJ.out _ (HE.out _ _ hI)).mono ?_); intro e w' hr; obtain ⟨rfl, hb⟩ := hr; have hI' := hI.on hb; (try clear hb); clear hI; have hI := hI'; clear hI'; (try simp only [mm, Act.put, Act.eval] at hI); (try clear c0); (try clear c1); (try clear c2); (try clear c3); (try clear c4); (try clear c5); (try clear c6); (try clear c7); (try clear c8); (try have c0 := hI.cell (i := 0) rfl); (try have c1 := hI.cell (i := 1) rfl); (try have c2 := hI.cell (i := 2) rfl); (try have c3 := hI.cell (i := 3) rfl); (try have c4 := hI.cell (i := 4) rfl); (try have c5 := hI.cell (i := 5) rfl); (try have c6 := hI.cell (i := 6) rfl); (try have c7 := hI.cell (i := 7) rfl); (try have c8 := hI.cell (i := 8) rfl); skip) | (go_at_call 34; (with_reducible refine (HW.out _).mono ?_); intro e w' hr; obtain ⟨rfl, hb⟩ := hr; have hI' := hI.on hb; (try clear hb); clear hI; have hI := hI'; clear hI'; (try simp only [mm, Act.put, Act.eval] at hI); (try clear c0); (try clear c1); (try clear c2); (try clear c3); (try clear c4); (try clear c5); (try clear c6); (try clear c7); (try clear c8); (try have c0 := hI.cell (i := 0) rfl); (try have c1 := hI.cell (i := 1) rfl); (try have c2 := hI.cell (i := 2) rfl); (try have c3 := hI.cell (i := 3) rfl); (try have c4 := hI.cell (i := 4) rfl); (try have c5 := hI.cell (i := 5) rfl); (try have c6 := hI.cell (i := 6) rfl); (try have c7 := hI.cell (i := 7) rfl); (try have c8 := hI.cell (i := 8) rfl); skip) | (go_at_call 35; (with_reducible refine (HPX.out _ (HE.out _ _ hI)).mono ?_); intro e w' hr; obtain ⟨rfl, hb⟩ := hr; have hI' := hI.on hb; (try clear hb); clear hI; have hI := hI'; clear hI'; (try simp only [mm, Act.put, Act.eval] at hI); (try clear c0); (try clear c1); (try clear c2); (try clear c3); (try clear c4); (try clear c5); (try clear c6); (try clear c7); (try clear c8); (try have c0 := hI.cell (i := 0) rfl); (try have c1 := hI.cell (i := 1) rfl); (try have c2 := hI.cell (i := 2) rfl); (try have c3 := hI.cell (i := 3) rfl); (try have c4 := hI.cell (i := 4) rfl); (try have c5 := hI.cell (i := 5) rfl); (try have c6 := hI.cell (i := 6) rfl); (try have c7 := hI.cell (i := 7) rfl); (try have c8 := hI.cell (i := 8) rfl); skip) | (go_at_call 36; (with_reducible refine (HTS.out _).mono ?_); rintro e w1 ⟨rfl, rfl⟩) | (refine listI_var rfl rfl 95 rfl _ _ rfl hI Tryz.zeroValue95 (fun _ => rfl) (fun _ => rfl) (by first | rfl | (simp only [hsz1]; first | done | rfl | kernel_rfl) | (simp only [hsz2]; first | done | rfl | kernel_rfl) | (simp only [hsz]; first | done | rfl | kernel_rfl) | kernel_rfl) (by first | exact info_mach (by assumption) | (simp only [hsz1]; kernel_rfl) | (simp only [hsz2]; kernel_rfl) | (simp only [hsz]; kernel_rfl) | kernel_rfl) (by first | (simp [Value.oneCell']; done) | exact HO1.out | exact HO2.out) fun gx w' hI' hb => ?_; (try clear hb); clear hI; have hI := hI'; clear hI'; (try simp only [mm, Act.put, Act.eval] at hI); (try clear c0); (try clear c1); (try clear c2); (try clear c3); (try clear c4); (try clear c5); (try clear c6); (try clear c7); (try clear c8); (try have c0 := hI.cell (i := 0) rfl); (try have c1 := hI.cell (i := 1) rfl); (try have c2 := hI.cell (i := 2) rfl); (try have c3 := hI.cell (i := 3) rfl); (try have c4 := hI.cell (i := 4) rfl); (try have c5 := hI.cell (i := 5) rfl); (try have c6 := hI.cell (i := 6) rfl); (try have c7 := hI.cell (i := 7) rfl); (try have c8 := hI.cell (i := 8) rfl); skip) | (refine listI rfl fun K hK => wpI_labLook2 _ _ _ rfl Tryz.underlying101 Tryz.underlying9 Tryz.zeroValue3 hI rfl 1 rfl rfl HFD.out (hK _ _ ?_); clear hK K) | (go_at_call 37; (with_reducible refine (HNM.out _).mono ?_); intro e w' hr; obtain ⟨rfl, hb⟩ := hr; have hI' := hI.on hb; (try clear hb); clear hI; have hI := hI'; clear hI'; (try simp only [mm, Act.put, Act.eval] at hI); (try clear c0); (try clear c1); (try clear c2); (try clear c3); (try clear c4); (try clear c5); (try clear c6); (try clear c7); (try clear c8); (try have c0 := hI.cell (i := 0) rfl); (try have c1 := hI.cell (i := 1) rfl); (try have c2 := hI.cell (i := 2) rfl); (try have c3 := hI.cell (i := 3) rfl); (try have c4 := hI.cell (i := 4) rfl); (try have c5 := hI.cell (i := 5) rfl); (try have c6 := hI.cell (i := 6) rfl); (try have c7 := hI.cell (i := 7) rfl); (try have c8 := hI.cell (i := 8) rfl); skip) | fail)
                go_returns
                exact RefRet.bad (by rw [HQ.out, HRK.out.bad HXM.out (by rw [HER.out]; decide), HER.out]) hI
      · obtain rfl : k = ls.length := by omega
        have hdk : decide ((ls.length : Int) < (ls.length : Int)) = false := by simp
        have HPL := Lib.hid (HQ.out.trans (RefK.last (at_ := at_) (labs := labs) (by rw [List.length_map]; exact HRK.out)))
        have HPO := Lib.hid HRK.out.pos
        have HOK := Lib.hid HRK.out.ok
        clear HRK HQ HS
        have hI' := hI.nilrow 3 1
        simp only [List.cons_append, List.nil_append] at hI'
        replace hI := hI'
        clear hI'
        (try have c0 := hI.cell (i := 0) rfl); (try have c1 := hI.cell (i := 1) rfl); (try have c2 := hI.cell (i := 2) rfl); (try have c3 := hI.cell (i := 3) rfl); (try have c4 := hI.cell (i := 4) rfl); (try have c5 := hI.cell (i := 5) rfl); (try have c6 := hI.cell (i := 6) rfl); (try have c7 := hI.cell (i := 7) rfl); (try have c8 := hI.cell (i := 8) rfl); skip
        go_wp2_with fail
        go_loopw [23, 138] (fun vc v wr => ∃ (j : Nat) (code : List Int), v = .int .i64 j ∧ j ≤ ls.length ∧ code.length ≤ j ∧ run2 labs (ls.map lineK) [] 0 = run2 labs ((ls.map lineK).drop j) code j ∧ Inv w [.box gl 9 lc, .obj gm (labO labs), .row 47 2 (.slice V labs.length cv) labs.length (labs.flatMap encLab), .row 3 1 vc code.length (code.flatMap encI)] wr) (fun _ v _ => (ls.length - intOf v).toNat)
        case atStart => exact ⟨0, [], rfl, by omega, by simp, rfl, hI⟩
        case round =>
          clear hI
          (try clear c0)
          obtain ⟨j, code, rfl, hj, hcl, hrun, hI⟩ := hrel
          obtain ⟨U, cu, hu⟩ := (hI.own0 (enc := encI) (xs := code) (size := 1) (i := 3) rfl).form
          subst hu
          rcases Nat.lt_or_ge j ls.length with hlt | hge
          · obtain ⟨x, hx⟩ : ∃ x, ls[j]? = some x := ⟨_, List.getElem?_eq_getElem hlt⟩
            have hcx := HC.out j x hx
            have hxm : (ls.map lineK)[j]? = some (lineK x) := by rw [List.getElem?_map, hx]; rfl
            have HR := Lib.hid (hrun.trans (run2_at hxm))
            have hok := HOK.out j _ hlt hxm
            have hxl := HLEN.out j x hx
            have hzx : (str x).size = x.length := str_size x
            have hj1 : ((j + 1 : Nat) : Int) = (j : Int) + 1 := by omega
            clear hrun hxm hx
            have HSF := Lib.hid (fun w => r_SufB x (by omega) w)
            (try have c0 := hI.cell (i := 0) rfl); (try have c1 := hI.cell (i := 1) rfl); (try have c2 := hI.cell (i := 2) rfl); (try have c3 := hI.cell (i := 3) rfl); (try have c4 := hI.cell (i := 4) rfl); (try have c5 := hI.cell (i := 5) rfl); (try have c6 := hI.cell (i := 6) rfl); (try have c7 := hI.cell (i := 7) rfl); (try have c8 := hI.cell (i := 8) rfl); skip
            by_cases hlg : 80 < x.length
            · rw [lineK2_large hlg] at hok; exact hok.elim
            · by_cases he : x = []
              · subst he
                have hse : (str []).toList.isEmpty = true := by rw [Lib.toList_data, str_list]; rfl
                rw [show lineK [] = LineK.empty from rfl] at HR
                clear hok hlg
                go_wp2_with (first | (go_at_call 38; (with_reducible refine (HSF.out _).mono ?_); rintro e w1 ⟨rfl, rfl⟩) | fail)
                go_roundw
                case rel => exact ⟨j + 1, code, by go_num, by omega, by omega, by rw [hj1]; exact HR.out, hI⟩
                case measure => simp [intOf]; omega
              · have hse : (str x).toList.isEmpty = false := str_full (List.length_pos_iff.2 he)
                by_cases hl : x.getLast? = some 58
                · rw [lineK2_label hlg hl] at HR
                  rw [decide_eq_true hl] at HSF
                  clear hok hlg hl he
                  go_wp2_with (first | (go_at_call 38; (with_reducible refine (HSF.out _).mono ?_); rintro e w1 ⟨rfl, rfl⟩) | fail)
                  go_roundw
                  case rel => exact ⟨j + 1, code, by go_num, by omega, by omega, by rw [hj1]; exact HR.out, hI⟩
                  case measure => simp [intOf]; omega
                · rw [lineK2_cell hlg hl he] at HR hok
                  rw [decide_eq_false hl] at HSF
                  have HJ := Lib.hid (fun w h => r_jumpTo x hxl w h)
                  have HW := Lib.hid (fun w => r_word x (by omega) w)
                  have HPX := Lib.hid (fun w h => r_InstParse x (by omega) w h)
                  obtain ⟨⟨⟨p1, p2, p3, p4⟩, pe⟩, hpx⟩ : ∃ i, parseF x = i := ⟨_, rfl⟩
                  cases hc : (!isHole (splitL 32 x) && !wordB x && decide ((parseF x).2 ≠ 0))
                  · clear hok hlg hl he
                    rcases cellK2_ok hc with ⟨h1, h2, h3⟩ | ⟨h1, h2, h3⟩ | ⟨h1, h2, h4, h3⟩
                    · rw [h1] at HJ
                      rw [h2] at HW
                      rw [h3] at HR
                      rw [hpx] at HPX
                      have hjok := jump_ok h1
                      obtain ⟨⟨j1, j2, j3, j4⟩, hji⟩ : ∃ i, (jumpW (splitL 32 x)).1 = i := ⟨_, rfl⟩
                      rw [hji] at HJ HR hjok
                      dsimp only at HJ HPX hjok
                      generalize (splitL 32 x).getLastD [] = jn at *
                      generalize wordV x = wv at *
                      clear hc h1 h2 h3 hpx hji
                      cases hfd : findL labs jn with
                      | none =>
                        have HFD := Lib.hid hfd
                        have HRN := Lib.hid (HR.out.trans (show run2 labs (.hole ⟨j1, j2, j3, j4⟩ jn :: (ls.map lineK).drop (j + 1)) code j = .inl ((j : Int) + 1, 7) by simp only [run2, hfd]))
                        clear hfd
                        go_wp2_with (first | (go_at_call 33; (with_reducible refine (HJ.out _ (HE.out _ _ hI)).mono ?_); intro e w' hr; obtain ⟨rfl, hb⟩ := hr; have hI' := hI.on hb; (try clear hb); clear hI; have hI := hI'; clear hI'; (try simp only [mm, Act.put, Act.eval] at hI); (try clear c0); (try clear c1); (try clear c2); (try clear c3); (try clear c4); (try clear c5); (try clear c6); (try clear c7); (try clear c8); (try have c0 := hI.cell (i := 0) rfl); (try have c1 := hI.cell (i := 1) rfl); (try have c2 := hI.cell (i := 2) rfl); (try have c3 := hI.cell (i := 3) rfl); (try have c4 := hI.cell (i := 4) rfl); (try have c5 := hI.cell (i := 5) rfl); (try have c6 := hI.cell (i := 6) rfl); (try have c7 := hI.cell (i := 7) rfl); (try have c8 := hI.cell (i := 8) rfl); skip) | (go_at_call 34; (with_reducible refine (HW.out _).mono ?_); intro e w' hr; obtain ⟨rfl, hb⟩ := hr; have hI' := hI.on hb; (try clear hb); clear hI; have hI := hI'; clear hI'; (try simp only [mm, Act.put, Act.eval] at hI); (try clear c0); (try clear c1); (try clear c2); (try clear c3); (try clear c4); (try clear c5); (try clear c6); (try clear c7); (try clear c8); (try have c0 := hI.cell (i := 0) rfl); (try have c1 := hI.cell (i := 1) rfl); (try have c2 := hI.cell (i := 2) rfl); (try have c3 := hI.cell (i := 3) rfl); (try have c4 := hI.cell (i := 4) rfl); (try have c5 := hI.cell (i := 5) rfl); (try have c6 := hI.cell (i := 6) rfl); (try have c7 := hI.cell (i := 7) rfl); (try have c8 := hI.cell (i := 8) rfl); skip) | (go_at_call 35; (with_reducible refine (HPX.out _ (HE.out _ _ hI)).mono ?_); intro e w' hr; obtain ⟨rfl, hb⟩ := hr; have hI' := hI.on hb; (try clear hb); clear hI; have hI := hI'; clear hI'; (try simp only [mm, Act.put, Act.eval] at hI); (try clear c0); (try clear c1); (try clear c2); (try clear c3); (try clear c4); (try clear c5); (try clear c6); (try clear c7); (try clear c8); (try have c0 := hI.cell (i := 0) rfl); (try have c1 := hI.cell (i := 1) rfl); (try have c2 := hI.cell (i := 2) rfl); (try have c3 := hI.cell (i := 3) rfl); (try have c4 := hI.cell (i := 4) rfl); (try have c5 := hI.cell (i := 5) rfl); (try have c6 := hI.cell (i := 6) rfl); (try have c7 := hI.cell (i := 7) rfl); (try have c8 := hI.cell (i := 8) rfl); skip) | (go_at_call 38; (with_reducible refine (HSF.out _).mono ?_); rintro e w1 ⟨rfl, rfl⟩) | (refine listI_var rfl rfl 95 rfl _ _ rfl hI Tryz.zeroValue95 (fun _ => rfl) (fun _ => rfl) (by first | rfl | (simp only [hsz1]; first | done | rfl | kernel_rfl) | (simp only [hsz2]; first | done | rfl | kernel_rfl) | (simp only [hsz]; first | done | rfl | kernel_rfl) | kernel_rfl) (by first | exact info_mach (by assumption) | (simp only [hsz1]; kernel_rfl) | (simp only [hsz2]; kernel_rfl) | (simp only [hsz]; kernel_rfl) | kernel_rfl) (by first | (simp [Value.oneCell']; done) | exact HO1.out | exact HO2.out) fun gx w' hI' hb => ?_; (try clear hb); clear hI; have hI := hI'; clear hI'; (try simp only [mm, Act.put, Act.eval] at hI); (try clear c0); (try clear c1); (try clear c2); (try clear c3); (try clear c4); (try clear c5); (try clear c6); (try clear c7); (try clear c8); (try have c0 := hI.cell (i := 0) rfl); (try have c1 := hI.cell (i := 1) rfl); (try have c2 := hI.cell (i := 2) rfl); (try have c3 := hI.cell (i := 3) rfl); (try have c4 := hI.cell (i := 4) rfl); (try have c5 := hI.cell (i := 5) rfl); (try have c6 := hI.cell (i := 6) rfl); (try have c7 := hI.cell (i := 7) rfl); (try have c8 := hI.cell (i := 8) rfl); skip) | (refine listI rfl fun K hK => wpI_labLook2 _ _ _ rfl Tryz.underlying101 Tryz.underlying9 Tryz.zeroValue3 hI rfl 1 rfl rfl HFD.out (hK _ _ ?_); clear hK K) | fail)
                        go_returns
                        exact RefRet.bad (by rw [HPL.out, HRN.out]) hI
                      | some q =>
                        have HFD := Lib.hid hfd
                        obtain ⟨y, hym, hyq⟩ := findL_in2 hfd
                        have hqq := HPO.out y hym
                        have hq0 : 0 ≤ q := by omega
                        have hq1 : q ≤ 150 := by omega
                        have hc1 : code.length ≤ 150 := by omega
                        have HO := Lib.hid (fun w => r_outside (q - code.length) (-2048) 2047 w)
                        have hjk := hjok (q - code.length)
                        clear hym hyq hqq y hjok
                        cases hin : inR (q - code.length) (-2048) 2047
                        · rw [hin] at hjk HO
                          have HRN := Lib.hid (HR.out.trans (show run2 labs (.hole ⟨j1, j2, j3, j4⟩ jn :: (ls.map lineK).drop (j + 1)) code j = .inl ((j : Int) + 1, 13) by simp only [run2, hfd]; rw [if_neg (by rw [hjk]; decide)]))
                          clear hfd hjk hin
                          go_wp2_with (first | (go_at_call 33; (with_reducible refine (HJ.out _ (HE.out _ _ hI)).mono ?_); intro e w' hr; obtain ⟨rfl, hb⟩ := hr; have hI' := hI.on hb; (try clear hb); clear hI; have hI := hI'; clear hI'; (try simp only [mm, Act.put, Act.eval] at hI); (try clear c0); (try clear c1); (try clear c2); (try clear c3); (try clear c4); (try clear c5); (try clear c6); (try clear c7); (try clear c8); (try have c0 := hI.cell (i := 0) rfl); (try have c1 := hI.cell (i := 1) rfl); (try have c2 := hI.cell (i := 2) rfl); (try have c3 := hI.cell (i := 3) rfl); (try have c4 := hI.cell (i := 4) rfl); (try have c5 := hI.cell (i := 5) rfl); (try have c6 := hI.cell (i := 6) rfl); (try have c7 := hI.cell (i := 7) rfl); (try have c8 := hI.cell (i := 8) rfl); skip) | (go_at_call 34; (with_reducible refine (HW.out _).mono ?_); intro e w' hr; obtain ⟨rfl, hb⟩ := hr; have hI' := hI.on hb; (try clear hb); clear hI; have hI := hI'; clear hI'; (try simp only [mm, Act.put, Act.eval] at hI); (try clear c0); (try clear c1); (try clear c2); (try clear c3); (try clear c4); (try clear c5); (try clear c6); (try clear c7); (try clear c8); (try have c0 := hI.cell (i := 0) rfl); (try have c1 := hI.cell (i := 1) rfl); (try have c2 := hI.cell (i := 2) rfl); (try have c3 := hI.cell (i := 3) rfl); (try have c4 := hI.cell (i := 4) rfl); (try have c5 := hI.cell (i := 5) rfl); (try have c6 := hI.cell (i := 6) rfl); (try have c7 := hI.cell (i := 7) rfl); (try have c8 := hI.cell (i := 8) rfl); skip) | (go_at_call 35; (with_reducible refine (HPX.out _ (HE.out _ _ hI)).mono ?_); intro e w' hr; obtain ⟨rfl, hb⟩ := hr; have hI' := hI.on hb; (try clear hb); clear hI; have hI := hI'; clear hI'; (try simp only [mm, Act.put, Act.eval] at hI); (try clear c0); (try clear c1); (try clear c2); (try clear c3); (try clear c4); (try clear c5); (try clear c6); (try clear c7); (try clear c8); (try have c0 := hI.cell (i := 0) rfl); (try have c1 := hI.cell (i := 1) rfl); (try have c2 := hI.cell (i := 2) rfl); (try have c3 := hI.cell (i := 3) rfl); (try have c4 := hI.cell (i := 4) rfl); (try have c5 := hI.cell (i := 5) rfl); (try have c6 := hI.cell (i := 6) rfl); (try have c7 := hI.cell (i := 7) rfl); (try have c8 := hI.cell (i := 8) rfl); skip) | (go_at_call 38; (with_reducible refine (HSF.out _).mono ?_); rintro e w1 ⟨rfl, rfl⟩) | (refine listI_var rfl rfl 95 rfl _ _ rfl hI Tryz.zeroValue95 (fun _ => rfl) (fun _ => rfl) (by first | rfl | (simp only [hsz1]; first | done | rfl | kernel_rfl) | (simp only [hsz2]; first | done | rfl | kernel_rfl) | (simp only [hsz]; first | done | rfl | kernel_rfl) | kernel_rfl) (by first | exact info_mach (by assumption) | (simp only [hsz1]; kernel_rfl) | (simp only [hsz2]; kernel_rfl) | (simp only [hsz]; kernel_rfl) | kernel_rfl) (by first | (simp [Value.oneCell']; done) | exact HO1.out | exact HO2.out) fun gx w' hI' hb => ?_; (try clear hb); clear hI; have hI := hI'; clear hI'; (try simp only [mm, Act.put, Act.eval] at hI); (try clear c0); (try clear c1); (try clear c2); (try clear c3); (try clear c4); (try clear c5); (try clear c6); (try clear c7); (try clear c8); (try have c0 := hI.cell (i := 0) rfl); (try have c1 := hI.cell (i := 1) rfl); (try have c2 := hI.cell (i := 2) rfl); (try have c3 := hI.cell (i := 3) rfl); (try have c4 := hI.cell (i := 4) rfl); (try have c5 := hI.cell (i := 5) rfl); (try have c6 := hI.cell (i := 6) rfl); (try have c7 := hI.cell (i := 7) rfl); (try have c8 := hI.cell (i := 8) rfl); skip) | (refine listI rfl fun K hK => wpI_labLook2 _ _ _ rfl Tryz.underlying101 Tryz.underlying9 Tryz.zeroValue3 hI rfl 1 rfl rfl HFD.out (hK _ _ ?_); clear hK K) | (refine listI rfl fun K hK => wpI_store1 _ _ _ rfl hI rfl 5 rfl rfl rfl (by simp) (by kernel_rfl) fun w' hI' => hK _ _ ?_; clear hK K; (try clear hb); clear hI; have hI := hI'; clear hI'; (try simp only [mm, Act.put, Act.eval] at hI); (try clear c0); (try clear c1); (try clear c2); (try clear c3); (try clear c4); (try clear c5); (try clear c6); (try clear c7); (try clear c8); (try have c0 := hI.cell (i := 0) rfl); (try have c1 := hI.cell (i := 1) rfl); (try have c2 := hI.cell (i := 2) rfl); (try have c3 := hI.cell (i := 3) rfl); (try have c4 := hI.cell (i := 4) rfl); (try have c5 := hI.cell (i := 5) rfl); (try have c6 := hI.cell (i := 6) rfl); (try have c7 := hI.cell (i := 7) rfl); (try have c8 := hI.cell (i := 8) rfl); skip) | (go_at_call 39; (with_reducible refine (HO.out _).mono ?_); rintro e w1 ⟨rfl, rfl⟩) | fail)
                          go_returns
                          exact RefRet.bad (by rw [HPL.out, HRN.out]) hI
                        · rw [hin] at hjk HO
                          have HRN := Lib.hid (HR.out.trans (show run2 labs (.hole ⟨j1, j2, j3, j4⟩ jn :: (ls.map lineK).drop (j + 1)) code j = run2 labs ((ls.map lineK).drop (j + 1)) (code ++ [(packF ⟨j1, j2, j3, q - code.length⟩).1]) ((j : Int) + 1) by simp only [run2, hfd]; rw [if_pos hjk]))
                          have HPK := Lib.hid (fun w h => r_InstPack ⟨j1, j2, j3, q - code.length⟩ w h)
                          generalize packF ⟨j1, j2, j3, q - code.length⟩ = pk at *
                          obtain ⟨pk1, pk2⟩ := pk
                          dsimp only at HPK HRN
                          clear hfd hjk hin
                          go_wp2_with (first | (go_at_call 33; (with_reducible refine (HJ.out _ (HE.out _ _ hI)).mono ?_); intro e w' hr; obtain ⟨rfl, hb⟩ := hr; have hI' := hI.on hb; (try clear hb); clear hI; have hI := hI'; clear hI'; (try simp only [mm, Act.put, Act.eval] at hI); (try clear c0); (try clear c1); (try clear c2); (try clear c3); (try clear c4); (try clear c5); (try clear c6); (try clear c7); (try clear c8); (try have c0 := hI.cell (i := 0) rfl); (try have c1 := hI.cell (i := 1) rfl); (try have c2 := hI.cell (i := 2) rfl); (try have c3 := hI.cell (i := 3) rfl); (try have c4 := hI.cell (i := 4) rfl); (try have c5 := hI.cell (i := 5) rfl); (try have c6 := hI.cell (i := 6) rfl); (try have c7 := hI.cell (i := 7) rfl); (try have c8 := hI.cell (i := 8) rfl); skip) | (go_at_call 34; (with_reducible refine (HW.out _).mono ?_); intro e w' hr; obtain ⟨rfl, hb⟩ := hr; have hI' := hI.on hb; (try clear hb); clear hI; have hI := hI'; clear hI'; (try simp only [mm, Act.put, Act.eval] at hI); (try clear c0); (try clear c1); (try clear c2); (try clear c3); (try clear c4); (try clear c5); (try clear c6); (try clear c7); (try clear c8); (try have c0 := hI.cell (i := 0) rfl); (try have c1 := hI.cell (i := 1) rfl); (try have c2 := hI.cell (i := 2) rfl); (try have c3 := hI.cell (i := 3) rfl); (try have c4 := hI.cell (i := 4) rfl); (try have c5 := hI.cell (i := 5) rfl); (try have c6 := hI.cell (i := 6) rfl); (try have c7 := hI.cell (i := 7) rfl); (try have c8 := hI.cell (i := 8) rfl); skip) | (go_at_call 35; (with_reducible refine (HPX.out _ (HE.out _ _ hI)).mono ?_); intro e w' hr; obtain ⟨rfl, hb⟩ := hr; have hI' := hI.on hb; (try clear hb); clear hI; have hI := hI'; clear hI'; (try simp only [mm, Act.put, Act.eval] at hI); (try clear c0); (try clear c1); (try clear c2); (try clear c3); (try clear c4); (try clear c5); (try clear c6); (try clear c7); (try clear c8); (try have c0 := hI.cell (i := 0) rfl); (try have c1 := hI.cell (i := 1) rfl); (try have c2 := hI.cell (i := 2) rfl); (try have c3 := hI.cell (i := 3) rfl); (try have c4 := hI.cell (i := 4) rfl); (try have c5 := hI.cell (i := 5) rfl); (try have c6 := hI.cell (i := 6) rfl); (try have c7 := hI.cell (i := 7) rfl); (try have c8 := hI.cell (i := 8) rfl); skip) | (go_at_call 38; (with_reducible refine (HSF.out _).mono ?_); rintro e w1 ⟨rfl, rfl⟩) | (refine listI_var rfl rfl 95 rfl _ _ rfl hI Tryz.zeroValue95 (fun _ => rfl) (fun _ => rfl) (by first | rfl | (simp only [hsz1]; first | done | rfl | kernel_rfl) | (simp only [hsz2]; first | done | rfl | kernel_rfl) | (simp only [hsz]; first | done | rfl | kernel_rfl) | kernel_rfl) (by first | exact info_mach (by assumption) | (simp only [hsz1]; kernel_rfl) | (simp only [hsz2]; kernel_rfl) | (simp only [hsz]; kernel_rfl) | kernel_rfl) (by first | (simp [Value.oneCell']; done) | exact HO1.out | exact HO2.out) fun gx w' hI' hb => ?_; (try clear hb); clear hI; have hI := hI'; clear hI'; (try simp only [mm, Act.put, Act.eval] at hI); (try clear c0); (try clear c1); (try clear c2); (try clear c3); (try clear c4); (try clear c5); (try clear c6); (try clear c7); (try clear c8); (try have c0 := hI.cell (i := 0) rfl); (try have c1 := hI.cell (i := 1) rfl); (try have c2 := hI.cell (i := 2) rfl); (try have c3 := hI.cell (i := 3) rfl); (try have c4 := hI.cell (i := 4) rfl); (try have c5 := hI.cell (i := 5) rfl); (try have c6 := hI.cell (i := 6) rfl); (try have c7 := hI.cell (i := 7) rfl); (try have c8 := hI.cell (i := 8) rfl); skip) | (refine listI rfl fun K hK => wpI_labLook2 _ _ _ rfl Tryz.underlying101 Tryz.underlying9 Tryz.zeroValue3 hI rfl 1 rfl rfl HFD.out (hK _ _ ?_); clear hK K) | (refine listI rfl fun K hK => wpI_store1 _ _ _ rfl hI rfl 5 rfl rfl rfl (by simp) (by kernel_rfl) fun w' hI' => hK _ _ ?_; clear hK K; (try clear hb); clear hI; have hI := hI'; clear hI'; (try simp only [mm, Act.put, Act.eval] at hI); (try clear c0); (try clear c1); (try clear c2); (try clear c3); (try clear c4); (try clear c5); (try clear c6); (try clear c7); (try clear c8); (try have c0 := hI.cell (i := 0) rfl); (try have c1 := hI.cell (i := 1) rfl); (try have c2 := hI.cell (i := 2) rfl); (try have c3 := hI.cell (i := 3) rfl); (try have c4 := hI.cell (i := 4) rfl); (try have c5 := hI.cell (i := 5) rfl); (try have c6 := hI.cell (i := 6) rfl); (try have c7 := hI.cell (i := 7) rfl); (try have c8 := hI.cell (i := 8) rfl); skip) | (go_at_call 39; (with_reducible refine (HO.out _).mono ?_); rintro e w1 ⟨rfl, rfl⟩) | (refine listI rfl fun K hK => wpI_storeW _ _ _ rfl hI rfl 4 rfl rfl rfl (by kernel_rfl) (by simp [Value.oneCell']) fun w' hI' => hK _ _ ?_; clear hK K; (try clear hb); clear hI; have hI := hI'; clear hI'; (try simp only [mm, Act.put, Act.eval] at hI); (try clear c0); (try clear c1); (try clear c2); (try clear c3); (try clear c4); (try clear c5); (try clear c6); (try clear c7); (try clear c8); (try have c0 := hI.cell (i := 0) rfl); (try have c1 := hI.cell (i := 1) rfl); (try have c2 := hI.cell (i := 2) rfl); (try have c3 := hI.cell (i := 3) rfl); (try have c4 := hI.cell (i := 4) rfl); (try have c5 := hI.cell (i := 5) rfl); (try have c6 := hI.cell (i := 6) rfl); (try have c7 := hI.cell (i := 7) rfl); (try have c8 := hI.cell (i := 8) rfl); skip) | (go_at_call 40; (with_reducible refine (HPK.out _ (HE.out _ _ hI)).mono ?_); intro e w' hr; obtain ⟨rfl, hb⟩ := hr; have hI' := hI.on hb; (try clear hb); clear hI; have hI := hI'; clear hI'; (try simp only [mm, Act.put, Act.eval] at hI); (try clear c0); (try clear c1); (try clear c2); (try clear c3); (try clear c4); (try clear c5); (try clear c6); (try clear c7); (try clear c8); (try have c0 := hI.cell (i := 0) rfl); (try have c1 := hI.cell (i := 1) rfl); (try have c2 := hI.cell (i := 2) rfl); (try have c3 := hI.cell (i := 3) rfl); (try have c4 := hI.cell (i := 4) rfl); (try have c5 := hI.cell (i := 5) rfl); (try have c6 := hI.cell (i := 6) rfl); (try have c7 := hI.cell (i := 7) rfl); (try have c8 := hI.cell (i := 8) rfl); skip) | (refine listI rfl fun K hK => wpI_slice1 _ 3 _ rfl hI Tryz.underlying32 rfl (size := 1) (by kernel_rfl) rfl fun gy w' hI' hb => hK _ _ ?_; clear hK K; (try clear hb); clear hI; have hI := hI'; clear hI'; (try simp only [mm, Act.put, Act.eval] at hI); (try clear c0); (try clear c1); (try clear c2); (try clear c3); (try clear c4); (try clear c5); (try clear c6); (try clear c7); (try clear c8); (try have c0 := hI.cell (i := 0) rfl); (try have c1 := hI.cell (i := 1) rfl); (try have c2 := hI.cell (i := 2) rfl); (try have c3 := hI.cell (i := 3) rfl); (try have c4 := hI.cell (i := 4) rfl); (try have c5 := hI.cell (i := 5) rfl); (try have c6 := hI.cell (i := 6) rfl); (try have c7 := hI.cell (i := 7) rfl); (try have c8 := hI.cell (i := 8) rfl); skip) | (refine listI rfl fun K hK => wpI_app _ _ rfl el_I hI 3 rfl rfl (ys := [pk1]) rfl (hI.lies1 (i := 6) rfl _ (fun j hj => by rw [List.getElem?_toArray]; rfl)) rfl (by unfold maxLen; simp only [List.length_cons, List.length_nil]; omega) (by simp only [List.length_cons, List.length_nil]; omega) fun vn w' hI' => hK _ _ ?_; clear hK K; (try clear hb); clear hI; have hI := hI'; clear hI'; (try simp only [mm, Act.put, Act.eval] at hI); (try clear c0); (try clear c1); (try clear c2); (try clear c3); (try clear c4); (try clear c5); (try clear c6); (try clear c7); (try clear c8); (try have c0 := hI.cell (i := 0) rfl); (try have c1 := hI.cell (i := 1) rfl); (try have c2 := hI.cell (i := 2) rfl); (try have c3 := hI.cell (i := 3) rfl); (try have c4 := hI.cell (i := 4) rfl); (try have c5 := hI.cell (i := 5) rfl); (try have c6 := hI.cell (i := 6) rfl); (try have c7 := hI.cell (i := 7) rfl); (try have c8 := hI.cell (i := 8) rfl); skip) | fail)
                          go_roundw
                          case rel => exact ⟨j + 1, code ++ [pk1], by go_num, by omega, by rw [List.length_append, List.length_cons, List.length_nil]; omega, by rw [hj1]; exact HRN.out, hI.first [_, _, _, _] [_, _, _] rfl⟩
                          case measure => simp [intOf]; omega
                    · rw [h1] at HJ
                      rw [h2] at HW
                      rw [h3] at HR
                      rw [hpx] at HPX
                      have HRN := Lib.hid (HR.out.trans (show run2 labs (.cell (wordV x) :: (ls.map lineK).drop (j + 1)) code j = run2 labs ((ls.map lineK).drop (j + 1)) (code ++ [wordV x]) ((j : Int) + 1) from rfl))
                      obtain ⟨⟨j1, j2, j3, j4⟩, hji⟩ : ∃ i, (jumpW (splitL 32 x)).1 = i := ⟨_, rfl⟩
                      rw [hji] at HJ
                      dsimp only at HJ HPX
                      generalize str ((splitL 32 x).getLastD []) = jn at *
                      generalize wordV x = wv at *
                      have hc1 : code.length ≤ 150 := by omega
                      clear hc h1 h2 h3 hpx hji
                      go_wp2_with (first | (go_at_call 33; (with_reducible refine (HJ.out _ (HE.out _ _ hI)).mono ?_); intro e w' hr; obtain ⟨rfl, hb⟩ := hr; have hI' := hI.on hb; (try clear hb); clear hI; have hI := hI'; clear hI'; (try simp only [mm, Act.put, Act.eval] at hI); (try clear c0); (try clear c1); (try clear c2); (try clear c3); (try clear c4); (try clear c5); (try clear c6); (try clear c7); (try clear c8); (try have c0 := hI.cell (i := 0) rfl); (try have c1 := hI.cell (i := 1) rfl); (try have c2 := hI.cell (i := 2) rfl); (try have c3 := hI.cell (i := 3) rfl); (try have c4 := hI.cell (i := 4) rfl); (try have c5 := hI.cell (i := 5) rfl); (try have c6 := hI.cell (i := 6) rfl); (try have c7 := hI.cell (i := 7) rfl); (try have c8 := hI.cell (i := 8) rfl); skip) | (go_at_call 34; (with_reducible refine (HW.out _).mono ?_); intro e w' hr; obtain ⟨rfl, hb⟩ := hr; have hI' := hI.on hb; (try clear hb); clear hI; have hI := hI'; clear hI'; (try simp only [mm, Act.put, Act.eval] at hI); (try clear c0); (try clear c1); (try clear c2); (try clear c3); (try clear c4); (try clear c5); (try clear c6); (try clear c7); (try clear c8); (try have c0 := hI.cell (i := 0) rfl); (try have c1 := hI.cell (i := 1) rfl); (try have c2 := hI.cell (i := 2) rfl); (try have c3 := hI.cell (i := 3) rfl); (try have c4 := hI.cell (i := 4) rfl); (try have c5 := hI.cell (i := 5) rfl); (try have c6 := hI.cell (i := 6) rfl); (try have c7 := hI.cell (i := 7) rfl); (try have c8 := hI.cell (i := 8) rfl); skip) | (go_at_call 35; (with_reducible refine (HPX.out _ (HE.out _ _ hI)).mono ?_); intro e w' hr; obtain ⟨rfl, hb⟩ := hr; have hI' := hI.on hb; (try clear hb); clear hI; have hI := hI'; clear hI'; (try simp only [mm, Act.put, Act.eval] at hI); (try clear c0); (try clear c1); (try clear c2); (try clear c3); (try clear c4); (try clear c5); (try clear c6); (try clear c7); (try clear c8); (try have c0 := hI.cell (i := 0) rfl); (try have c1 := hI.cell (i := 1) rfl); (try have c2 := hI.cell (i := 2) rfl); (try have c3 := hI.cell (i := 3) rfl); (try have c4 := hI.cell (i := 4) rfl); (try have c5 := hI.cell (i := 5) rfl); (try have c6 := hI.cell (i := 6) rfl); (try have c7 := hI.cell (i := 7) rfl); (try have c8 := hI.cell (i := 8) rfl); skip) | (go_at_call 38; (with_reducible refine (HSF.out _).mono ?_); rintro e w1 ⟨rfl, rfl⟩) | (refine listI_var rfl rfl 95 rfl _ _ rfl hI Tryz.zeroValue95 (fun _ => rfl) (fun _ => rfl) (by first | rfl | (simp only [hsz1]; first | done | rfl | kernel_rfl) | (simp only [hsz2]; first | done | rfl | kernel_rfl) | (simp only [hsz]; first | done | rfl | kernel_rfl) | kernel_rfl) (by first | exact info_mach (by assumption) | (simp only [hsz1]; kernel_rfl) | (simp only [hsz2]; kernel_rfl) | (simp only [hsz]; kernel_rfl) | kernel_rfl) (by first | (simp [Value.oneCell']; done) | exact HO1.out | exact HO2.out) fun gx w' hI' hb => ?_; (try clear hb); clear hI; have hI := hI'; clear hI'; (try simp only [mm, Act.put, Act.eval] at hI); (try clear c0); (try clear c1); (try clear c2); (try clear c3); (try clear c4); (try clear c5); (try clear c6); (try clear c7); (try clear c8); (try have c0 := hI.cell (i := 0) rfl); (try have c1 := hI.cell (i := 1) rfl); (try have c2 := hI.cell (i := 2) rfl); (try have c3 := hI.cell (i := 3) rfl); (try have c4 := hI.cell (i := 4) rfl); (try have c5 := hI.cell (i := 5) rfl); (try have c6 := hI.cell (i := 6) rfl); (try have c7 := hI.cell (i := 7) rfl); (try have c8 := hI.cell (i := 8) rfl); skip) | (refine listI rfl fun K hK => wpI_slice1 _ 3 _ rfl hI Tryz.underlying32 rfl (size := 1) (by kernel_rfl) rfl fun gy w' hI' hb => hK _ _ ?_; clear hK K; (try clear hb); clear hI; have hI := hI'; clear hI'; (try simp only [mm, Act.put, Act.eval] at hI); (try clear c0); (try clear c1); (try clear c2); (try clear c3); (try clear c4); (try clear c5); (try clear c6); (try clear c7); (try clear c8); (try have c0 := hI.cell (i := 0) rfl); (try have c1 := hI.cell (i := 1) rfl); (try have c2 := hI.cell (i := 2) rfl); (try have c3 := hI.cell (i := 3) rfl); (try have c4 := hI.cell (i := 4) rfl); (try have c5 := hI.cell (i := 5) rfl); (try have c6 := hI.cell (i := 6) rfl); (try have c7 := hI.cell (i := 7) rfl); (try have c8 := hI.cell (i := 8) rfl); skip) | (refine listI rfl fun K hK => wpI_app _ _ rfl el_I hI 3 rfl rfl (ys := [wv]) rfl (hI.lies1 (i := 6) rfl _ (fun j hj => by rw [List.getElem?_toArray]; rfl)) rfl (by unfold maxLen; simp only [List.length_cons, List.length_nil]; omega) (by simp only [List.length_cons, List.length_nil]; omega) fun vn w' hI' => hK _ _ ?_; clear hK K; (try clear hb); clear hI; have hI := hI'; clear hI'; (try simp only [mm, Act.put, Act.eval] at hI); (try clear c0); (try clear c1); (try clear c2); (try clear c3); (try clear c4); (try clear c5); (try clear c6); (try clear c7); (try clear c8); (try have c0 := hI.cell (i := 0) rfl); (try have c1 := hI.cell (i := 1) rfl); (try have c2 := hI.cell (i := 2) rfl); (try have c3 := hI.cell (i := 3) rfl); (try have c4 := hI.cell (i := 4) rfl); (try have c5 := hI.cell (i := 5) rfl); (try have c6 := hI.cell (i := 6) rfl); (try have c7 := hI.cell (i := 7) rfl); (try have c8 := hI.cell (i := 8) rfl); skip) | fail)
                      go_roundw
                      case rel => exact ⟨j + 1, code ++ [wv], by go_num, by omega, by rw [List.length_append, List.length_cons, List.length_nil]; omega, by rw [hj1]; exact HRN.out, hI.first [_, _, _, _] [_, _, _] rfl⟩
                      case measure => simp [intOf]; omega
                    · rw [h1] at HJ
                      rw [h2] at HW
                      rw [h3] at HR
                      rw [hpx] at HPX HR h4
                      dsimp only at HPX HR h4
                      subst h4
                      have HRN := Lib.hid (HR.out.trans (show run2 labs (.cell (packF ⟨p1, p2, p3, p4⟩).1 :: (ls.map lineK).drop (j + 1)) code j = run2 labs ((ls.map lineK).drop (j + 1)) (code ++ [(packF ⟨p1, p2, p3, p4⟩).1]) ((j : Int) + 1) from rfl))
                      have HPK := Lib.hid (fun w h => r_InstPack ⟨p1, p2, p3, p4⟩ w h)
                      generalize packF ⟨p1, p2, p3, p4⟩ = pk at *
                      obtain ⟨pk1, pk2⟩ := pk
                      dsimp only at HPK HRN
                      obtain ⟨⟨j1, j2, j3, j4⟩, hji⟩ : ∃ i, (jumpW (splitL 32 x)).1 = i := ⟨_, rfl⟩
                      rw [hji] at HJ
                      dsimp only at HJ
                      generalize str ((splitL 32 x).getLastD []) = jn at *
                      generalize wordV x = wv at *
                      have hc1 : code.length ≤ 150 := by omega
                      clear hc h1 h2 h3 hpx hji
                      go_wp2_with (first | (go_at_call 33; (with_reducible refine (HJ.out _ (HE.out _ _ hI)).mono ?_); intro e w' hr; obtain ⟨rfl, hb⟩ := hr; have hI' := hI.on hb; (try clear hb); clear hI; have hI := hI'; clear hI'; (try simp only [mm, Act.put, Act.eval] at hI); (try clear c0); (try clear c1); (try clear c2); (try clear c3); (try clear c4); (try clear c5); (try clear c6); (try clear c7); (try clear c8); (try have c0 := hI.cell (i := 0) rfl); (try have c1 := hI.cell (i := 1) rfl); (try have c2 := hI.cell (i := 2) rfl); (try have c3 := hI.cell (i := 3) rfl); (try have c4 := hI.cell (i := 4) rfl); (try have c5 := hI.cell (i := 5) rfl); (try have c6 := hI.cell (i := 6) rfl); (try have c7 := hI.cell (i := 7) rfl); (try have c8 := hI.cell (i := 8) rfl); skip) | (go_at_call 34; (with_reducible refine (HW.out _).mono ?_); intro e w' hr; obtain ⟨rfl, hb⟩ := hr; have hI' := hI.on hb; (try clear hb); clear hI; have hI := hI'; clear hI'; (try simp only [mm, Act.put, Act.eval] at hI); (try clear c0); (try clear c1); (try clear c2); (try clear c3); (try clear c4); (try clear c5); (try clear c6); (try clear c7); (try clear c8); (try have c0 := hI.cell (i := 0) rfl); (try have c1 := hI.cell (i := 1) rfl); (try have c2 := hI.cell (i := 2) rfl); (try have c3 := hI.cell (i := 3) rfl); (try have c4 := hI.cell (i := 4) rfl); (try have c5 := hI.cell (i := 5) rfl); (try have c6 := hI.cell (i := 6) rfl); (try have c7 := hI.cell (i := 7) rfl); (try have c8 := hI.cell (i := 8) rfl); skip) | (go_at_call 35; (with_reducible refine (HPX.out _ (HE.out _ _ hI)).mono ?_); intro e w' hr; obtain ⟨rfl, hb⟩ := hr; have hI' := hI.on hb; (try clear hb); clear hI; have hI := hI'; clear hI'; (try simp only [mm, Act.put, Act.eval] at hI); (try clear c0); (try clear c1); (try clear c2); (try clear c3); (try clear c4); (try clear c5); (try clear c6); (try clear c7); (try clear c8); (try have c0 := hI.cell (i := 0) rfl); (try have c1 := hI.cell (i := 1) rfl); (try have c2 := hI.cell (i := 2) rfl); (try have c3 := hI.cell (i := 3) rfl); (try have c4 := hI.cell (i := 4) rfl); (try have c5 := hI.cell (i := 5) rfl); (try have c6 := hI.cell (i := 6) rfl); (try have c7 := hI.cell (i := 7) rfl); (try have c8 := hI.cell (i := 8) rfl); skip) | (go_at_call 38; (with_reducible refine (HSF.out _).mono ?_); rintro e w1 ⟨rfl, rfl⟩) | (refine listI_var rfl rfl 95 rfl _ _ rfl hI Tryz.zeroValue95 (fun _ => rfl) (fun _ => rfl) (by first | rfl | (simp only [hsz1]; first | done | rfl | kernel_rfl) | (simp only [hsz2]; first | done | rfl | kernel_rfl) | (simp only [hsz]; first | done | rfl | kernel_rfl) | kernel_rfl) (by first | exact info_mach (by assumption) | (simp only [hsz1]; kernel_rfl) | (simp only [hsz2]; kernel_rfl) | (simp only [hsz]; kernel_rfl) | kernel_rfl) (by first | (simp [Value.oneCell']; done) | exact HO1.out | exact HO2.out) fun gx w' hI' hb => ?_; (try clear hb); clear hI; have hI := hI'; clear hI'; (try simp only [mm, Act.put, Act.eval] at hI); (try clear c0); (try clear c1); (try clear c2); (try clear c3); (try clear c4); (try clear c5); (try clear c6); (try clear c7); (try clear c8); (try have c0 := hI.cell (i := 0) rfl); (try have c1 := hI.cell (i := 1) rfl); (try have c2 := hI.cell (i := 2) rfl); (try have c3 := hI.cell (i := 3) rfl); (try have c4 := hI.cell (i := 4) rfl); (try have c5 := hI.cell (i := 5) rfl); (try have c6 := hI.cell (i := 6) rfl); (try have c7 := hI.cell (i := 7) rfl); (try have c8 := hI.cell (i := 8) rfl); skip) | (go_at_call 40; (with_reducible refine (HPK.out _ (HE.out _ _ hI)).mono ?_); intro e w' hr; obtain ⟨rfl, hb⟩ := hr; have hI' := hI.on hb; (try clear hb); clear hI; have hI := hI'; clear hI'; (try simp only [mm, Act.put, Act.eval] at hI); (try clear c0); (try clear c1); (try clear c2); (try clear c3); (try clear c4); (try clear c5); (try clear c6); (try clear c7); (try clear c8); (try have c0 := hI.cell (i := 0) rfl); (try have c1 := hI.cell (i := 1) rfl); (try have c2 := hI.cell (i := 2) rfl); (try have c3 := hI.cell (i := 3) rfl); (try have c4 := hI.cell (i := 4) rfl); (try have c5 := hI.cell (i := 5) rfl); (try have c6 := hI.cell (i := 6) rfl); (try have c7 := hI.cell (i := 7) rfl); (try have c8 := hI.cell (i := 8) rfl); skip) | (refine listI rfl fun K hK => wpI_slice1 _ 3 _ rfl hI Tryz.underlying32 rfl (size := 1) (by kernel_rfl) rfl fun gy w' hI' hb => hK _ _ ?_; clear hK K; (try clear hb); clear hI; have hI := hI'; clear hI'; (try simp only [mm, Act.put, Act.eval] at hI); (try clear c0); (try clear c1); (try clear c2); (try clear c3); (try clear c4); (try clear c5); (try clear c6); (try clear c7); (try clear c8); (try have c0 := hI.cell (i := 0) rfl); (try have c1 := hI.cell (i := 1) rfl); (try have c2 := hI.cell (i := 2) rfl); (try have c3 := hI.cell (i := 3) rfl); (try have c4 := hI.cell (i := 4) rfl); (try have c5 := hI.cell (i := 5) rfl); (try have c6 := hI.cell (i := 6) rfl); (try have c7 := hI.cell (i := 7) rfl); (try have c8 := hI.cell (i := 8) rfl); skip) | (refine listI rfl fun K hK => wpI_app _ _ rfl el_I hI 3 rfl rfl (ys := [pk1]) rfl (hI.lies1 (i := 6) rfl _ (fun j hj => by rw [List.getElem?_toArray]; rfl)) rfl (by unfold maxLen; simp only [List.length_cons, List.length_nil]; omega) (by simp only [List.length_cons, List.length_nil]; omega) fun vn w' hI' => hK _ _ ?_; clear hK K; (try clear hb); clear hI; have hI := hI'; clear hI'; (try simp only [mm, Act.put, Act.eval] at hI); (try clear c0); (try clear c1); (try clear c2); (try clear c3); (try clear c4); (try clear c5); (try clear c6); (try clear c7); (try clear c8); (try have c0 := hI.cell (i := 0) rfl); (try have c1 := hI.cell (i := 1) rfl); (try have c2 := hI.cell (i := 2) rfl); (try have c3 := hI.cell (i := 3) rfl); (try have c4 := hI.cell (i := 4) rfl); (try have c5 := hI.cell (i := 5) rfl); (try have c6 := hI.cell (i := 6) rfl); (try have c7 := hI.cell (i := 7) rfl); (try have c8 := hI.cell (i := 8) rfl); skip) | fail)
                      go_roundw
                      case rel => exact ⟨j + 1, code ++ [pk1], by go_num, by omega, by rw [List.length_append, List.length_cons, List.length_nil]; omega, by rw [hj1]; exact HRN.out, hI.first [_, _, _, _] [_, _, _] rfl⟩
                      case measure => simp [intOf]; omega
                  · rw [cellK2_bad hc] at hok; exact hok.elim
          · obtain rfl : j = ls.length := by omega
            have hdj : decide ((ls.length : Int) < (ls.length : Int)) = false := by simp
            have hpr : pr = ⟨code, labs, 0, 0⟩ := by rw [HPL.out, hrun, show (ls.map lineK).drop ls.length = [] from List.drop_eq_nil_of_le (by rw [List.length_map]; exact Nat.le_refl _)]; rfl
            have HPR := Lib.hid hpr
            clear hpr hrun HPL
            (try have c0 := hI.cell (i := 0) rfl); (try have c1 := hI.cell (i := 1) rfl); (try have c2 := hI.cell (i := 2) rfl); (try have c3 := hI.cell (i := 3) rfl); (try have c4 := hI.cell (i := 4) rfl); (try have c5 := hI.cell (i := 5) rfl); (try have c6 := hI.cell (i := 6) rfl); (try have c7 := hI.cell (i := 7) rfl); (try have c8 := hI.cell (i := 8) rfl); skip
            go_wp2_with fail
            go_returns
            rw [HPR.out]
            exact ⟨_, _, rfl, hI.pick [3, 2] _ (by decide) rfl⟩
end Go.Proofs.YtbkjhdohkdeniaaGreatDoor
