/- What the parts say: The reader of a program: a line whole. Conditions: Go's tables and errors hold what they were laid with. -/
import Derived.Test.YtbkjhdohkdeniaaGreatDoorP26
import Derived.Test.YtbkjhdohkdeniaaGreatDoorP13
set_option linter.unusedVariables false
set_option linter.unusedSimpArgs false
namespace Go.Proofs.YtbkjhdohkdeniaaGreatDoor
open Go.RowKit
set_option maxRecDepth 100000
theorem c_cell {T : Nat → Prop} {w0 w : World} (HB : ∀ rs w', InvT T w0 rs w' → EnvE w') (gr : Nat) (vc vl vh : Value) (st : RdS) (n : Int) (s : List UInt8) (hs : s.length ≤ 80) (hc : st.code.length ≤ 1000) (hh : st.holes.length ≤ 1000) (hI : InvT T w0 (rdR gr vc vl vh st) w) :
    Calls Tryz.prog 83 #[.pointer (some ⟨gr, 0, none⟩), .int .i64 n, .string (str s)] w (RdRet T w0 gr (cellE (cellK s)) (rdNext st n (cellK s))) := by
  cases hwp : wordP.isPrefixOf s
  · rcases last_space s with ⟨hl, hno⟩ | ⟨a, b, hsab, hnb, hl⟩
    · exact c_cellN HB gr vc vl vh st n s hs hc hh hwp hno hl hI
    · cases hnm : nameB b
      · exact c_cellM HB gr vc vl vh st n s hs hc hh hwp a b hsab hnb hl hnm hI
      · rcases parseF_cases (a ++ [32, 48]) with ⟨i0, hi0, hp0⟩ | ⟨hi0, hp0⟩
        · by_cases h8 : i0.op = 8
          · obtain ⟨op, ia, ib, ic⟩ := i0
            dsimp only at h8
            subst h8
            exact c_cellH8 HB gr vc vl vh st n s hs hc hh hwp a b hsab hnb hl hnm ia ib ic hp0 hI
          · by_cases h9 : i0.op = 9
            · obtain ⟨op, ia, ib, ic⟩ := i0
              dsimp only at h9
              subst h9
              exact c_cellH9 HB gr vc vl vh st n s hs hc hh hwp a b hsab hnb hl hnm ia ib ic hp0 hI
            · exact c_cellQ HB gr vc vl vh st n s hs hc hh hwp a b hsab hnb hl hnm i0 hp0 h8 h9 hI
        · exact c_cellR HB gr vc vl vh st n s hs hc hh hwp a b hsab hnb hl hnm instZ hp0 hI
  · exact c_cellW HB gr vc vl vh st n s hs hc hh hwp hI
theorem lineK_large {s : List UInt8} (h : 80 < s.length) : lineK s = .large := by unfold lineK; rw [if_pos h]
theorem lineK_label {s : List UInt8} (h : ¬ 80 < s.length) (h2 : s.getLast? = some 58) : lineK s = .label s.dropLast := by unfold lineK; rw [if_neg h, if_pos h2]
theorem lineK_empty : lineK [] = .empty := rfl
theorem lineK_cell {s : List UInt8} (h : ¬ 80 < s.length) (h2 : ¬ s.getLast? = some 58) (h3 : ¬ s = []) : lineK s = cellK s := by unfold lineK cellK; rw [if_neg h, if_neg h2, if_neg h3]
theorem cellE_labErr (ls : List Lab) (s : List UInt8) : labErr ls (cellK s) = cellE (cellK s) := by
  unfold cellK
  repeat' split
  all_goals rfl
theorem suffix_colon (s : List UInt8) : Lib.hasSuffix s [58] = decide (s.getLast? = some 58) ∧ (s.getLast? = some 58 → Lib.trimSuffix s [58] = s.dropLast) ∧ (¬ s.getLast? = some 58 → Lib.trimSuffix s [58] = s) := by
  have h : Lib.hasSuffix s [58] = decide (s.getLast? = some 58) := by
    unfold Lib.hasSuffix
    rw [Bool.eq_iff_iff, decide_eq_true_eq, List.isSuffixOf_iff_suffix]
    constructor
    · rintro ⟨t, rfl⟩; simp
    · intro h
      obtain ⟨t, rfl⟩ := List.getLast?_eq_some_iff.1 h
      exact ⟨t, rfl⟩
  refine ⟨h, fun hl => ?_, fun hl => ?_⟩
  · unfold Lib.trimSuffix
    rw [h, decide_eq_true hl, if_pos rfl, List.dropLast_eq_take]; rfl
  · unfold Lib.trimSuffix
    rw [h, decide_eq_false hl, if_neg (by decide)]
theorem c_CutC (s : List UInt8) (hs : s.length ≤ 1000) (w : World) : Calls Tryz.prog 81 #[.string (str s), .string ⟨#[58]⟩] w fun e w' => e = .returned (.tuple #[.string (str (Lib.trimSuffix s [58])), .bool (decide (s.getLast? = some 58))]) ∧ w = w' := by
  refine (Tryz.strings_CutSuffix (str s) ⟨#[58]⟩ w (by rw [str_size]; omega)).mono ?_
  rintro e w' ⟨rfl, rfl⟩
  refine ⟨?_, rfl⟩
  show Ending.returned (.tuple #[.string (str (Lib.trimSuffix (str s).data.toList [58])), .bool (Lib.hasSuffix (str s).data.toList [58])]) = _
  rw [str_list, (suffix_colon s).1]
set_option maxHeartbeats 4000000 in
theorem c_line {T : Nat → Prop} {w0 w : World} (HB : ∀ rs w', InvT T w0 rs w' → EnvE w') (gr : Nat) (vc vl vh : Value) (st : RdS) (n : Int) (s : List UInt8) (hs : s.length ≤ 4000000000) (hn : st.labs.length ≤ 20) (hp : ∀ x ∈ st.labs, 0 ≤ x.pos) (hc : st.code.length ≤ 1000) (hh : st.holes.length ≤ 1000) (hI : InvT T w0 (rdR gr vc vl vh st) w) :
    Calls Tryz.prog 30 #[.pointer (some ⟨gr, 0, none⟩), .int .i64 n, .string (str s)] w (RdRet T w0 gr (labErr st.labs (lineK s)) (rdNext st n (lineK s))) := by
  have hzs : (str s).size = s.length := str_size s
  by_cases hlg : 80 < s.length
  · have hK := lineK_large hlg
    rw [hK]
    have hd : (80 : Int) < (s.length : Int) := by omega
    go_enter Tryz.func30, Tryz.ntmps30
    go_wp2_with fail
    go_returns
    exact rdBad (show labErr st.labs LineK.large ≠ 0 from by show (2 : Int) ≠ 0; decide) hI
  · have hd : decide ((80 : Int) < (s.length : Int)) = false := by simp; omega
    have HCC := Lib.hid (c_CutC s (by omega))
    by_cases hl : s.getLast? = some 58
    · have hK := lineK_label hlg hl
      rw [(suffix_colon s).2.1 hl, decide_eq_true hl] at HCC
      rw [hK]
      have HLB := Lib.hid (fun (w' : World) h => c_label (T := T) (w0 := w0) (w := w') gr vc vl vh st s.dropLast hn hp hc h)
      clear hl hK hlg
      go_enter Tryz.func30, Tryz.ntmps30
      go_wp2_with (first | (go_at_call 81; (with_reducible refine (HCC.out _).mono ?_); rintro e w1 ⟨rfl, rfl⟩) | (go_at_call 82; refine (HLB.out _ hI).mono ?_; rintro e w' ⟨rfl, hr1, hr2⟩) | fail)
      go_returns
      exact ⟨rfl, hr1, hr2⟩
    · rw [(suffix_colon s).2.2 hl, decide_eq_false hl] at HCC
      by_cases he : s = []
      · subst he
        have hse : (str []).toList.isEmpty = true := by rw [Lib.toList_data, str_list]; rfl
        rw [lineK_empty]
        go_enter Tryz.func30, Tryz.ntmps30
        go_wp2_with (first | (go_at_call 81; (with_reducible refine (HCC.out _).mono ?_); rintro e w1 ⟨rfl, rfl⟩) | fail)
        go_returns
        exact rdOk hI hI
      · have hK := lineK_cell hlg hl he
        rw [hK, cellE_labErr]
        have hse : (str s).toList.isEmpty = false := by
          rw [Lib.toList_data, str_list]
          cases s with
          | nil => exact absurd rfl he
          | cons => rfl
        have HCE := Lib.hid (fun (w' : World) h => c_cell (T := T) (w0 := w0) (w := w') HB gr vc vl vh st n s (by omega) hc hh h)
        clear hK he hl hlg
        go_enter Tryz.func30, Tryz.ntmps30
        go_wp2_with (first | (go_at_call 81; (with_reducible refine (HCC.out _).mono ?_); rintro e w1 ⟨rfl, rfl⟩) | (go_at_call 83; refine (HCE.out _ hI).mono ?_; rintro e w' ⟨rfl, hr1, hr2⟩) | fail)
        go_returns
        exact ⟨rfl, hr1, hr2⟩
end Go.Proofs.YtbkjhdohkdeniaaGreatDoor
namespace Go.Proofs.YtbkjhdohkdeniaaGreatDoor
open Go.RowKit
set_option maxRecDepth 100000
structure RdK (ks : List LineK) (k : Nat) (st : RdS) : Prop where
  run : run1 ks ⟨0, []⟩ 0 = run1 (ks.drop k) ⟨st.code.length, st.labs⟩ k
  code : st.code = code0 (ks.take k)
  holes : st.holes = holes0 (ks.take k) 0 0
  nl : st.labs.length ≤ 20
  pos : ∀ x ∈ st.labs, 0 ≤ x.pos ∧ x.pos ≤ k
theorem code0_len (ks : List LineK) : (code0 ks).length ≤ ks.length := by
  induction ks with
  | nil => exact Nat.le_refl 0
  | cons k ks ih => cases k <;> simp [code0] <;> omega
theorem holes0_len (ks : List LineK) : ∀ p n, (holes0 ks p n).length ≤ ks.length := by
  induction ks with
  | nil => intro p n; exact Nat.le_refl 0
  | cons k ks ih => intro p n; cases k <;> simp only [holes0, List.length_cons] <;> first | exact Nat.succ_le_succ (ih _ _) | exact Nat.le_succ_of_le (ih _ _)
theorem RdK.nc {ks : List LineK} {k : Nat} {st : RdS} (h : RdK ks k st) : st.code.length ≤ k := by
  rw [h.code]; have := code0_len (ks.take k); have := List.length_take_le k ks; omega
theorem RdK.nh {ks : List LineK} {k : Nat} {st : RdS} (h : RdK ks k st) : st.holes.length ≤ k := by
  rw [h.holes]; have := holes0_len (ks.take k) 0 0; have := List.length_take_le k ks; omega
theorem RdK.zero (ks : List LineK) : RdK ks 0 ⟨[], [], []⟩ := ⟨rfl, rfl, rfl, Nat.zero_le _, fun x h => by cases h⟩
theorem RdK.bad {ks : List LineK} {k : Nat} {st : RdS} (h : RdK ks k st) {x : LineK} (hx : ks[k]? = some x) (he : labErr st.labs x ≠ 0) : progL ks = ⟨[], [], k + 1, labErr st.labs x⟩ := by
  unfold progL
  rw [h.run, run1_next _ _ hx, if_pos he]
theorem RdK.next {ks : List LineK} {k : Nat} {st : RdS} (h : RdK ks k st) {x : LineK} (hx : ks[k]? = some x) (he : labErr st.labs x = 0) : RdK ks (k + 1) (rdNext st (k + 1) x) := by
  have htk : ks.take (k + 1) = ks.take k ++ [x] := by rw [List.take_add_one, hx]; rfl
  have hkl : (ks.take k).length = k := by rw [List.length_take]; have := (List.getElem?_eq_some_iff.1 hx).1; omega
  have hr := h.run
  rw [run1_next _ _ hx, if_neg (by rw [he]; decide)] at hr
  have hnc := h.nc
  have hpos' : ∀ y ∈ st.labs, 0 ≤ y.pos ∧ y.pos ≤ ((k + 1 : Nat) : Int) := fun y hy => by have := h.pos y hy; omega
  have hcd : (code0 (ks.take k)).length = st.code.length := by rw [h.code]
  have hk1 : ((k + 1 : Nat) : Int) = (k : Int) + 1 := by omega
  cases x with
  | large => exact absurd he (by show (2 : Int) ≠ 0; decide)
  | bad => exact absurd he (by show (3 : Int) ≠ 0; decide)
  | empty => exact ⟨by rw [hk1]; exact hr, by rw [htk, code0_app]; simp [rdNext, code0, h.code], by rw [htk, holes0_app]; simp [rdNext, holes0, h.holes], h.nl, hpos'⟩
  | label nm =>
    refine ⟨by rw [hk1]; exact hr, by rw [htk, code0_app]; simp [rdNext, code0, h.code], by rw [htk, holes0_app]; simp [rdNext, holes0, h.holes], ?_, fun y hy => ?_⟩
    · show (st.labs ++ [_]).length ≤ 20
      have hnl := h.nl
      rw [labErr_label] at he
      split at he
      · cases he
      · split at he
        · cases he
        · split at he
          · cases he
          · simp only [List.length_append, List.length_cons, List.length_nil]; omega
    · rcases List.mem_append.1 hy with hy | hy
      · exact hpos' y hy
      · obtain rfl := List.mem_singleton.1 hy
        dsimp only; omega
  | cell v =>
    refine ⟨?_, by rw [htk, code0_app]; simp [rdNext, code0, h.code], by rw [htk, holes0_app]; simp [rdNext, holes0, h.holes], h.nl, hpos'⟩
    rw [hr, hk1]
    show run1 _ (step1 _ _) _ = _
    simp [step1, rdNext]
  | hole i nm =>
    refine ⟨?_, by rw [htk, code0_app]; simp [rdNext, code0, h.code], ?_, h.nl, hpos'⟩
    · rw [hr, hk1]
      show run1 _ (step1 _ _) _ = _
      simp [step1, rdNext]
    · rw [htk, holes0_app, hcd, hkl]
      show st.holes ++ [_] = _
      rw [h.holes]
      simp [holes0]
theorem RdK.last {ks : List LineK} {st : RdS} (h : RdK ks ks.length st) : progL ks = match runH st.labs st.holes st.code with | .inl (n, e) => ⟨[], [], n, e⟩ | .inr code => ⟨code, st.labs, 0, 0⟩ := by
  have hc := h.code
  have hh := h.holes
  rw [List.take_length] at hc hh
  have hrr := runH_run2 st.labs ks [] 0
  have hr := h.run
  rw [List.drop_length] at hr
  unfold progL
  rw [hr]
  dsimp only [run1]
  rw [hc, hh]
  rw [← hrr]
  rfl
theorem RdK.hole {ks : List LineK} {k : Nat} {st : RdS} (h : RdK ks k st) {x : Hole} (hx : x ∈ st.holes) : 0 ≤ x.pos ∧ x.pos < st.code.length := by
  rw [h.holes] at hx
  have := holes0_names _ _ _ x hx
  rw [← h.code] at this
  omega
theorem runH_next {ls : List Lab} {hs : List Hole} {j : Nat} {x : Hole} {code : List Int} (hx : hs[j]? = some x) : runH ls (hs.drop j) code = match findL ls x.name with
    | none => .inl (x.line, 7)
    | some q => if instOk { x.i with c := q - x.pos } = true then runH ls (hs.drop (j + 1)) (code.set x.pos.toNat (packF { x.i with c := q - x.pos }).1) else .inl (x.line, 13) := by
  obtain ⟨hj, rfl⟩ := List.getElem?_eq_some_iff.1 hx
  rw [List.drop_eq_getElem_cons hj]
  rfl
theorem findL_in {ls : List Lab} {nm : List UInt8} {p : Int} (h : findL ls nm = some p) : ∃ x ∈ ls, x.pos = p := by
  unfold findL at h
  cases hf : ls.find? fun l => l.name == nm with
  | none => rw [hf] at h; cases h
  | some x => rw [hf] at h; exact ⟨x, List.mem_of_find?_eq_some hf, Option.some.inj h⟩
section
variable {P : Program} {o : Oper} {a : Act} {T : Nat → Prop} {w0 w : World} {rs : List Res} {K : Act → World → Prop} {Q : Exit → Act → World → Prop} {α : Type} {enc : α → List Value} {t e : TypeId} {bytes : Nat}
theorem wpI_setRow1 (x y : Operand) (ho : o.op = .store e x y) (E : ElT P enc t e 1 bytes) (hI : InvT T w0 rs w) (idx : Nat) {g n c i off : Nat} {xs : List α} (v : α) {u : Value} (hu : enc v = [u]) (h1 : u.oneCell' = true) (hi : rs[idx]? = some (.row e 1 (.slice (some ⟨g, 0, none⟩) n c) xs.length (xs.flatMap enc)))
    (hii : i < xs.length) (hoff : off = i) (hx : a.eval x = .pointer (some ⟨g, off, none⟩)) (hy : a.eval y = u)
    (h : ∀ w', InvT T w0 (rs.set idx (.row e 1 (.slice (some ⟨g, 0, none⟩) n c) (xs.set i v).length ((xs.set i v).flatMap enc))) w' → K (a.put o.dst undef) w') : o.wp P a w K Q := by
  subst hoff
  have hO := hI.own0 hi
  have hn : n = xs.length := (hO.at_ (List.getElem?_eq_getElem hii)).choose_spec.2.2.2.2
  subst hn
  obtain ⟨iT, z, hIi, hz, hs, hby, hzs⟩ := E.info
  have hle : off * 1 + 1 ≤ xs.length * 1 := by omega
  have hthere : w.there g off 1 := by
    intro j hj
    obtain rfl : j = 0 := by omega
    obtain ⟨g', hA, _, _, hf, _⟩ := hO.at_ (List.getElem?_eq_getElem hii)
    cases hA
    refine ⟨?_, hf _⟩
    have hb : off < (xs.flatMap enc).length := by rw [flat_len E.len]; omega
    have := World.ownsRow.cells hO (g := g) rfl off _ (List.getElem?_eq_getElem hb)
    rw [Addr.add_lit, Nat.zero_add] at this
    rw [Nat.add_zero, this]; rfl
  unfold Oper.wp execOp
  simp only [ho, hx, hy, Instr.storeAt, Instr.sureAddr, Sem.run_bind, Sem.run_pure, Result.andThen_ok, run_storeVar_val (P := P) w g off e u hthere (by rw [hIi]; simp [hs]) h1]
  obtain ⟨h2, h3⟩ := grown_setCells (g := g) [u] off w
  refine h _ (hI.turn hi (row := some g) h2 (fun k hk => .inl hk) ?_ fun k hk => .inl hk)
  show (w.setCells g off [u]).ownsRow 0 e 1 _ (xs.set off v).length ((xs.set off v).flatMap enc)
  rw [List.length_set, ← flat_set_all E.len hii v, hu, Nat.mul_one]
  exact ownsRow_setCells _ _ _ _ hO (by rw [flat_len E.len]; simp only [List.length_cons, List.length_nil]; omega)
end
theorem ButT.nil {T : Nat → Prop} {w0 w : World} (h : ButT T w0 w) : InvT T w0 [] w := ⟨h, fun i r h => by simp at h, fun i r h => by simp at h, fun i j r s _ h => by simp at h⟩
def ProgRet (w : World) (p : ProgR) (e : Ending) (w' : World) : Prop := ∃ vc vl, e = .returned (.tuple #[vc, vl, .int .i64 p.line, .int .i64 p.err]) ∧ Inv w [.row 3 1 vc p.code.length (p.code.flatMap encI), .row 47 2 vl p.labs.length (p.labs.flatMap encLab)] w'
theorem ProgRet.bad {w w' : World} {rs : List Res} {n e : Int} {p : ProgR} (hp : p = ⟨[], [], n, e⟩) (h : Inv w rs w') : ProgRet w p (.returned (.tuple #[.slice none 0 0, .slice none 0 0, .int .i64 n, .int .i64 e])) w' := by
  subst hp
  exact ⟨_, _, rfl, (((h.first [] rs rfl).nilrow 3 1).nilrow 47 2)⟩
theorem rdR_perm {gr gl : Nat} {vc vl vh : Value} {st : RdS} {cs : Array Value} : ([.box gl 9 cs, .box gr 92 #[vc, vl, vh], .row 3 1 vc st.code.length (st.code.flatMap encI), .row 47 2 vl st.labs.length (st.labs.flatMap encLab), .row 97 7 vh st.holes.length (st.holes.flatMap encHole)] : List Res).Perm (rdR gr vc vl vh st ++ [.box gl 9 cs]) := by
  unfold rdR
  exact (List.perm_append_comm (l₁ := [_]) (l₂ := [_, _, _, _]))
set_option maxHeartbeats 8000000 in
theorem c_prog_Read (s : List UInt8) (hs : s.length ≤ 4000000000) (w : World) (hE : EnvE w) : Calls Tryz.prog 10 #[.string (str s)] w (ProgRet w (progR s)) := by
  have hI := Inv.start w
  have HS := Lib.hid (fun (w' : World) (hI : Inv w [] w') => c_SplitB hI hE.envT.env 10 s hs)
  have hlen : ∀ (k : Nat) x, (splitL 10 s)[k]? = some x → x.length ≤ 4000000000 := fun k x hx => by
    have := splitL_le (List.mem_of_getElem? hx); omega
  have HLEN := Lib.hid hlen
  have HP := Lib.hid (show progR s = if 150 < (splitL 10 s).length then ⟨[], [], 0, 2⟩ else progL ((splitL 10 s).map lineK) from rfl)
  clear hlen hs
  generalize splitL 10 s = ls at *
  generalize progR s = pr at *
  rcases Nat.lt_or_ge 150 ls.length with hbig | hsm
  · have HQ := Lib.hid (show pr = ⟨[], [], 0, 2⟩ by rw [HP.out, if_pos hbig])
    have hb1 : (150 : Int) < (ls.length : Int) := by omega
    go_enter Tryz.func10, Tryz.ntmps10
    go_wp2_with (first | (go_at_call 29; refine (HS.out _ hI).mono ?_; rintro e w' ⟨gl, rfl, hI'⟩; (try clear hb); clear hI; have hI := hI'; clear hI'; (try simp only [mm, Act.put, Act.eval] at hI); (try clear c0); (try clear c1); (try clear c2); (try clear c3); (try clear c4); (try clear c5); (try clear c6); (try have c0 := hI.cell (i := 0) rfl); (try have c1 := hI.cell (i := 1) rfl); (try have c2 := hI.cell (i := 2) rfl); (try have c3 := hI.cell (i := 3) rfl); (try have c4 := hI.cell (i := 4) rfl); (try have c5 := hI.cell (i := 5) rfl); (try have c6 := hI.cell (i := 6) rfl); skip) | fail)
    go_returns
    exact ProgRet.bad HQ.out hI
  · have HQ := Lib.hid (show pr = progL (ls.map lineK) by rw [HP.out, if_neg (by omega)])
    have hb1 : decide ((150 : Int) < (ls.length : Int)) = false := by simp; omega
    have hb2 : ¬ (150 : Int) < (ls.length : Int) := by omega
    clear HP
    have HB := Lib.hid (fun rs w' (h : Inv w rs w') => hE.inv h)
    go_enter Tryz.func10, Tryz.ntmps10
    go_wp2_with (first | (go_at_call 29; refine (HS.out _ hI).mono ?_; rintro e w' ⟨gl, rfl, hI'⟩; (try clear hb); clear hI; have hI := hI'; clear hI'; (try simp only [mm, Act.put, Act.eval] at hI); (try clear c0); (try clear c1); (try clear c2); (try clear c3); (try clear c4); (try clear c5); (try clear c6); (try have c0 := hI.cell (i := 0) rfl); (try have c1 := hI.cell (i := 1) rfl); (try have c2 := hI.cell (i := 2) rfl); (try have c3 := hI.cell (i := 3) rfl); (try have c4 := hI.cell (i := 4) rfl); (try have c5 := hI.cell (i := 5) rfl); (try have c6 := hI.cell (i := 6) rfl); skip) | (refine listI rfl fun K hK => wpI_box _ _ rfl hI rfl fun gx w' hI' hb => hK _ _ ?_; clear hK K; (try clear hb); clear hI; have hI := hI'; clear hI'; (try simp only [mm, Act.put, Act.eval] at hI); (try clear c0); (try clear c1); (try clear c2); (try clear c3); (try clear c4); (try clear c5); (try clear c6); (try have c0 := hI.cell (i := 0) rfl); (try have c1 := hI.cell (i := 1) rfl); (try have c2 := hI.cell (i := 2) rfl); (try have c3 := hI.cell (i := 3) rfl); (try have c4 := hI.cell (i := 4) rfl); (try have c5 := hI.cell (i := 5) rfl); (try have c6 := hI.cell (i := 6) rfl); skip) | (refine listI rfl fun K hK => wpI_box1 _ _ rfl hI rfl rfl fun gx w' hI' hb => hK _ _ ?_; clear hK K; (try clear hb); clear hI; have hI := hI'; clear hI'; (try simp only [mm, Act.put, Act.eval] at hI); (try clear c0); (try clear c1); (try clear c2); (try clear c3); (try clear c4); (try clear c5); (try clear c6); (try have c0 := hI.cell (i := 0) rfl); (try have c1 := hI.cell (i := 1) rfl); (try have c2 := hI.cell (i := 2) rfl); (try have c3 := hI.cell (i := 3) rfl); (try have c4 := hI.cell (i := 4) rfl); (try have c5 := hI.cell (i := 5) rfl); (try have c6 := hI.cell (i := 6) rfl); skip) | fail)
    obtain ⟨gr, rfl⟩ : ∃ y, y = gx := ⟨_, rfl⟩
    have hI' := (((hI.nilrow 3 1).nilrow 47 2).nilrow 97 7)
    simp only [List.cons_append, List.nil_append] at hI'
    replace hI := hI'.perm (rdR_perm (gr := gr) (gl := gl) (vc := .slice none 0 0) (vl := .slice none 0 0) (vh := .slice none 0 0) (st := ⟨[], [], []⟩) (cs := strCells ls))
    clear hI'
    (try clear c0); (try clear c1); (try clear c2); (try clear c3); (try clear c4); (try clear c5); (try clear c6); skip
    go_loopw [2, 3, 4, 5, 8, 9, 10, 25] (fun _ _ _ _ _ _ _ v wr => ∃ (k : Nat) (st : RdS) (vc vl vh : Value), v = .int .i64 k ∧ k ≤ ls.length ∧ RdK (ls.map lineK) k st ∧ Inv w (rdR gr vc vl vh st ++ [.box gl 9 (strCells ls)]) wr) (fun _ _ _ _ _ _ _ v _ => (ls.length - intOf v).toNat)
    case atStart => exact ⟨0, _, _, _, _, rfl, by omega, RdK.zero _, hI⟩
    case round =>
      clear hI
      obtain ⟨k, st, vc, vl, vh, rfl, hk, hR, hI⟩ := hrel
      have HRK := Lib.hid hR
      rcases Nat.lt_or_ge k ls.length with hlt | hge
      · obtain ⟨x, hx⟩ : ∃ x, ls[k]? = some x := ⟨_, List.getElem?_eq_getElem hlt⟩
        have HXM := Lib.hid (show (ls.map lineK)[k]? = some (lineK x) by rw [List.getElem?_map, hx]; rfl)
        have hxl := HLEN.out k x hx
        have hnc := hR.nc
        have hnh := hR.nh
        have HLN := Lib.hid (fun (w' : World) (hI : Inv w (rdR gr vc vl vh st ++ [.box gl 9 (strCells ls)]) w') => c_line (T := Blks (rdR gr vc vl vh st)) (w0 := w') (w := w') (fun rs w2 h => HB.out _ _ (hI.frame h)) gr vc vl vh st (k + 1) x hxl hR.nl (fun y hy => (hR.pos y hy).1) (by omega) (by omega) hI.enter)
        obtain ⟨lc, hlc⟩ : ∃ lc, strCells ls = lc := ⟨_, rfl⟩
        have hcx : lc[k]? = some (.string (str x)) := by rw [← hlc]; unfold strCells; rw [List.getElem?_toArray, List.getElem?_map, hx]; rfl
        rw [hlc] at hI HLN
        have HLC := Lib.hid hlc
        clear hR hlc hx hxl hnc hnh
        by_cases he : labErr st.labs (lineK x) = 0
        · have HNX := Lib.hid (HRK.out.next HXM.out he)
          rw [he] at HLN
          clear he
          unfold rdR at hI
          (try clear c0); (try clear c1); (try clear c2); (try clear c3); (try clear c4); (try clear c5); (try clear c6); (try have c0 := hI.cell (i := 0) rfl); (try have c1 := hI.cell (i := 1) rfl); (try have c2 := hI.cell (i := 2) rfl); (try have c3 := hI.cell (i := 3) rfl); (try have c4 := hI.cell (i := 4) rfl); (try have c5 := hI.cell (i := 5) rfl); (try have c6 := hI.cell (i := 6) rfl); skip
          generalize str x = sx at *
          generalize lineK x = lx at *
          go_wp2_with (first | (go_at_call 30; refine (HLN.out _ hI).mono ?_; rintro e w' ⟨rfl, hr1, -⟩; obtain ⟨vc', vl', vh', hr⟩ := hr1 rfl; have hI' := InvT.frame (rc := rdR gr vc vl vh st) hI hr; clear hr hr1; clear hI; have hI := hI'; clear hI'; (try clear c0); (try clear c1); (try clear c2); (try clear c3); (try clear c4); (try clear c5); (try clear c6); skip) | fail)
          go_roundw
          case rel =>
            rw [HLC.out.symm] at hI
            exact ⟨k + 1, _, vc', vl', vh', by go_num, by omega, HNX.out, hI⟩
          case measure => simp [intOf]; omega
        · have HNX := Lib.hid (HQ.out.trans (HRK.out.bad HXM.out he))
          generalize labErr st.labs (lineK x) = le at *
          have hd : (le == 0) = false := by simp; exact he
          unfold rdR at hI
          (try clear c0); (try clear c1); (try clear c2); (try clear c3); (try clear c4); (try clear c5); (try clear c6); (try have c0 := hI.cell (i := 0) rfl); (try have c1 := hI.cell (i := 1) rfl); (try have c2 := hI.cell (i := 2) rfl); (try have c3 := hI.cell (i := 3) rfl); (try have c4 := hI.cell (i := 4) rfl); (try have c5 := hI.cell (i := 5) rfl); (try have c6 := hI.cell (i := 6) rfl); skip
          generalize str x = sx at *
          generalize lineK x = lx at *
          go_wp2_with (first | (go_at_call 30; refine (HLN.out _ hI).mono ?_; rintro e w' ⟨rfl, -, hr1⟩; have hI' := InvT.frame (rc := rdR gr vc vl vh st) hI hr1.nil; clear hr1; clear hI; have hI := hI'; clear hI'; (try clear c0); (try clear c1); (try clear c2); (try clear c3); (try clear c4); (try clear c5); (try clear c6); skip) | fail)
          go_returns
          exact ProgRet.bad HNX.out hI
      · obtain rfl : k = ls.length := by omega
        have hdk : decide ((ls.length : Int) < (ls.length : Int)) = false := by simp
        have hPL := HQ.out.trans (RdK.last (by rw [List.length_map]; exact hR))
        have hhp := fun (x : Hole) h => hR.hole (x := x) h
        have hlp := hR.pos
        have hnc := hR.nc
        have hnh := hR.nh
        have hnl := hR.nl
        have HE := Lib.hid (fun (w' : World) (rs : List Res) (hI : Inv w rs w') => (HB.out _ _ hI).envT.env)
        clear HRK hR HQ HLEN HS
        have hI0 := hI.first (rdR gr vc vl vh st) _ rfl
        replace hI := hI0
        clear hI0
        obtain ⟨code, labs, holes⟩ := st
        dsimp only at *
        have HPL := Lib.hid hPL
        have HHP := Lib.hid hhp
        have HLP := Lib.hid hlp
        clear hPL hhp hlp HB
        unfold rdR at hI
        dsimp only at hI
        obtain ⟨X, cx, hx⟩ := (hI.own0 (enc := encHole) (xs := holes) (size := 7) (i := 3) rfl).form
        subst hx
        (try clear c0); (try clear c1); (try clear c2); (try clear c3); (try clear c4); (try clear c5); (try clear c6); (try have c0 := hI.cell (i := 0) rfl); (try have c1 := hI.cell (i := 1) rfl); (try have c2 := hI.cell (i := 2) rfl); (try have c3 := hI.cell (i := 3) rfl); (try have c4 := hI.cell (i := 4) rfl); (try have c5 := hI.cell (i := 5) rfl); (try have c6 := hI.cell (i := 6) rfl); skip
        go_wp2_with fail
        go_loopw [2, 3, 4, 5, 12, 13, 14, 15, 46] (fun _ _ _ _ _ _ _ _ v wr => ∃ (j : Nat) (cd : List Int), v = .int .i64 j ∧ j ≤ holes.length ∧ cd.length = code.length ∧ runH labs holes code = runH labs (holes.drop j) cd ∧ Inv w (rdR gr vc vl (.slice X holes.length cx) ⟨cd, labs, holes⟩) wr) (fun _ _ _ _ _ _ _ _ v _ => (holes.length - intOf v).toNat)
        case atStart => exact ⟨0, code, rfl, by omega, rfl, rfl, hI⟩
        case round =>
          clear hI
          (try clear c0)
          obtain ⟨j, cd, rfl, hj, hcd, hrun, hI⟩ := hrel
          have HR := Lib.hid hrun
          clear hrun
          unfold rdR at hI
          dsimp only at hI
          rcases Nat.lt_or_ge j holes.length with hlt | hge
          · obtain ⟨b, o, x, rfl, hb, hx, q0, q1, q2, q3, q4, q5, q6⟩ := ((hI.own0 (enc := encHole) (xs := holes) (size := 7) (i := 3) rfl).liesB len_Hole rfl).cellsHole hlt
            have hrn := runH_next (ls := labs) (code := cd) hx
            obtain ⟨hp0, hp1⟩ := HHP.out x (List.mem_of_getElem? hx)
            obtain ⟨ln, ps, ⟨op, ia, ib, ic⟩, nm⟩ := x
            dsimp only at *
            obtain ⟨p, rfl⟩ : ∃ p : Nat, ps = (p : Int) := ⟨ps.toNat, by omega⟩
            have hpl : p < cd.length := by omega
            have hpl2 : (p : Int) < (cd.length : Int) := by omega
            have hpl3 : p < code.length := by omega
            have hpl4 : (p : Int) < (code.length : Int) := by omega
            obtain ⟨gc, cc, hvc⟩ := hI.form0 (enc := encI) (i := 1) rfl (by omega)
            subst hvc
            have HF := Lib.hid (fun (w' : World) (rs : List Res) (hI : Inv w (rdR gr (.slice (some ⟨gc, 0, none⟩) cd.length cc) vl (.slice (some ⟨b, o, none⟩) holes.length cx) ⟨cd, labs, holes⟩ ++ rs) w') => c_find (T := Blks (rdR gr (.slice (some ⟨gc, 0, none⟩) cd.length cc) vl (.slice (some ⟨b, o, none⟩) holes.length cx) ⟨cd, labs, holes⟩)) gr _ vl _ ⟨cd, labs, holes⟩ nm (by show labs.length ≤ _; omega) hI.enter)
            dsimp only at HF
            have HRN := Lib.hid (HR.out.trans hrn)
            clear hrn hx hp0 hp1
            (try have c0 := hI.cell (i := 0) rfl); (try have c1 := hI.cell (i := 1) rfl); (try have c2 := hI.cell (i := 2) rfl); (try have c3 := hI.cell (i := 3) rfl); (try have c4 := hI.cell (i := 4) rfl); (try have c5 := hI.cell (i := 5) rfl); (try have c6 := hI.cell (i := 6) rfl); skip
            cases hfl : findL labs nm with
            | none =>
              rw [hfl] at HF HRN
              dsimp only [Option.getD_none] at HF HRN
              clear hfl
              generalize str nm = sn at *
              go_wp2_with (first | (refine listI_var rfl rfl 97 rfl _ _ rfl hI Tryz.zeroValue97 (fun _ => rfl) (fun _ => rfl) (by first | rfl | (simp only [hsz1]; first | done | rfl | kernel_rfl) | (simp only [hsz2]; first | done | rfl | kernel_rfl) | (simp only [hsz]; first | done | rfl | kernel_rfl) | kernel_rfl) (by first | exact info_mach (by assumption) | (simp only [hsz1]; kernel_rfl) | (simp only [hsz2]; kernel_rfl) | (simp only [hsz]; kernel_rfl) | kernel_rfl) (by first | (simp [Value.oneCell']; done) | exact HO1.out | exact HO2.out) fun gx w' hI' hb => ?_; (try clear hb); clear hI; have hI := hI'; clear hI'; (try simp only [mm, Act.put, Act.eval] at hI); (try clear c0); (try clear c1); (try clear c2); (try clear c3); (try clear c4); (try clear c5); (try clear c6); (try have c0 := hI.cell (i := 0) rfl); (try have c1 := hI.cell (i := 1) rfl); (try have c2 := hI.cell (i := 2) rfl); (try have c3 := hI.cell (i := 3) rfl); (try have c4 := hI.cell (i := 4) rfl); (try have c5 := hI.cell (i := 5) rfl); (try have c6 := hI.cell (i := 6) rfl); skip) | (go_at_call 31; refine (HF.out _ [_] hI).mono ?_; rintro e w' ⟨rfl, hr⟩; have hI' := InvT.frame (rc := rdR gr (.slice (some ⟨gc, 0, none⟩) cd.length cc) vl (.slice (some ⟨b, o, none⟩) holes.length cx) ⟨cd, labs, holes⟩) hI hr; clear hr; unfold rdR at hI'; simp only [List.cons_append, List.nil_append] at hI'; (try clear hb); clear hI; have hI := hI'; clear hI'; (try simp only [mm, Act.put, Act.eval] at hI); (try clear c0); (try clear c1); (try clear c2); (try clear c3); (try clear c4); (try clear c5); (try clear c6); (try have c0 := hI.cell (i := 0) rfl); (try have c1 := hI.cell (i := 1) rfl); (try have c2 := hI.cell (i := 2) rfl); (try have c3 := hI.cell (i := 3) rfl); (try have c4 := hI.cell (i := 4) rfl); (try have c5 := hI.cell (i := 5) rfl); (try have c6 := hI.cell (i := 6) rfl); skip) | fail)
              (refine wp_region_K [4] (by kernel_rfl) hI fun w' hI' hHeld => ?_; (try clear hb); clear hI; have hI := hI'; clear hI'; (try simp only [mm, Act.put, Act.eval] at hI); (try clear c0); (try clear c1); (try clear c2); (try clear c3); (try clear c4); (try clear c5); (try clear c6); (try have c0 := hI.cell (i := 0) rfl); (try have c1 := hI.cell (i := 1) rfl); (try have c2 := hI.cell (i := 2) rfl); (try have c3 := hI.cell (i := 3) rfl); (try have c4 := hI.cell (i := 4) rfl); (try have c5 := hI.cell (i := 5) rfl); (try have c6 := hI.cell (i := 6) rfl); skip)
              (refine tk 0 ?_; (try simp only [np, Act.put])); (refine tk 1 ?_; (try simp only [np, Act.put])); (refine tk 2 ?_; (try simp only [np, Act.put])); (refine tk 3 ?_; (try simp only [np, Act.put])); (refine tk 4 ?_; (try simp only [np, Act.put])); (refine tk 5 ?_; (try simp only [np, Act.put]))
              refine wpAnyH_done (by kernel_rfl) ?_ _
              clear hHeld
              go_wp2_with fail
              go_returns
              exact ProgRet.bad (by rw [HPL.out, HRN.out]) hI
            | some q =>
              rw [hfl] at HF HRN
              dsimp only [Option.getD_some] at HF HRN
              obtain ⟨y, hym, hyq⟩ := findL_in hfl
              have hqq := HLP.out y hym
              have hq0 : 0 ≤ q := by omega
              have hq1 : q ≤ 150 := by omega
              have hqd : decide (q < 0) = false := by simp; omega
              have hp150 : p ≤ 150 := by omega
              clear hfl hym hyq hqq y
              have HPK := Lib.hid (fun w h => c_inst_Pack ⟨op, ia, ib, q - p⟩ w h)
              dsimp only at HPK
              generalize str nm = sn at *
              cases hok : instOk ⟨op, ia, ib, q - p⟩
              · rw [hok, if_neg (by decide)] at HRN
                have hpk : packF ⟨op, ia, ib, q - p⟩ = (0, 1) := by unfold packF; rw [if_neg (by rw [hok]; decide)]
                rw [hpk] at HPK
                dsimp only at HPK
                clear hok hpk
                go_wp2_with (first | (refine listI_var rfl rfl 97 rfl _ _ rfl hI Tryz.zeroValue97 (fun _ => rfl) (fun _ => rfl) (by first | rfl | (simp only [hsz1]; first | done | rfl | kernel_rfl) | (simp only [hsz2]; first | done | rfl | kernel_rfl) | (simp only [hsz]; first | done | rfl | kernel_rfl) | kernel_rfl) (by first | exact info_mach (by assumption) | (simp only [hsz1]; kernel_rfl) | (simp only [hsz2]; kernel_rfl) | (simp only [hsz]; kernel_rfl) | kernel_rfl) (by first | (simp [Value.oneCell']; done) | exact HO1.out | exact HO2.out) fun gx w' hI' hb => ?_; (try clear hb); clear hI; have hI := hI'; clear hI'; (try simp only [mm, Act.put, Act.eval] at hI); (try clear c0); (try clear c1); (try clear c2); (try clear c3); (try clear c4); (try clear c5); (try clear c6); (try have c0 := hI.cell (i := 0) rfl); (try have c1 := hI.cell (i := 1) rfl); (try have c2 := hI.cell (i := 2) rfl); (try have c3 := hI.cell (i := 3) rfl); (try have c4 := hI.cell (i := 4) rfl); (try have c5 := hI.cell (i := 5) rfl); (try have c6 := hI.cell (i := 6) rfl); skip) | (go_at_call 31; refine (HF.out _ [_] hI).mono ?_; rintro e w' ⟨rfl, hr⟩; have hI' := InvT.frame (rc := rdR gr (.slice (some ⟨gc, 0, none⟩) cd.length cc) vl (.slice (some ⟨b, o, none⟩) holes.length cx) ⟨cd, labs, holes⟩) hI hr; clear hr; unfold rdR at hI'; simp only [List.cons_append, List.nil_append] at hI'; (try clear hb); clear hI; have hI := hI'; clear hI'; (try simp only [mm, Act.put, Act.eval] at hI); (try clear c0); (try clear c1); (try clear c2); (try clear c3); (try clear c4); (try clear c5); (try clear c6); (try have c0 := hI.cell (i := 0) rfl); (try have c1 := hI.cell (i := 1) rfl); (try have c2 := hI.cell (i := 2) rfl); (try have c3 := hI.cell (i := 3) rfl); (try have c4 := hI.cell (i := 4) rfl); (try have c5 := hI.cell (i := 5) rfl); (try have c6 := hI.cell (i := 6) rfl); skip) | (refine listI rfl fun K hK => wpI_store1 _ _ _ rfl hI rfl 4 rfl rfl rfl (by simp) (by kernel_rfl) fun w' hI' => hK _ _ ?_; clear hK K; (try clear hb); clear hI; have hI := hI'; clear hI'; (try simp only [mm, Act.put, Act.eval] at hI); (try clear c0); (try clear c1); (try clear c2); (try clear c3); (try clear c4); (try clear c5); (try clear c6); (try have c0 := hI.cell (i := 0) rfl); (try have c1 := hI.cell (i := 1) rfl); (try have c2 := hI.cell (i := 2) rfl); (try have c3 := hI.cell (i := 3) rfl); (try have c4 := hI.cell (i := 4) rfl); (try have c5 := hI.cell (i := 5) rfl); (try have c6 := hI.cell (i := 6) rfl); skip) | (go_at_call 32; (with_reducible refine (HPK.out _ (HE.out _ _ hI)).mono ?_); intro e w' hr; obtain ⟨rfl, hb⟩ := hr; have hI' := hI.on hb; (try clear hb); clear hI; have hI := hI'; clear hI'; (try simp only [mm, Act.put, Act.eval] at hI); (try clear c0); (try clear c1); (try clear c2); (try clear c3); (try clear c4); (try clear c5); (try clear c6); (try have c0 := hI.cell (i := 0) rfl); (try have c1 := hI.cell (i := 1) rfl); (try have c2 := hI.cell (i := 2) rfl); (try have c3 := hI.cell (i := 3) rfl); (try have c4 := hI.cell (i := 4) rfl); (try have c5 := hI.cell (i := 5) rfl); (try have c6 := hI.cell (i := 6) rfl); skip) | fail)
                (refine wp_region_K [4] (by kernel_rfl) hI fun w' hI' hHeld => ?_; (try clear hb); clear hI; have hI := hI'; clear hI'; (try simp only [mm, Act.put, Act.eval] at hI); (try clear c0); (try clear c1); (try clear c2); (try clear c3); (try clear c4); (try clear c5); (try clear c6); (try have c0 := hI.cell (i := 0) rfl); (try have c1 := hI.cell (i := 1) rfl); (try have c2 := hI.cell (i := 2) rfl); (try have c3 := hI.cell (i := 3) rfl); (try have c4 := hI.cell (i := 4) rfl); (try have c5 := hI.cell (i := 5) rfl); (try have c6 := hI.cell (i := 6) rfl); skip)
                (refine tk 0 ?_; (try simp only [np, Act.put])); (refine tk 1 ?_; (try simp only [np, Act.put])); (refine tk 2 ?_; (try simp only [np, Act.put])); (refine tk 3 ?_; (try simp only [np, Act.put])); (refine tk 4 ?_; (try simp only [np, Act.put])); (refine tk 5 ?_; (try simp only [np, Act.put]))
                refine wpAnyH_done (by kernel_rfl) ?_ _
                clear hHeld
                go_wp2_with fail
                go_returns
                exact ProgRet.bad (by rw [HPL.out, HRN.out]) hI
              · rw [hok, if_pos rfl] at HRN
                obtain ⟨pk, hpk⟩ : ∃ n, packF ⟨op, ia, ib, q - p⟩ = (n, 0) := by unfold packF; rw [if_pos hok]; exact ⟨_, rfl⟩
                rw [hpk] at HPK HRN
                dsimp only at HPK HRN
                rw [Int.toNat_natCast] at HRN
                clear hok hpk
                go_wp2_with (first | (refine listI_var rfl rfl 97 rfl _ _ rfl hI Tryz.zeroValue97 (fun _ => rfl) (fun _ => rfl) (by first | rfl | (simp only [hsz1]; first | done | rfl | kernel_rfl) | (simp only [hsz2]; first | done | rfl | kernel_rfl) | (simp only [hsz]; first | done | rfl | kernel_rfl) | kernel_rfl) (by first | exact info_mach (by assumption) | (simp only [hsz1]; kernel_rfl) | (simp only [hsz2]; kernel_rfl) | (simp only [hsz]; kernel_rfl) | kernel_rfl) (by first | (simp [Value.oneCell']; done) | exact HO1.out | exact HO2.out) fun gx w' hI' hb => ?_; (try clear hb); clear hI; have hI := hI'; clear hI'; (try simp only [mm, Act.put, Act.eval] at hI); (try clear c0); (try clear c1); (try clear c2); (try clear c3); (try clear c4); (try clear c5); (try clear c6); (try have c0 := hI.cell (i := 0) rfl); (try have c1 := hI.cell (i := 1) rfl); (try have c2 := hI.cell (i := 2) rfl); (try have c3 := hI.cell (i := 3) rfl); (try have c4 := hI.cell (i := 4) rfl); (try have c5 := hI.cell (i := 5) rfl); (try have c6 := hI.cell (i := 6) rfl); skip) | (go_at_call 31; refine (HF.out _ [_] hI).mono ?_; rintro e w' ⟨rfl, hr⟩; have hI' := InvT.frame (rc := rdR gr (.slice (some ⟨gc, 0, none⟩) cd.length cc) vl (.slice (some ⟨b, o, none⟩) holes.length cx) ⟨cd, labs, holes⟩) hI hr; clear hr; unfold rdR at hI'; simp only [List.cons_append, List.nil_append] at hI'; (try clear hb); clear hI; have hI := hI'; clear hI'; (try simp only [mm, Act.put, Act.eval] at hI); (try clear c0); (try clear c1); (try clear c2); (try clear c3); (try clear c4); (try clear c5); (try clear c6); (try have c0 := hI.cell (i := 0) rfl); (try have c1 := hI.cell (i := 1) rfl); (try have c2 := hI.cell (i := 2) rfl); (try have c3 := hI.cell (i := 3) rfl); (try have c4 := hI.cell (i := 4) rfl); (try have c5 := hI.cell (i := 5) rfl); (try have c6 := hI.cell (i := 6) rfl); skip) | (refine listI rfl fun K hK => wpI_store1 _ _ _ rfl hI rfl 4 rfl rfl rfl (by simp) (by kernel_rfl) fun w' hI' => hK _ _ ?_; clear hK K; (try clear hb); clear hI; have hI := hI'; clear hI'; (try simp only [mm, Act.put, Act.eval] at hI); (try clear c0); (try clear c1); (try clear c2); (try clear c3); (try clear c4); (try clear c5); (try clear c6); (try have c0 := hI.cell (i := 0) rfl); (try have c1 := hI.cell (i := 1) rfl); (try have c2 := hI.cell (i := 2) rfl); (try have c3 := hI.cell (i := 3) rfl); (try have c4 := hI.cell (i := 4) rfl); (try have c5 := hI.cell (i := 5) rfl); (try have c6 := hI.cell (i := 6) rfl); skip) | (go_at_call 32; (with_reducible refine (HPK.out _ (HE.out _ _ hI)).mono ?_); intro e w' hr; obtain ⟨rfl, hb⟩ := hr; have hI' := hI.on hb; (try clear hb); clear hI; have hI := hI'; clear hI'; (try simp only [mm, Act.put, Act.eval] at hI); (try clear c0); (try clear c1); (try clear c2); (try clear c3); (try clear c4); (try clear c5); (try clear c6); (try have c0 := hI.cell (i := 0) rfl); (try have c1 := hI.cell (i := 1) rfl); (try have c2 := hI.cell (i := 2) rfl); (try have c3 := hI.cell (i := 3) rfl); (try have c4 := hI.cell (i := 4) rfl); (try have c5 := hI.cell (i := 5) rfl); (try have c6 := hI.cell (i := 6) rfl); skip) | fail)
                (refine wp_region_KG 8 [0, 4] (by kernel_rfl) hI fun w' hI' hHeld => ?_; (try clear hb); clear hI; have hI := hI'; clear hI'; (try simp only [mm, Act.put, Act.eval] at hI); (try clear c0); (try clear c1); (try clear c2); (try clear c3); (try clear c4); (try clear c5); (try clear c6); (try have c0 := hI.cell (i := 0) rfl); (try have c1 := hI.cell (i := 1) rfl); (try have c2 := hI.cell (i := 2) rfl); (try have c3 := hI.cell (i := 3) rfl); (try have c4 := hI.cell (i := 4) rfl); (try have c5 := hI.cell (i := 5) rfl); (try have c6 := hI.cell (i := 6) rfl); skip)
                (refine tg 0 ?_; (try simp only [np, Act.put])); (refine tg 1 ?_; (try simp only [np, Act.put])); (refine tg 2 ?_; (try simp only [np, Act.put])); (refine tg 3 ?_; (try simp only [np, Act.put])); (refine tg 4 ?_; (try simp only [np, Act.put])); (refine tg 5 ?_; (try simp only [np, Act.put])); (refine tg 6 ?_; (try simp only [np, Act.put])); (refine tg 7 ?_; (try simp only [np, Act.put]))
                refine oneGs (i := 8) (by kernel_rfl) rfl (by kernel_rfl) (fun K hK => ?_)
                (refine stepI rfl (wpI_setRow1 _ _ rfl el_I hI 1 (i := p) pk rfl rfl rfl (by omega) (by simp) rfl rfl fun w' hI' => hK.out _ _ ?_); clear hK K; (try clear hb); clear hI; have hI := hI'; clear hI'; (try simp only [mm, Act.put, Act.eval] at hI); (try clear c0); (try clear c1); (try clear c2); (try clear c3); (try clear c4); (try clear c5); (try clear c6); (try have c0 := hI.cell (i := 0) rfl); (try have c1 := hI.cell (i := 1) rfl); (try have c2 := hI.cell (i := 2) rfl); (try have c3 := hI.cell (i := 3) rfl); (try have c4 := hI.cell (i := 4) rfl); (try have c5 := hI.cell (i := 5) rfl); (try have c6 := hI.cell (i := 6) rfl); skip; (try simp only [Act.put, List.setIfInBounds_toArray, List.set_cons_zero, List.set_cons_succ]))
                refine doneG (by kernel_rfl) ?_ _
                clear hHeld
                go_wp2_with fail
                go_roundw
                case rel => exact ⟨j + 1, cd.set p pk, by go_num, by omega, by rw [List.length_set]; exact hcd, HRN.out, hI.first [_, _, _, _] [_] rfl⟩
                case measure => simp [intOf]; omega
          · obtain rfl : j = holes.length := by omega
            have hdj : decide ((holes.length : Int) < (holes.length : Int)) = false := by simp
            have HRN := Lib.hid (HR.out.trans (show runH labs (holes.drop holes.length) cd = .inr cd by rw [List.drop_length]; rfl))
            (try have c0 := hI.cell (i := 0) rfl); (try have c1 := hI.cell (i := 1) rfl); (try have c2 := hI.cell (i := 2) rfl); (try have c3 := hI.cell (i := 3) rfl); (try have c4 := hI.cell (i := 4) rfl); (try have c5 := hI.cell (i := 5) rfl); (try have c6 := hI.cell (i := 6) rfl); skip
            go_wp2_with fail
            (refine wp_region_K [0] (by kernel_rfl) hI fun w' hI' hHeld => ?_; (try clear hb); clear hI; have hI := hI'; clear hI'; (try simp only [mm, Act.put, Act.eval] at hI); (try clear c0); (try clear c1); (try clear c2); (try clear c3); (try clear c4); (try clear c5); (try clear c6); (try have c0 := hI.cell (i := 0) rfl); (try have c1 := hI.cell (i := 1) rfl); (try have c2 := hI.cell (i := 2) rfl); (try have c3 := hI.cell (i := 3) rfl); (try have c4 := hI.cell (i := 4) rfl); (try have c5 := hI.cell (i := 5) rfl); (try have c6 := hI.cell (i := 6) rfl); skip)
            (refine tk 0 ?_; (try simp only [np, Act.put])); (refine tk 1 ?_; (try simp only [np, Act.put])); (refine tk 2 ?_; (try simp only [np, Act.put])); (refine tk 3 ?_; (try simp only [np, Act.put])); (refine tk 4 ?_; (try simp only [np, Act.put])); (refine tk 5 ?_; (try simp only [np, Act.put])); (refine tk 6 ?_; (try simp only [np, Act.put])); (refine tk 7 ?_; (try simp only [np, Act.put])); (refine tk 8 ?_; (try simp only [np, Act.put])); (refine tk 9 ?_; (try simp only [np, Act.put])); (refine tk 10 ?_; (try simp only [np, Act.put])); (refine tk 11 ?_; (try simp only [np, Act.put]))
            refine wpAnyH_done (by kernel_rfl) ?_ _
            clear hHeld
            go_wp2_with fail
            go_returns
            have hpr : pr = ⟨cd, labs, 0, 0⟩ := by rw [HPL.out, HRN.out]
            subst hpr
            exact ⟨vc, vl, rfl, hI.pick [1, 2] _ (by decide) rfl⟩
end Go.Proofs.YtbkjhdohkdeniaaGreatDoor
